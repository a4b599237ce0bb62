import Derived.Test.Qxb6500568aGreatDoorXp
/- The model's parser: statements; all contracts. -/
namespace Go.Proofs.Qxb6500568aGreatDoor
open Ieee
set_option linter.unusedVariables false
set_option linter.unusedSimpArgs false

section
variable {n f : Nat} {w u u' : World} {mp : Nat} {np : Value} {src : Str} {U U1 : Value} {G G1 G2 : List (Nd × Nat)} {s s1 s2 : PS} {lv lv1 e p k x : Nat} {t : Tr} {r : Value}
theorem EF.ex (h : EF w mp U lv u e p) : Ret Tryz.prog 160 [ptr mp, i64c lv1] u (fun r u' => r = i64c 0 ∧ u' = u) := by
  obtain ⟨np', src', pos', t', U', al', lo', fu', hX, h3⟩ := h.blk
  unfold mpc at hX
  refine ret_of Tryz.func160 rfl Tryz.ntmps160 rfl ?_
  refine c_seq (fun K1 hK1 => ?_)
  refine c_reg ?_ -- region 0 syntaxm.go:768
  refine wl (ro_assign rfl) ?_
  refine wl_nil (x_then (hK1 _ _ ?_))
  clear hK1 K1
  refine c_seq (fun K2 hK2 => ?_)
  refine c_seq (fun K3 hK3 => ?_)
  refine c_reg ?_ -- region 1 syntaxm.go:769
  refine wl (ro_move rfl) ?_
  refine wl (ro_nilCheck rfl) ?_
  refine wl (ro_fieldAddr (k := 9) rfl fo_146_5) ?_
  refine wl (ro_loadB rfl sc_54 (by assumption) rfl) ?_
  refine wl (ro_cmp rfl rfl rfl) ?_
  refine wl_nil (x_then (hK3 _ _ ?_))
  clear hK3 K3
  refine wc_cond rfl (fun hc12 => ?_) (fun hc12 => ?_)
  · try simp only [decide_eq_true_eq, decide_eq_false_iff_not, Bool.not_eq_true', Bool.not_eq_false', Bool.not_eq_eq_eq_not, Bool.not_true, Bool.not_false, beq_iff_eq, bne_iff_ne, ne_eq, beq_eq_false_iff_ne, bne_eq_false_iff_eq, gt_iff_lt, ge_iff_le, Int.not_lt, Int.not_le] at hc12
    refine c_seq (fun K4 hK4 => ?_)
    refine c_reg ?_ -- region 2 syntaxm.go:770
    refine wl (ro_assign rfl) ?_
    refine wl_nil (x_then (hK4 _ _ ?_))
    clear hK4 K4
    refine c_ret (x_thenR ?_)
    refine bp_ret Tryz.results160 rfl ?_
    exact ⟨rfl, rfl⟩
  · try simp only [decide_eq_true_eq, decide_eq_false_iff_not, Bool.not_eq_true', Bool.not_eq_false', Bool.not_eq_eq_eq_not, Bool.not_true, Bool.not_false, beq_iff_eq, bne_iff_ne, ne_eq, beq_eq_false_iff_ne, bne_eq_false_iff_eq, gt_iff_lt, ge_iff_le, Int.not_lt, Int.not_le] at hc12
    omega
theorem EF.is (h : EF w mp U lv u e p) {z : Str} : Ret Tryz.prog 156 [ptr mp, S z] u (fun r u' => (∃ b : Bool, r = .bool b) ∧ u' = u) := isE156 h.2
/-- Postfix expressions. -/
theorem MS.pE (h : MS w mp np src U G lv u U1 G1 s1) (ih : MAll n) (hl : lv ≤ 12) (hn : 20 * s1.len + 2 ≤ n) (hq : parP f 3 (lv + 1) 0 0 dumT s1 = some (.inl (e, p))) : Ret Tryz.prog 163 [ptr mp, i64c (lv + 1)] u (fun r u' => (∃ z : Int, r = .int .i64 z) ∧ EF w mp U lv u' e p) :=
  (ih.po (h.mg (by omega) (by omega)) hn ⟨f, hq⟩).mono (fun r u' hr => h.err (by omega) hr)
theorem MS.pK (h : MS w mp np src U G lv u U1 G1 s1) (ih : MAll n) (hl : lv ≤ 12) (hn : 20 * s1.len + 2 ≤ n) (hq : parP f 3 (lv + 1) 0 0 dumT s1 = some (.inr (t, s2))) : Ret Tryz.prog 163 [ptr mp, i64c (lv + 1)] u (fun r u' => ∃ U2 G2, r = i64c (rt t G1.length) ∧ MS w mp np src U G lv u' U2 G2 s2 ∧ G2.map Prod.fst = G1.map Prod.fst ++ lay t G1.length ∧ G2.length = G1.length + ndT t ∧ QE t (bR (lv + 1) 7) ∧ s2.al = s1.al ∧ ndT t + 2 + 3 * s2.len ≤ 3 * s1.len) := by
  obtain ⟨h1, h2, _, h3⟩ := (par_q f).i3 h.pe t s2 hq
  have h4 : ndT t + 2 + 3 * s2.len ≤ 3 * s1.len := ((IB.all f).p t s2 hq).2
  refine (ih.po (h.mg (by omega) (by omega)) hn ⟨f, hq⟩).mono (fun r u' hr => ?_)
  obtain ⟨U2, G2, q1, q2, q3, q4⟩ := h.ok hr h2.toCm h2.lo (by omega)
  exact ⟨U2, G2, q1, q2, q3, q4, h1, h2.al, h4⟩
end
section
variable {x y z : Tr} {c k : Nat} {s t : Str}
theorem lay_whl : lay (St.whl x y) c = lay x c ++ lay y (c + ndT x) ++ [⟨7, rt x c, rt y (c + ndT x), 0, 0, 0, []⟩] := rfl
theorem lay_ret2 : lay (St.ret2 x y) c = lay x c ++ lay y (c + ndT x) ++ [⟨10, rt x c, rt y (c + ndT x), 0, 0, 0, []⟩] := rfl
theorem lay_ret1 : lay (St.ret1 x) c = lay x c ++ [⟨10, rt x c, 0, 0, 0, 0, []⟩] := rfl
theorem lay_setN : lay (St.setN s x) c = lay (Ex.name s) c ++ lay x (c + 1) ++ [⟨4, c, rt x (c + 1), 0, 0, 0, []⟩] := rfl
theorem lay_setI : lay (St.setI x y z) c = lay (Ex.index x y) c ++ lay z (c + ndT x + ndT y + 1) ++ [⟨4, c + ndT x + ndT y, rt z (c + ndT x + ndT y + 1), 0, 0, 0, []⟩] := rfl
theorem lay_scall : lay (St.call x y) c = lay (Ex.call x y) c ++ [⟨5, c + ndT x + ndT y, 0, 0, 0, 0, []⟩] := rfl
end
set_option maxHeartbeats 8000000 in
theorem stmt106 {n : Nat} {w : World} {mp : Nat} {np : Value} {src : Str} {U : Value} {G : List (Nd × Nat)} {s : PS} {lv : Nat} {R : PO} (ih : MAll n) (hG : MG w mp np src U G s lv) (hlv : lv ≤ 12) (hn : 20 * s.len + 13 ≤ n + 1) (hR : Run 8 lv 0 0 dumT s R) : Ret Tryz.prog 106 [ptr mp, i64c lv] w (MR w mp np src lv U G R) := by
  have hS0 := hG.ms
  have hg1 := hG.g1
  have hbd := hG.bd
  obtain ⟨f, hR⟩ := run_step.1 hR
  replace hR : pStmt (parP f) lv s = some R := hR
  unfold pStmt at hR
  obtain ⟨pos0, hX, hpos0⟩ := hG.a.v.ex
  unfold mpc at hX
  refine ret_of Tryz.func106 rfl Tryz.ntmps106 rfl ?_
  refine c_seq (fun K1 hK1 => ?_)
  refine c_reg ?_ -- region 0 syntaxm.go:415
  refine wl (ro_assign rfl) ?_
  refine wl_nil (x_then (hK1 _ _ ?_))
  clear hK1 K1
  refine forget [(0, _), (1, _)] ⟨rfl, rfl, trivial⟩ (fun e => ?_)
  refine c_seq (fun K2 hK2 => ?_)
  refine c_reg ?_ -- region 1 syntaxm.go:416
  refine wl (ro_move rfl) ?_
  refine wl (ro_nilCheck rfl) ?_
  refine wl (ro_fieldAddr (k := 3) rfl fo_146_3) ?_
  refine wl (ro_fieldAddr (k := 3) rfl fo_144_3) ?_
  refine wl (ro_loadB rfl sc_3 (by assumption) rfl) ?_
  refine wl (ro_assign rfl) ?_
  refine wl_nil (x_then (hK2 _ _ ?_))
  clear hK2 K2
  refine c_seq (fun K3 hK3 => ?_)
  refine c_seq (fun K4 hK4 => ?_)
  refine c_reg ?_ -- region 2 syntaxm.go:417
  refine wl (ro_move rfl) ?_
  refine wl_call rfl en_156 (hS0.is (k := 15) (by decide) (by decide)) ?_
  rintro _ w9 ⟨rfl, e9⟩
  replace e9 := e9.symm
  subst e9
  refine wl_nil (x_then (hK4 _ _ ?_))
  clear hK4 K4
  refine wc_cond rfl (fun hc19 => ?_) (fun hc19 => ?_)
  · try simp only [decide_eq_true_eq, decide_eq_false_iff_not, Bool.not_eq_true', Bool.not_eq_false', Bool.not_eq_eq_eq_not, Bool.not_true, Bool.not_false, beq_iff_eq, bne_iff_ne, ne_eq, beq_eq_false_iff_ne, bne_eq_false_iff_eq, gt_iff_lt, ge_iff_le, Int.not_lt, Int.not_le] at hc19
    rw [if_pos (by omega)] at hR
    refine c_seq (fun K5 hK5 => ?_)
    refine c_reg ?_ -- region 3 syntaxm.go:418
    refine wl (ro_move rfl) ?_
    refine wl (ro_move rfl) ?_
    refine wl_call rfl en_157 (local157 ih hG hlv (by omega) (by omega) hR) ?_
    rintro v u1 hr
    refine wl (ro_assign rfl) ?_
    refine wl_nil (x_then (hK5 _ _ ?_))
    clear hK5 K5
    refine c_ret (x_thenR ?_)
    refine bp_ret Tryz.results106 rfl ?_
    exact hr
  · try simp only [decide_eq_true_eq, decide_eq_false_iff_not, Bool.not_eq_true', Bool.not_eq_false', Bool.not_eq_eq_eq_not, Bool.not_true, Bool.not_false, beq_iff_eq, bne_iff_ne, ne_eq, beq_eq_false_iff_ne, bne_eq_false_iff_eq, gt_iff_lt, ge_iff_le, Int.not_lt, Int.not_le] at hc19
    rw [if_neg (by omega)] at hR
    refine c_skip (x_then (hK3 _ _ ?_))
    clear hK3 K3
    refine c_seq (fun K6 hK6 => ?_)
    refine c_seq (fun K7 hK7 => ?_)
    refine c_reg ?_ -- region 4 syntaxm.go:420
    refine wl (ro_move rfl) ?_
    refine wl_call rfl en_156 (hS0.is (k := 13) (by decide) (by decide)) ?_
    rintro _ w9 ⟨rfl, e9⟩
    replace e9 := e9.symm
    subst e9
    refine wl_nil (x_then (hK7 _ _ ?_))
    clear hK7 K7
    refine wc_cond rfl (fun hc24 => ?_) (fun hc24 => ?_)
    · try simp only [decide_eq_true_eq, decide_eq_false_iff_not, Bool.not_eq_true', Bool.not_eq_false', Bool.not_eq_eq_eq_not, Bool.not_true, Bool.not_false, beq_iff_eq, bne_iff_ne, ne_eq, beq_eq_false_iff_ne, bne_eq_false_iff_eq, gt_iff_lt, ge_iff_le, Int.not_lt, Int.not_le] at hc24
      rw [if_pos (by omega)] at hR
      refine c_seq (fun K8 hK8 => ?_)
      refine c_reg ?_ -- region 5 syntaxm.go:421
      refine wl (ro_move rfl) ?_
      refine wl (ro_move rfl) ?_
      refine wl_call rfl en_158 (ifStmt158 ih hG hlv (by omega) (by omega) ⟨f, hR⟩) ?_
      rintro v u1 hr
      refine wl (ro_assign rfl) ?_
      refine wl_nil (x_then (hK8 _ _ ?_))
      clear hK8 K8
      refine c_ret (x_thenR ?_)
      refine bp_ret Tryz.results106 rfl ?_
      exact hr
    · try simp only [decide_eq_true_eq, decide_eq_false_iff_not, Bool.not_eq_true', Bool.not_eq_false', Bool.not_eq_eq_eq_not, Bool.not_true, Bool.not_false, beq_iff_eq, bne_iff_ne, ne_eq, beq_eq_false_iff_ne, bne_eq_false_iff_eq, gt_iff_lt, ge_iff_le, Int.not_lt, Int.not_le] at hc24
      rw [if_neg (by omega)] at hR
      refine c_skip (x_then (hK6 _ _ ?_))
      clear hK6 K6
      refine c_seq (fun K9 hK9 => ?_)
      refine c_seq (fun K10 hK10 => ?_)
      refine c_reg ?_ -- region 6 syntaxm.go:423
      refine wl (ro_move rfl) ?_
      refine wl_call rfl en_156 (hS0.is (k := 11) (by decide) (by decide)) ?_
      rintro _ w9 ⟨rfl, e9⟩
      replace e9 := e9.symm
      subst e9
      refine wl_nil (x_then (hK10 _ _ ?_))
      clear hK10 K10
      refine wc_cond rfl (fun hc29 => ?_) (fun hc29 => ?_)
      · try simp only [decide_eq_true_eq, decide_eq_false_iff_not, Bool.not_eq_true', Bool.not_eq_false', Bool.not_eq_eq_eq_not, Bool.not_true, Bool.not_false, beq_iff_eq, bne_iff_ne, ne_eq, beq_eq_false_iff_ne, bne_eq_false_iff_eq, gt_iff_lt, ge_iff_le, Int.not_lt, Int.not_le] at hc29
        rw [if_pos (by omega)] at hR
        refine c_seq (fun K11 hK11 => ?_)
        refine c_reg ?_ -- region 7 syntaxm.go:424
        refine wl (ro_move rfl) ?_
        refine wl (ro_move rfl) ?_
        refine wl_call rfl en_159 (for159 ih hG hlv (by omega) (by omega) hR) ?_
        rintro v u1 hr
        refine wl (ro_assign rfl) ?_
        refine wl_nil (x_then (hK11 _ _ ?_))
        clear hK11 K11
        refine c_ret (x_thenR ?_)
        refine bp_ret Tryz.results106 rfl ?_
        exact hr
      · try simp only [decide_eq_true_eq, decide_eq_false_iff_not, Bool.not_eq_true', Bool.not_eq_false', Bool.not_eq_eq_eq_not, Bool.not_true, Bool.not_false, beq_iff_eq, bne_iff_ne, ne_eq, beq_eq_false_iff_ne, bne_eq_false_iff_eq, gt_iff_lt, ge_iff_le, Int.not_lt, Int.not_le] at hc29
        rw [if_neg (by omega)] at hR
        refine c_skip (x_then (hK9 _ _ ?_))
        clear hK9 K9
        refine c_seq (fun K12 hK12 => ?_)
        refine c_seq (fun K13 hK13 => ?_)
        refine c_reg ?_ -- region 8 syntaxm.go:426
        refine wl (ro_move rfl) ?_
        refine wl_call rfl en_156 (hS0.is (k := 21) (by decide) (by decide)) ?_
        rintro _ w9 ⟨rfl, e9⟩
        replace e9 := e9.symm
        subst e9
        refine wl_nil (x_then (hK13 _ _ ?_))
        clear hK13 K13
        refine wc_cond rfl (fun hc34 => ?_) (fun hc34 => ?_)
        · try simp only [decide_eq_true_eq, decide_eq_false_iff_not, Bool.not_eq_true', Bool.not_eq_false', Bool.not_eq_eq_eq_not, Bool.not_true, Bool.not_false, beq_iff_eq, bne_iff_ne, ne_eq, beq_eq_false_iff_ne, bne_eq_false_iff_eq, gt_iff_lt, ge_iff_le, Int.not_lt, Int.not_le] at hc34
          rw [if_pos (by omega)] at hR
          have ha0 := adv_len' (s := s) (by omega)
          refine c_seq (fun K14 hK14 => ?_)
          refine c_reg ?_ -- region 9 syntaxm.go:427
          refine wl (ro_move rfl) ?_
          refine wl_call rfl en_48 (hS0.next (by omega)) ?_
          rintro _ u1 ⟨rfl, hS1⟩
          refine wl_nil (x_then (hK14 _ _ ?_))
          clear hK14 K14
          refine forget [(0, _), (1, _), (5, _)] ⟨rfl, rfl, rfl, trivial⟩ (fun e => ?_)
          refine c_seq (fun K15 hK15 => ?_)
          rcases bdP_some hR with ⟨⟨ee, pp⟩, hq, rfl⟩ | ⟨t1, s1, hq, hR⟩
          · skip
            refine c_reg ?_ -- region 10 syntaxm.go:428
            refine wl (ro_move rfl) ?_
            refine wl (ro_move rfl) ?_
            refine wl (ro_arith rfl rfl rfl (Go.IntWalk.i64_in _ (by omega))) ?_
            refine wl_call rfl en_160 (hS1.xE ih hlv (by omega) hq) ?_
            rintro v u2 ⟨⟨z, rfl⟩, hE⟩
            obtain ⟨np', src', pos', t', U', al', lo', fu', hXe, h3⟩ := hE.blk
            unfold mpc at hXe
            refine wl (ro_assign rfl) ?_
            refine wl_nil (x_then (hK15 _ _ ?_))
            clear hK15 K15
            refine c_seq (fun K16 hK16 => ?_)
            refine c_seq (fun K17 hK17 => ?_)
            refine c_reg ?_ -- region 11 syntaxm.go:429
            refine wl (ro_move rfl) ?_
            refine wl (ro_nilCheck rfl) ?_
            refine wl (ro_fieldAddr (k := 9) rfl fo_146_5) ?_
            refine wl (ro_loadB rfl sc_54 (by assumption) rfl) ?_
            refine wl (ro_cmp rfl rfl rfl) ?_
            refine wl_nil (x_then (hK17 _ _ ?_))
            clear hK17 K17
            refine wc_cond rfl (fun hc45 => ?_) (fun hc45 => ?_)
            · try simp only [decide_eq_true_eq, decide_eq_false_iff_not, Bool.not_eq_true', Bool.not_eq_false', Bool.not_eq_eq_eq_not, Bool.not_true, Bool.not_false, beq_iff_eq, bne_iff_ne, ne_eq, beq_eq_false_iff_ne, bne_eq_false_iff_eq, gt_iff_lt, ge_iff_le, Int.not_lt, Int.not_le] at hc45
              refine c_seq (fun K18 hK18 => ?_)
              refine c_reg ?_ -- region 12 syntaxm.go:430
              refine wl (ro_assign rfl) ?_
              refine wl_nil (x_then (hK18 _ _ ?_))
              clear hK18 K18
              refine c_ret (x_thenR (x_thenR ?_))
              refine bp_ret Tryz.results106 rfl ?_
              exact hE.mr
            · try simp only [decide_eq_true_eq, decide_eq_false_iff_not, Bool.not_eq_true', Bool.not_eq_false', Bool.not_eq_eq_eq_not, Bool.not_true, Bool.not_false, beq_iff_eq, bne_iff_ne, ne_eq, beq_eq_false_iff_ne, bne_eq_false_iff_eq, gt_iff_lt, ge_iff_le, Int.not_lt, Int.not_le] at hc45
              omega
          · skip
            refine c_reg ?_ -- region 10 syntaxm.go:428
            refine wl (ro_move rfl) ?_
            refine wl (ro_move rfl) ?_
            refine wl (ro_arith rfl rfl rfl (Go.IntWalk.i64_in _ (by omega))) ?_
            refine wl_call rfl en_160 (hS1.xK ih hlv (by omega) hq) ?_
            rintro v u2 ⟨U2, G2, rfl, hS2, m2, l2, q2, al2, b2⟩
            have al3 : s1.al = s.al := al2
            have al4 := hG.a.v.al
            obtain ⟨pos2, hX2, hpos2⟩ := hS2.a.v.ex
            unfold mpc at hX2
            refine wl (ro_assign rfl) ?_
            refine wl_nil (x_then (hK15 _ _ ?_))
            clear hK15 K15
            refine c_seq (fun K19 hK19 => ?_)
            refine c_seq (fun K20 hK20 => ?_)
            refine c_reg ?_ -- region 11 syntaxm.go:429
            refine wl (ro_move rfl) ?_
            refine wl (ro_nilCheck rfl) ?_
            refine wl (ro_fieldAddr (k := 9) rfl fo_146_5) ?_
            refine wl (ro_loadB rfl sc_54 (by assumption) rfl) ?_
            refine wl (ro_cmp rfl rfl rfl) ?_
            refine wl_nil (x_then (hK20 _ _ ?_))
            clear hK20 K20
            refine wc_cond rfl (fun hc45 => ?_) (fun hc45 => ?_)
            · try simp only [decide_eq_true_eq, decide_eq_false_iff_not, Bool.not_eq_true', Bool.not_eq_false', Bool.not_eq_eq_eq_not, Bool.not_true, Bool.not_false, beq_iff_eq, bne_iff_ne, ne_eq, beq_eq_false_iff_ne, bne_eq_false_iff_eq, gt_iff_lt, ge_iff_le, Int.not_lt, Int.not_le] at hc45
              exact absurd rfl hc45
            · try simp only [decide_eq_true_eq, decide_eq_false_iff_not, Bool.not_eq_true', Bool.not_eq_false', Bool.not_eq_eq_eq_not, Bool.not_true, Bool.not_false, beq_iff_eq, bne_iff_ne, ne_eq, beq_eq_false_iff_ne, bne_eq_false_iff_eq, gt_iff_lt, ge_iff_le, Int.not_lt, Int.not_le] at hc45
              refine c_skip (x_then (hK19 _ _ ?_))
              clear hK19 K19
              refine forget [(0, _), (1, _), (5, _), (6, _)] ⟨rfl, rfl, rfl, rfl, trivial⟩ (fun e => ?_)
              refine c_seq (fun K21 hK21 => ?_)
              rcases bdP_some hR with ⟨⟨ee, pp⟩, hq, rfl⟩ | ⟨t2, s3, hq, hR⟩
              · skip
                refine c_reg ?_ -- region 13 syntaxm.go:432
                refine wl (ro_move rfl) ?_
                refine wl (ro_move rfl) ?_
                refine wl_call rfl en_161 (hS2.dE (m := 0) ih hlv (by decide) (by omega) (by omega) hq) ?_
                rintro v u3 ⟨⟨z, rfl⟩, hE⟩
                obtain ⟨np', src', pos', t', U', al', lo', fu', hXe, h3⟩ := hE.blk
                unfold mpc at hXe
                refine wl (ro_assign rfl) ?_
                refine wl_nil (x_then (hK21 _ _ ?_))
                clear hK21 K21
                refine c_seq (fun K22 hK22 => ?_)
                refine c_seq (fun K23 hK23 => ?_)
                refine c_reg ?_ -- region 14 syntaxm.go:433
                refine wl (ro_move rfl) ?_
                refine wl (ro_nilCheck rfl) ?_
                refine wl (ro_fieldAddr (k := 9) rfl fo_146_5) ?_
                refine wl (ro_loadB rfl sc_54 (by assumption) rfl) ?_
                refine wl (ro_cmp rfl rfl rfl) ?_
                refine wl_nil (x_then (hK23 _ _ ?_))
                clear hK23 K23
                refine wc_cond rfl (fun hc53 => ?_) (fun hc53 => ?_)
                · try simp only [decide_eq_true_eq, decide_eq_false_iff_not, Bool.not_eq_true', Bool.not_eq_false', Bool.not_eq_eq_eq_not, Bool.not_true, Bool.not_false, beq_iff_eq, bne_iff_ne, ne_eq, beq_eq_false_iff_ne, bne_eq_false_iff_eq, gt_iff_lt, ge_iff_le, Int.not_lt, Int.not_le] at hc53
                  refine c_seq (fun K24 hK24 => ?_)
                  refine c_reg ?_ -- region 15 syntaxm.go:434
                  refine wl (ro_assign rfl) ?_
                  refine wl_nil (x_then (hK24 _ _ ?_))
                  clear hK24 K24
                  refine c_ret (x_thenR (x_thenR ?_))
                  refine bp_ret Tryz.results106 rfl ?_
                  exact hE.mr
                · try simp only [decide_eq_true_eq, decide_eq_false_iff_not, Bool.not_eq_true', Bool.not_eq_false', Bool.not_eq_eq_eq_not, Bool.not_true, Bool.not_false, beq_iff_eq, bne_iff_ne, ne_eq, beq_eq_false_iff_ne, bne_eq_false_iff_eq, gt_iff_lt, ge_iff_le, Int.not_lt, Int.not_le] at hc53
                  omega
              · skip
                refine c_reg ?_ -- region 13 syntaxm.go:432
                refine wl (ro_move rfl) ?_
                refine wl (ro_move rfl) ?_
                refine wl_call rfl en_161 (hS2.dK (m := 0) ih hlv (by decide) (by omega) (by omega) hq) ?_
                rintro v u3 ⟨U3, G3, rfl, hS3, m3, l3, q3, al5, b3⟩
                obtain ⟨pos3, hX3, hpos3⟩ := hS3.a.v.ex
                unfold mpc at hX3
                refine wl (ro_assign rfl) ?_
                refine wl_nil (x_then (hK21 _ _ ?_))
                clear hK21 K21
                refine c_seq (fun K25 hK25 => ?_)
                refine c_seq (fun K26 hK26 => ?_)
                refine c_reg ?_ -- region 14 syntaxm.go:433
                refine wl (ro_move rfl) ?_
                refine wl (ro_nilCheck rfl) ?_
                refine wl (ro_fieldAddr (k := 9) rfl fo_146_5) ?_
                refine wl (ro_loadB rfl sc_54 (by assumption) rfl) ?_
                refine wl (ro_cmp rfl rfl rfl) ?_
                refine wl_nil (x_then (hK26 _ _ ?_))
                clear hK26 K26
                refine wc_cond rfl (fun hc53 => ?_) (fun hc53 => ?_)
                · try simp only [decide_eq_true_eq, decide_eq_false_iff_not, Bool.not_eq_true', Bool.not_eq_false', Bool.not_eq_eq_eq_not, Bool.not_true, Bool.not_false, beq_iff_eq, bne_iff_ne, ne_eq, beq_eq_false_iff_ne, bne_eq_false_iff_eq, gt_iff_lt, ge_iff_le, Int.not_lt, Int.not_le] at hc53
                  exact absurd rfl hc53
                · try simp only [decide_eq_true_eq, decide_eq_false_iff_not, Bool.not_eq_true', Bool.not_eq_false', Bool.not_eq_eq_eq_not, Bool.not_true, Bool.not_false, beq_iff_eq, bne_iff_ne, ne_eq, beq_eq_false_iff_ne, bne_eq_false_iff_eq, gt_iff_lt, ge_iff_le, Int.not_lt, Int.not_le] at hc53
                  refine c_skip (x_then (hK25 _ _ ?_))
                  clear hK25 K25
                  refine forget [(0, _), (5, _), (6, _), (7, _)] ⟨rfl, rfl, rfl, rfl, trivial⟩ (fun e => ?_)
                  refine c_seq (fun K27 hK27 => ?_)
                  refine c_reg ?_ -- region 16 syntaxm.go:436
                  refine wl (ro_move rfl) ?_
                  refine wl (ro_move rfl) ?_
                  refine wl (ro_move rfl) ?_
                  refine wl (ro_move rfl) ?_
                  refine wl (ro_build rfl bld_148_0_1_2_7) ?_
                  refine wl_call rfl en_162 (hS3.add (x := (⟨7, rt t1 G.length, rt t2 G2.length, 0, 0, 0, []⟩, s.cur.pl)) (by omega)) ?_
                  rintro _ u4 ⟨rfl, U4, hS4⟩
                  refine wl (ro_assign rfl) ?_
                  refine wl_nil (x_then (hK27 _ _ ?_))
                  clear hK27 K27
                  refine c_ret (x_thenR ?_)
                  refine bp_ret Tryz.results106 rfl ?_
                  cases okP_inj hR
                  refine hS4.fin ?_ ?_ ?_
                  · rw [List.map_append, m3, m2, l2, lay_whl]
                    simp only [List.append_assoc]
                    rfl
                  · rw [List.length_append]
                    show _ = G.length + (1 + ndT t1 + ndT t2)
                    simp only [List.length_cons, List.length_nil]
                    omega
                  · show _ = G.length + (1 + ndT t1 + ndT t2) - 1
                    omega
        · try simp only [decide_eq_true_eq, decide_eq_false_iff_not, Bool.not_eq_true', Bool.not_eq_false', Bool.not_eq_eq_eq_not, Bool.not_true, Bool.not_false, beq_iff_eq, bne_iff_ne, ne_eq, beq_eq_false_iff_ne, bne_eq_false_iff_eq, gt_iff_lt, ge_iff_le, Int.not_lt, Int.not_le] at hc34
          rw [if_neg (by omega)] at hR
          refine c_skip (x_then (hK12 _ _ ?_))
          clear hK12 K12
          refine c_seq (fun K28 hK28 => ?_)
          refine c_seq (fun K29 hK29 => ?_)
          refine c_reg ?_ -- region 17 syntaxm.go:438
          refine wl (ro_move rfl) ?_
          refine wl_call rfl en_156 (hS0.is (k := 5) (by decide) (by decide)) ?_
          rintro _ w9 ⟨rfl, e9⟩
          replace e9 := e9.symm
          subst e9
          refine wl_nil (x_then (hK29 _ _ ?_))
          clear hK29 K29
          refine wc_cond rfl (fun hc61 => ?_) (fun hc61 => ?_)
          · try simp only [decide_eq_true_eq, decide_eq_false_iff_not, Bool.not_eq_true', Bool.not_eq_false', Bool.not_eq_eq_eq_not, Bool.not_true, Bool.not_false, beq_iff_eq, bne_iff_ne, ne_eq, beq_eq_false_iff_ne, bne_eq_false_iff_eq, gt_iff_lt, ge_iff_le, Int.not_lt, Int.not_le] at hc61
            rw [if_pos (by omega)] at hR
            have ha0 := adv_len' (s := s) (by omega)
            refine c_seq (fun K30 hK30 => ?_)
            refine c_seq (fun K31 hK31 => ?_)
            refine c_reg ?_ -- region 18 syntaxm.go:439
            refine wl (ro_move rfl) ?_
            refine wl (ro_nilCheck rfl) ?_
            refine wl (ro_fieldAddr (k := 12) rfl fo_146_8) ?_
            refine wl (ro_loadB rfl sc_3 (by assumption) rfl) ?_
            refine wl (ro_cmp rfl rfl rfl) ?_
            refine wl_nil (x_then (hK31 _ _ ?_))
            clear hK31 K31
            refine wc_cond rfl (fun hc66 => ?_) (fun hc66 => ?_)
            · try simp only [decide_eq_true_eq, decide_eq_false_iff_not, Bool.not_eq_true', Bool.not_eq_false', Bool.not_eq_eq_eq_not, Bool.not_true, Bool.not_false, beq_iff_eq, bne_iff_ne, ne_eq, beq_eq_false_iff_ne, bne_eq_false_iff_eq, gt_iff_lt, ge_iff_le, Int.not_lt, Int.not_le] at hc66
              rw [if_pos (by omega)] at hR
              cases failP_inj hR
              refine c_seq (fun K32 hK32 => ?_)
              refine c_reg ?_ -- region 19 syntaxm.go:440
              refine wl (ro_move rfl) ?_
              refine wl_call rfl en_50 (hS0.fail (c := 15) (by decide) (by omega)) ?_
              rintro _ u2 ⟨rfl, hE⟩
              refine wl_nil (x_then (hK32 _ _ ?_))
              clear hK32 K32
              refine forget [] trivial (fun e => ?_)
              refine c_seq (fun K33 hK33 => ?_)
              refine c_reg ?_ -- region 20 syntaxm.go:441
              refine wl (ro_assign rfl) ?_
              refine wl_nil (x_then (hK33 _ _ ?_))
              clear hK33 K33
              refine c_ret (x_thenR (x_thenR ?_))
              refine bp_ret Tryz.results106 rfl ?_
              exact hE.mr
            · try simp only [decide_eq_true_eq, decide_eq_false_iff_not, Bool.not_eq_true', Bool.not_eq_false', Bool.not_eq_eq_eq_not, Bool.not_true, Bool.not_false, beq_iff_eq, bne_iff_ne, ne_eq, beq_eq_false_iff_ne, bne_eq_false_iff_eq, gt_iff_lt, ge_iff_le, Int.not_lt, Int.not_le] at hc66
              rw [if_neg (by omega)] at hR
              cases okP_inj hR
              refine c_skip (x_then (hK30 _ _ ?_))
              clear hK30 K30
              refine forget [(0, _), (5, _)] ⟨rfl, rfl, trivial⟩ (fun e => ?_)
              refine c_seq (fun K34 hK34 => ?_)
              refine c_reg ?_ -- region 21 syntaxm.go:443
              refine wl (ro_move rfl) ?_
              refine wl_call rfl en_48 (hS0.next (by omega)) ?_
              rintro _ u1 ⟨rfl, hS1⟩
              refine wl_nil (x_then (hK34 _ _ ?_))
              clear hK34 K34
              refine forget [(0, _), (5, _)] ⟨rfl, rfl, trivial⟩ (fun e => ?_)
              refine c_seq (fun K35 hK35 => ?_)
              refine c_reg ?_ -- region 22 syntaxm.go:444
              refine wl (ro_move rfl) ?_
              refine wl (ro_move rfl) ?_
              refine wl (ro_build rfl bld_148_0_7) ?_
              refine wl_call rfl en_162 (hS1.add (x := (⟨11, 0, 0, 0, 0, 0, []⟩, s.cur.pl)) (by omega)) ?_
              rintro _ u4 ⟨rfl, U4, hS4⟩
              refine wl (ro_assign rfl) ?_
              refine wl_nil (x_then (hK35 _ _ ?_))
              clear hK35 K35
              refine c_ret (x_thenR ?_)
              refine bp_ret Tryz.results106 rfl ?_
              exact hS4.fin (by rw [List.map_append]; rfl) (by rw [List.length_append]; rfl) rfl
          · try simp only [decide_eq_true_eq, decide_eq_false_iff_not, Bool.not_eq_true', Bool.not_eq_false', Bool.not_eq_eq_eq_not, Bool.not_true, Bool.not_false, beq_iff_eq, bne_iff_ne, ne_eq, beq_eq_false_iff_ne, bne_eq_false_iff_eq, gt_iff_lt, ge_iff_le, Int.not_lt, Int.not_le] at hc61
            rw [if_neg (by omega)] at hR
            refine c_skip (x_then (hK28 _ _ ?_))
            clear hK28 K28
            refine c_seq (fun K36 hK36 => ?_)
            refine c_seq (fun K37 hK37 => ?_)
            refine c_reg ?_ -- region 23 syntaxm.go:446
            refine wl (ro_move rfl) ?_
            refine wl_call rfl en_156 (hS0.is (k := 18) (by decide) (by decide)) ?_
            rintro _ w9 ⟨rfl, e9⟩
            replace e9 := e9.symm
            subst e9
            refine wl_nil (x_then (hK37 _ _ ?_))
            clear hK37 K37
            refine wc_cond rfl (fun hc76 => ?_) (fun hc76 => ?_)
            · try simp only [decide_eq_true_eq, decide_eq_false_iff_not, Bool.not_eq_true', Bool.not_eq_false', Bool.not_eq_eq_eq_not, Bool.not_true, Bool.not_false, beq_iff_eq, bne_iff_ne, ne_eq, beq_eq_false_iff_ne, bne_eq_false_iff_eq, gt_iff_lt, ge_iff_le, Int.not_lt, Int.not_le] at hc76
              rw [if_pos (by omega)] at hR
              have ha0 := adv_len' (s := s) (by omega)
              unfold pRet at hR
              refine c_seq (fun K38 hK38 => ?_)
              refine c_reg ?_ -- region 24 syntaxm.go:447
              refine wl (ro_move rfl) ?_
              refine wl_call rfl en_48 (hS0.next (by omega)) ?_
              rintro _ u1 ⟨rfl, hS1⟩
              refine wl_nil (x_then (hK38 _ _ ?_))
              clear hK38 K38
              refine forget [(0, _), (1, _), (5, _)] ⟨rfl, rfl, rfl, trivial⟩ (fun e => ?_)
              refine c_seq (fun K39 hK39 => ?_)
              refine c_reg ?_ -- region 25 syntaxm.go:448
              refine wl (ro_assign rfl) ?_
              refine wl_nil (x_then (hK39 _ _ ?_))
              clear hK39 K39
              refine forget [(0, _), (1, _), (5, _), (8, _)] ⟨rfl, rfl, rfl, rfl, trivial⟩ (fun e => ?_)
              refine c_seq (fun K40 hK40 => ?_)
              refine c_reg ?_ -- region 26 syntaxm.go:449
              refine wl (ro_assign rfl) ?_
              refine wl_nil (x_then (hK40 _ _ ?_))
              clear hK40 K40
              refine c_mid (fun a' w' => ∃ (z1 z2 : Int), ((∃ (U6 : Value) (G6 : List (Nd × Nat)) (s6 : PS) (tr : Tr) (A : List Nd) (k1 k2 : Nat), MS w mp np src U G lv w' U6 G6 s6 ∧ R = .inr (tr, s6) ∧ G6.map Prod.fst = G.map Prod.fst ++ A ∧ lay tr G.length = A ++ [⟨10, k1, k2, 0, 0, 0, []⟩] ∧ G6.length + 1 = G.length + ndT tr ∧ rt tr G.length = G.length + ndT tr - 1 ∧ G6.length + 1 + 3 * s6.len ≤ 10000 ∧ z1 = (k1 : Nat) ∧ z2 = (k2 : Nat)) ∨ ∃ ee pp, R = .inl (ee, pp) ∧ EF w mp U lv w' ee pp) ∧ ∃ e, a' = Fr 183 (upds e [(0, ptr mp), (1, i64c lv), (5, i64c s.cur.pl), (8, .int .i64 z1), (9, .int .i64 z2)]) []) ?_ ?_
              · skip
                refine c_seq (fun K41 hK41 => ?_)
                refine c_reg ?_ -- region 27 syntaxm.go:450
                refine wl (ro_move rfl) ?_
                refine wl_call rfl en_105 (blockEndM hS1.a.v) ?_
                rintro _ w9 ⟨rfl, e9⟩
                replace e9 := e9.symm
                subst e9
                refine wl (ro_not rfl) ?_
                refine wl_nil (x_then (hK41 _ _ ?_))
                clear hK41 K41
                refine wc_cond rfl (fun hc81 => ?_) (fun hc81 => ?_)
                · try simp only [decide_eq_true_eq, decide_eq_false_iff_not, Bool.not_eq_true', Bool.not_eq_false', Bool.not_eq_eq_eq_not, Bool.not_true, Bool.not_false, beq_iff_eq, bne_iff_ne, ne_eq, beq_eq_false_iff_ne, bne_eq_false_iff_eq, gt_iff_lt, ge_iff_le, Int.not_lt, Int.not_le] at hc81
                  rw [if_neg (by simpa using hc81)] at hR
                  refine c_seq (fun K42 hK42 => ?_)
                  rcases bdP_some hR with ⟨⟨ee, pp⟩, hq, rfl⟩ | ⟨t1, s2, hq, hR⟩
                  · skip
                    refine c_reg ?_ -- region 28 syntaxm.go:451
                    refine wl (ro_move rfl) ?_
                    refine wl (ro_move rfl) ?_
                    refine wl (ro_arith rfl rfl rfl (Go.IntWalk.i64_in _ (by omega))) ?_
                    refine wl_call rfl en_160 (hS1.xE ih hlv (by omega) hq) ?_
                    rintro v u2 ⟨⟨z, rfl⟩, hE⟩
                    refine wl (ro_assign rfl) ?_
                    refine wl_nil (x_then (hK42 _ _ ?_))
                    clear hK42 K42
                    refine forget [(0, _), (1, _), (5, _), (8, _), (9, _)] ⟨rfl, rfl, rfl, rfl, rfl, trivial⟩ (fun e => ?_)
                    refine c_seq (fun K43 hK43 => ?_)
                    refine c_reg ?_ -- region 29 syntaxm.go:452
                    refine wl (ro_move rfl) ?_
                    refine wl_call rfl en_156 (hE.is) ?_
                    rintro _ w9 ⟨⟨bb, rfl⟩, e9⟩
                    replace e9 := e9.symm
                    subst e9
                    refine wl_nil (x_then (hK43 _ _ ?_))
                    clear hK43 K43
                    refine wc_cond rfl (fun hc87 => ?_) (fun hc87 => ?_)
                    · try simp only [decide_eq_true_eq, decide_eq_false_iff_not, Bool.not_eq_true', Bool.not_eq_false', Bool.not_eq_eq_eq_not, Bool.not_true, Bool.not_false, beq_iff_eq, bne_iff_ne, ne_eq, beq_eq_false_iff_ne, bne_eq_false_iff_eq, gt_iff_lt, ge_iff_le, Int.not_lt, Int.not_le] at hc87
                      refine c_seq (fun K44 hK44 => ?_)
                      refine c_reg ?_ -- region 30 syntaxm.go:453
                      refine wl (ro_move rfl) ?_
                      refine wl_call rfl en_48 (hE.next) ?_
                      rintro _ u3 ⟨rfl, hE3⟩
                      refine wl_nil (x_then (hK44 _ _ ?_))
                      clear hK44 K44
                      refine c_reg ?_ -- region 31 syntaxm.go:454
                      refine wl (ro_move rfl) ?_
                      refine wl (ro_move rfl) ?_
                      refine wl (ro_arith rfl rfl rfl (Go.IntWalk.i64_in _ (by omega))) ?_
                      refine wl_call rfl en_160 (hE3.ex (lv1 := lv + 1)) ?_
                      rintro _ w9 ⟨rfl, e9⟩
                      replace e9 := e9.symm
                      subst e9
                      refine wl (ro_assign rfl) ?_
                      refine wl_nil (x_then ?_)
                      exact ⟨z, ((0 : Nat) : Int), .inr ⟨ee, pp, rfl, hE3⟩, kp _ ⟨rfl, rfl, rfl, rfl, rfl, trivial⟩⟩
                    · try simp only [decide_eq_true_eq, decide_eq_false_iff_not, Bool.not_eq_true', Bool.not_eq_false', Bool.not_eq_eq_eq_not, Bool.not_true, Bool.not_false, beq_iff_eq, bne_iff_ne, ne_eq, beq_eq_false_iff_ne, bne_eq_false_iff_eq, gt_iff_lt, ge_iff_le, Int.not_lt, Int.not_le] at hc87
                      refine c_skip (x_then ?_)
                      exact ⟨z, ((0 : Nat) : Int), .inr ⟨ee, pp, rfl, hE⟩, kp _ ⟨rfl, rfl, rfl, rfl, rfl, trivial⟩⟩
                  · skip
                    refine c_reg ?_ -- region 28 syntaxm.go:451
                    refine wl (ro_move rfl) ?_
                    refine wl (ro_move rfl) ?_
                    refine wl (ro_arith rfl rfl rfl (Go.IntWalk.i64_in _ (by omega))) ?_
                    refine wl_call rfl en_160 (hS1.xK ih hlv (by omega) hq) ?_
                    rintro v u2 ⟨U2, G2, rfl, hS2, m2, l2, q2, al2, b2⟩
                    refine wl (ro_assign rfl) ?_
                    refine wl_nil (x_then (hK42 _ _ ?_))
                    clear hK42 K42
                    refine forget [(0, _), (1, _), (5, _), (8, _), (9, _)] ⟨rfl, rfl, rfl, rfl, rfl, trivial⟩ (fun e => ?_)
                    refine c_seq (fun K45 hK45 => ?_)
                    refine c_reg ?_ -- region 29 syntaxm.go:452
                    refine wl (ro_move rfl) ?_
                    refine wl_call rfl en_156 (hS2.is (k := 45) (by decide) (by decide)) ?_
                    rintro _ w9 ⟨rfl, e9⟩
                    replace e9 := e9.symm
                    subst e9
                    refine wl_nil (x_then (hK45 _ _ ?_))
                    clear hK45 K45
                    refine wc_cond rfl (fun hc87 => ?_) (fun hc87 => ?_)
                    · try simp only [decide_eq_true_eq, decide_eq_false_iff_not, Bool.not_eq_true', Bool.not_eq_false', Bool.not_eq_eq_eq_not, Bool.not_true, Bool.not_false, beq_iff_eq, bne_iff_ne, ne_eq, beq_eq_false_iff_ne, bne_eq_false_iff_eq, gt_iff_lt, ge_iff_le, Int.not_lt, Int.not_le] at hc87
                      rw [if_pos (by omega)] at hR
                      have ha2 := adv_len' (s := s2) (by omega)
                      refine c_seq (fun K46 hK46 => ?_)
                      refine c_reg ?_ -- region 30 syntaxm.go:453
                      refine wl (ro_move rfl) ?_
                      refine wl_call rfl en_48 (hS2.next (by omega)) ?_
                      rintro _ u3 ⟨rfl, hS3⟩
                      refine wl_nil (x_then (hK46 _ _ ?_))
                      clear hK46 K46
                      rcases bdP_some hR with ⟨⟨ee, pp⟩, hq, rfl⟩ | ⟨t2, s4, hq, hR⟩
                      · skip
                        refine c_reg ?_ -- region 31 syntaxm.go:454
                        refine wl (ro_move rfl) ?_
                        refine wl (ro_move rfl) ?_
                        refine wl (ro_arith rfl rfl rfl (Go.IntWalk.i64_in _ (by omega))) ?_
                        refine wl_call rfl en_160 (hS3.xE ih hlv (by omega) hq) ?_
                        rintro v u4 ⟨⟨z, rfl⟩, hE⟩
                        refine wl (ro_assign rfl) ?_
                        refine wl_nil (x_then ?_)
                        exact ⟨_, z, .inr ⟨ee, pp, rfl, hE⟩, kp _ ⟨rfl, rfl, rfl, rfl, rfl, trivial⟩⟩
                      · skip
                        refine c_reg ?_ -- region 31 syntaxm.go:454
                        refine wl (ro_move rfl) ?_
                        refine wl (ro_move rfl) ?_
                        refine wl (ro_arith rfl rfl rfl (Go.IntWalk.i64_in _ (by omega))) ?_
                        refine wl_call rfl en_160 (hS3.xK ih hlv (by omega) hq) ?_
                        rintro v u4 ⟨U4, G4, rfl, hS4, m4, l4, q4, al4, b4⟩
                        cases okP_inj hR
                        refine wl (ro_assign rfl) ?_
                        refine wl_nil (x_then ?_)
                        refine ⟨_, _, .inl ⟨U4, G4, s4, St.ret2 t1 t2, _, _, _, hS4, rfl, by rw [m4, m2, List.append_assoc], by rw [lay_ret2, ← l2], ?_, rfl, by omega, rfl, rfl⟩, kp _ ⟨rfl, rfl, rfl, rfl, rfl, trivial⟩⟩
                        show _ = G.length + (1 + ndT t1 + ndT t2)
                        omega
                    · try simp only [decide_eq_true_eq, decide_eq_false_iff_not, Bool.not_eq_true', Bool.not_eq_false', Bool.not_eq_eq_eq_not, Bool.not_true, Bool.not_false, beq_iff_eq, bne_iff_ne, ne_eq, beq_eq_false_iff_ne, bne_eq_false_iff_eq, gt_iff_lt, ge_iff_le, Int.not_lt, Int.not_le] at hc87
                      rw [if_neg (by omega)] at hR
                      cases okP_inj hR
                      refine c_skip (x_then ?_)
                      refine ⟨_, ((0 : Nat) : Int), .inl ⟨U2, G2, s2, St.ret1 t1, _, _, 0, hS2, rfl, m2, by rw [lay_ret1], ?_, rfl, by omega, rfl, rfl⟩, kp _ ⟨rfl, rfl, rfl, rfl, rfl, trivial⟩⟩
                      show _ = G.length + (1 + ndT t1)
                      omega
                · try simp only [decide_eq_true_eq, decide_eq_false_iff_not, Bool.not_eq_true', Bool.not_eq_false', Bool.not_eq_eq_eq_not, Bool.not_true, Bool.not_false, beq_iff_eq, bne_iff_ne, ne_eq, beq_eq_false_iff_ne, bne_eq_false_iff_eq, gt_iff_lt, ge_iff_le, Int.not_lt, Int.not_le] at hc81
                  rw [if_pos (by simpa using hc81)] at hR
                  cases okP_inj hR
                  refine c_skip (x_then ?_)
                  exact ⟨((0 : Nat) : Int), ((0 : Nat) : Int), .inl ⟨U, G, s.adv, St.ret0, [], 0, 0, hS1, rfl, by rw [List.append_nil], rfl, rfl, rfl, by omega, rfl, rfl⟩, kp _ ⟨rfl, rfl, rfl, rfl, rfl, trivial⟩⟩
              clear hR
              rintro a' u6 ⟨z1, z2, hor, e, rfl⟩
              refine c_seq (fun K47 hK47 => ?_)
              refine c_seq (fun K48 hK48 => ?_)
              rcases hor with ⟨U6, G6, s6, tr, A, k1, k2, hS6, rfl, m6, y6, l6, r6, b6, rfl, rfl⟩ | ⟨ee, pp, rfl, hE⟩
              · skip
                obtain ⟨pos6, hX6, hpos6⟩ := hS6.a.v.ex
                unfold mpc at hX6
                refine c_reg ?_ -- region 32 syntaxm.go:457
                refine wl (ro_move rfl) ?_
                refine wl (ro_nilCheck rfl) ?_
                refine wl (ro_fieldAddr (k := 9) rfl fo_146_5) ?_
                refine wl (ro_loadB rfl sc_54 (by assumption) rfl) ?_
                refine wl (ro_cmp rfl rfl rfl) ?_
                refine wl_nil (x_then (hK48 _ _ ?_))
                clear hK48 K48
                refine wc_cond rfl (fun hc98 => ?_) (fun hc98 => ?_)
                · try simp only [decide_eq_true_eq, decide_eq_false_iff_not, Bool.not_eq_true', Bool.not_eq_false', Bool.not_eq_eq_eq_not, Bool.not_true, Bool.not_false, beq_iff_eq, bne_iff_ne, ne_eq, beq_eq_false_iff_ne, bne_eq_false_iff_eq, gt_iff_lt, ge_iff_le, Int.not_lt, Int.not_le] at hc98
                  exact absurd rfl hc98
                · try simp only [decide_eq_true_eq, decide_eq_false_iff_not, Bool.not_eq_true', Bool.not_eq_false', Bool.not_eq_eq_eq_not, Bool.not_true, Bool.not_false, beq_iff_eq, bne_iff_ne, ne_eq, beq_eq_false_iff_ne, bne_eq_false_iff_eq, gt_iff_lt, ge_iff_le, Int.not_lt, Int.not_le] at hc98
                  refine c_skip (x_then (hK47 _ _ ?_))
                  clear hK47 K47
                  refine forget [(0, _), (5, _), (8, _), (9, _)] ⟨rfl, rfl, rfl, rfl, trivial⟩ (fun e => ?_)
                  refine c_seq (fun K49 hK49 => ?_)
                  refine c_reg ?_ -- region 34 syntaxm.go:460
                  refine wl (ro_move rfl) ?_
                  refine wl (ro_move rfl) ?_
                  refine wl (ro_move rfl) ?_
                  refine wl (ro_move rfl) ?_
                  refine wl (ro_build rfl bld_148_0_1_2_7) ?_
                  refine wl_call rfl en_162 (hS6.add (x := (⟨10, k1, k2, 0, 0, 0, []⟩, s.cur.pl)) (by omega)) ?_
                  rintro _ u7 ⟨rfl, U7, hS7⟩
                  refine wl (ro_assign rfl) ?_
                  refine wl_nil (x_then (hK49 _ _ ?_))
                  clear hK49 K49
                  refine c_ret (x_thenR ?_)
                  refine bp_ret Tryz.results106 rfl ?_
                  refine hS7.fin ?_ ?_ ?_
                  · rw [List.map_append, m6, y6, List.append_assoc]
                    rfl
                  · rw [List.length_append]
                    simp only [List.length_cons, List.length_nil]
                    omega
                  · rw [r6]
                    omega
              · skip
                obtain ⟨np', src', pos', t', U', al', lo', fu', hXe, h3⟩ := hE.blk
                unfold mpc at hXe
                refine c_reg ?_ -- region 32 syntaxm.go:457
                refine wl (ro_move rfl) ?_
                refine wl (ro_nilCheck rfl) ?_
                refine wl (ro_fieldAddr (k := 9) rfl fo_146_5) ?_
                refine wl (ro_loadB rfl sc_54 (by assumption) rfl) ?_
                refine wl (ro_cmp rfl rfl rfl) ?_
                refine wl_nil (x_then (hK48 _ _ ?_))
                clear hK48 K48
                refine wc_cond rfl (fun hc98 => ?_) (fun hc98 => ?_)
                · try simp only [decide_eq_true_eq, decide_eq_false_iff_not, Bool.not_eq_true', Bool.not_eq_false', Bool.not_eq_eq_eq_not, Bool.not_true, Bool.not_false, beq_iff_eq, bne_iff_ne, ne_eq, beq_eq_false_iff_ne, bne_eq_false_iff_eq, gt_iff_lt, ge_iff_le, Int.not_lt, Int.not_le] at hc98
                  refine c_seq (fun K50 hK50 => ?_)
                  refine c_reg ?_ -- region 33 syntaxm.go:458
                  refine wl (ro_assign rfl) ?_
                  refine wl_nil (x_then (hK50 _ _ ?_))
                  clear hK50 K50
                  refine c_ret (x_thenR (x_thenR ?_))
                  refine bp_ret Tryz.results106 rfl ?_
                  exact hE.mr
                · try simp only [decide_eq_true_eq, decide_eq_false_iff_not, Bool.not_eq_true', Bool.not_eq_false', Bool.not_eq_eq_eq_not, Bool.not_true, Bool.not_false, beq_iff_eq, bne_iff_ne, ne_eq, beq_eq_false_iff_ne, bne_eq_false_iff_eq, gt_iff_lt, ge_iff_le, Int.not_lt, Int.not_le] at hc98
                  omega
            · try simp only [decide_eq_true_eq, decide_eq_false_iff_not, Bool.not_eq_true', Bool.not_eq_false', Bool.not_eq_eq_eq_not, Bool.not_true, Bool.not_false, beq_iff_eq, bne_iff_ne, ne_eq, beq_eq_false_iff_ne, bne_eq_false_iff_eq, gt_iff_lt, ge_iff_le, Int.not_lt, Int.not_le] at hc76
              rw [if_neg (by omega)] at hR
              refine c_skip (x_then (hK36 _ _ ?_))
              clear hK36 K36
              refine forget [(0, _), (1, _)] ⟨rfl, rfl, trivial⟩ (fun e => ?_)
              refine c_seq (fun K51 hK51 => ?_)
              rcases bdP_some hR with ⟨⟨ee, pp⟩, hq, rfl⟩ | ⟨t1, s1, hq, hR⟩
              · skip
                refine c_reg ?_ -- region 35 syntaxm.go:462
                refine wl (ro_move rfl) ?_
                refine wl (ro_move rfl) ?_
                refine wl (ro_arith rfl rfl rfl (Go.IntWalk.i64_in _ (by omega))) ?_
                refine wl_call rfl en_163 (hS0.pE ih hlv (by omega) hq) ?_
                rintro v u2 ⟨⟨z, rfl⟩, hE⟩
                obtain ⟨np', src', pos', t', U', al', lo', fu', hXe, h3⟩ := hE.blk
                unfold mpc at hXe
                refine wl (ro_assign rfl) ?_
                refine wl_nil (x_then (hK51 _ _ ?_))
                clear hK51 K51
                refine c_seq (fun K52 hK52 => ?_)
                refine c_seq (fun K53 hK53 => ?_)
                refine c_reg ?_ -- region 36 syntaxm.go:463
                refine wl (ro_move rfl) ?_
                refine wl (ro_nilCheck rfl) ?_
                refine wl (ro_fieldAddr (k := 9) rfl fo_146_5) ?_
                refine wl (ro_loadB rfl sc_54 (by assumption) rfl) ?_
                refine wl (ro_cmp rfl rfl rfl) ?_
                refine wl_nil (x_then (hK53 _ _ ?_))
                clear hK53 K53
                refine wc_cond rfl (fun hc113 => ?_) (fun hc113 => ?_)
                · try simp only [decide_eq_true_eq, decide_eq_false_iff_not, Bool.not_eq_true', Bool.not_eq_false', Bool.not_eq_eq_eq_not, Bool.not_true, Bool.not_false, beq_iff_eq, bne_iff_ne, ne_eq, beq_eq_false_iff_ne, bne_eq_false_iff_eq, gt_iff_lt, ge_iff_le, Int.not_lt, Int.not_le] at hc113
                  refine c_seq (fun K54 hK54 => ?_)
                  refine c_reg ?_ -- region 37 syntaxm.go:464
                  refine wl (ro_assign rfl) ?_
                  refine wl_nil (x_then (hK54 _ _ ?_))
                  clear hK54 K54
                  refine c_ret (x_thenR ?_)
                  refine bp_ret Tryz.results106 rfl ?_
                  exact hE.mr
                · try simp only [decide_eq_true_eq, decide_eq_false_iff_not, Bool.not_eq_true', Bool.not_eq_false', Bool.not_eq_eq_eq_not, Bool.not_true, Bool.not_false, beq_iff_eq, bne_iff_ne, ne_eq, beq_eq_false_iff_ne, bne_eq_false_iff_eq, gt_iff_lt, ge_iff_le, Int.not_lt, Int.not_le] at hc113
                  omega
              · skip
                refine c_reg ?_ -- region 35 syntaxm.go:462
                refine wl (ro_move rfl) ?_
                refine wl (ro_move rfl) ?_
                refine wl (ro_arith rfl rfl rfl (Go.IntWalk.i64_in _ (by omega))) ?_
                refine wl_call rfl en_163 (hS0.pK ih hlv (by omega) hq) ?_
                rintro v u2 ⟨U2, G2, rfl, hS2, m2, l2, q2, al2, b2⟩
                obtain ⟨g2, cap2, c2, y2, e2, hO2, hi2, hc2, hK3, hK4, hK5⟩ := hS2.last q2.ly m2 l2 (by omega)
                subst e2
                have hr1 := q2.ly.rt G.length
                have hp1 := q2.ly.pos
                obtain ⟨pos2, hX2, hpos2⟩ := hS2.a.v.ex
                unfold mpc at hX2
                have hB2 := hO2.b
                have hne2 := hO2.ne
                refine wl (ro_assign rfl) ?_
                refine wl_nil (x_then (hK51 _ _ ?_))
                clear hK51 K51
                refine c_seq (fun K55 hK55 => ?_)
                refine c_seq (fun K56 hK56 => ?_)
                refine c_reg ?_ -- region 36 syntaxm.go:463
                refine wl (ro_move rfl) ?_
                refine wl (ro_nilCheck rfl) ?_
                refine wl (ro_fieldAddr (k := 9) rfl fo_146_5) ?_
                refine wl (ro_loadB rfl sc_54 (by assumption) rfl) ?_
                refine wl (ro_cmp rfl rfl rfl) ?_
                refine wl_nil (x_then (hK56 _ _ ?_))
                clear hK56 K56
                refine wc_cond rfl (fun hc113 => ?_) (fun hc113 => ?_)
                · try simp only [decide_eq_true_eq, decide_eq_false_iff_not, Bool.not_eq_true', Bool.not_eq_false', Bool.not_eq_eq_eq_not, Bool.not_true, Bool.not_false, beq_iff_eq, bne_iff_ne, ne_eq, beq_eq_false_iff_ne, bne_eq_false_iff_eq, gt_iff_lt, ge_iff_le, Int.not_lt, Int.not_le] at hc113
                  exact absurd rfl hc113
                · try simp only [decide_eq_true_eq, decide_eq_false_iff_not, Bool.not_eq_true', Bool.not_eq_false', Bool.not_eq_eq_eq_not, Bool.not_true, Bool.not_false, beq_iff_eq, bne_iff_ne, ne_eq, beq_eq_false_iff_ne, bne_eq_false_iff_eq, gt_iff_lt, ge_iff_le, Int.not_lt, Int.not_le] at hc113
                  refine c_skip (x_then (hK55 _ _ ?_))
                  clear hK55 K55
                  refine c_seq (fun K57 hK57 => ?_)
                  refine c_seq (fun K58 hK58 => ?_)
                  refine c_reg ?_ -- region 38 syntaxm.go:466
                  refine wl (ro_move rfl) ?_
                  refine wl_call rfl en_156 (hS2.is (k := 38) (by decide) (by decide)) ?_
                  rintro _ w9 ⟨rfl, e9⟩
                  replace e9 := e9.symm
                  subst e9
                  refine wl_nil (x_then (hK58 _ _ ?_))
                  clear hK58 K58
                  refine wc_cond rfl (fun hc115 => ?_) (fun hc115 => ?_)
                  · try simp only [decide_eq_true_eq, decide_eq_false_iff_not, Bool.not_eq_true', Bool.not_eq_false', Bool.not_eq_eq_eq_not, Bool.not_true, Bool.not_false, beq_iff_eq, bne_iff_ne, ne_eq, beq_eq_false_iff_ne, bne_eq_false_iff_eq, gt_iff_lt, ge_iff_le, Int.not_lt, Int.not_le] at hc115
                    rw [if_pos (by omega)] at hR
                    have hor39 : t1.c = 3 ∨ t1.c = 4 ∨ (t1.c ≠ 3 ∧ t1.c ≠ 4) := by omega
                    have ha1 := adv_len' (s := s1) (by omega)
                    refine c_seq (fun K59 hK59 => ?_)
                    refine c_seq (fun K60 hK60 => ?_)
                    rcases hor39 with h34 | h34 | h34
                    · skip
                      rw [if_pos h34] at hR
                      obtain ⟨nm, et1⟩ := q2.top.1 h34
                      have hmk : ∃ mk : Tr → Tr, bdP (parP f 0 (lv + 1) 1 0 dumT s1.adv) (fun v s => okP (mk v) s) = some R ∧ ∀ v, lay (mk v) G.length = lay t1 G.length ++ lay v G2.length ++ [⟨4, rt t1 G.length, rt v G2.length, 0, 0, 0, []⟩] ∧ ndT (mk v) = ndT t1 + ndT v + 1 ∧ rt (mk v) G.length = G.length + ndT (mk v) - 1 := by
                        refine ⟨fun v => St.setN t1.s v, hR, fun v => ⟨?_, ?_, rfl⟩⟩
                        · rw [l2, hr1, et1, lay_setN]
                          rfl
                        · rw [et1]
                          show 2 + ndT v = 1 + ndT v + 1
                          omega
                      clear hR
                      obtain ⟨mk, hR, hmk⟩ := hmk
                      refine c_reg ?_ -- region 39 syntaxm.go:467
                      refine wl (ro_move rfl) ?_
                      refine wl (ro_nilCheck rfl) ?_
                      refine wl (ro_fieldAddr (k := 8) rfl fo_146_4) ?_
                      refine wl (ro_loadB rfl sc_77 (by assumption) rfl) ?_
                      refine wl (ro_move rfl) ?_
                      refine wl (ro_indexAddr (et := 148) (k := 8) rfl rfl se_77 (rfl) (hi2)) ?_
                      refine wl (ro_fieldAddr (k := 0) rfl fo_148_0) ?_
                      refine wl (ro_loadB rfl sc_3 (hB2) ((row_cell (k := 8) (j := 0) hc2 rfl))) ?_
                      refine wl (ro_cmp (r := false) rfl rfl (congrArg some (bne_eq_false_iff_eq.2 (by show (y2.1.K : Int) = 17; omega)))) ?_
                      refine wl (ro_move rfl) ?_
                      refine wlg_no rfl ?_
                      refine wlg_no rfl ?_
                      refine wlg_no rfl ?_
                      refine wlg_no rfl ?_
                      refine wlg_no rfl ?_
                      refine wlg_no rfl ?_
                      refine wlg_no rfl ?_
                      refine wlg_no rfl ?_
                      refine wlg_no rfl ?_
                      refine wl (ro_pick rfl rfl rfl) ?_
                      refine wl_nil (x_then (hK60 _ _ ?_))
                      clear hK60 K60
                      refine wc_condF rfl ?_
                      refine c_skip (x_then (hK59 _ _ ?_))
                      clear hK59 K59
                      refine forget [(0, _), (1, _), (10, _)] ⟨rfl, rfl, rfl, trivial⟩ (fun e => ?_)
                      refine c_seq (fun K61 hK61 => ?_)
                      refine c_reg ?_ -- region 42 syntaxm.go:471
                      refine wl (ro_move rfl) ?_
                      refine wl (ro_nilCheck rfl) ?_
                      refine wl (ro_fieldAddr (k := 3) rfl fo_146_3) ?_
                      refine wl (ro_fieldAddr (k := 3) rfl fo_144_3) ?_
                      refine wl (ro_loadB rfl sc_3 (by assumption) rfl) ?_
                      refine wl (ro_assign rfl) ?_
                      refine wl_nil (x_then (hK61 _ _ ?_))
                      clear hK61 K61
                      refine forget [(0, _), (1, _), (10, _), (11, _)] ⟨rfl, rfl, rfl, rfl, trivial⟩ (fun e => ?_)
                      refine c_seq (fun K62 hK62 => ?_)
                      refine c_reg ?_ -- region 43 syntaxm.go:472
                      refine wl (ro_move rfl) ?_
                      refine wl_call rfl en_48 (hS2.next (by omega)) ?_
                      rintro _ u3 ⟨rfl, hS3⟩
                      refine wl_nil (x_then (hK62 _ _ ?_))
                      clear hK62 K62
                      refine forget [(0, _), (1, _), (10, _), (11, _)] ⟨rfl, rfl, rfl, rfl, trivial⟩ (fun e => ?_)
                      refine c_seq (fun K63 hK63 => ?_)
                      rcases bdP_some hR with ⟨⟨ee, pp⟩, hq, rfl⟩ | ⟨t2, s4, hq, hR⟩
                      · skip
                        refine c_reg ?_ -- region 44 syntaxm.go:473
                        refine wl (ro_move rfl) ?_
                        refine wl (ro_move rfl) ?_
                        refine wl (ro_arith rfl rfl rfl (Go.IntWalk.i64_in _ (by omega))) ?_
                        refine wl_call rfl en_160 (hS3.xE ih hlv (by omega) hq) ?_
                        rintro v u4 ⟨⟨z, rfl⟩, hE⟩
                        obtain ⟨np', src', pos', t', U', al', lo', fu', hXe, h3⟩ := hE.blk
                        unfold mpc at hXe
                        refine wl (ro_assign rfl) ?_
                        refine wl_nil (x_then (hK63 _ _ ?_))
                        clear hK63 K63
                        refine c_seq (fun K64 hK64 => ?_)
                        refine c_seq (fun K65 hK65 => ?_)
                        refine c_reg ?_ -- region 45 syntaxm.go:474
                        refine wl (ro_move rfl) ?_
                        refine wl (ro_nilCheck rfl) ?_
                        refine wl (ro_fieldAddr (k := 9) rfl fo_146_5) ?_
                        refine wl (ro_loadB rfl sc_54 (by assumption) rfl) ?_
                        refine wl (ro_cmp rfl rfl rfl) ?_
                        refine wl_nil (x_then (hK65 _ _ ?_))
                        clear hK65 K65
                        refine wc_cond rfl (fun hc153 => ?_) (fun hc153 => ?_)
                        · try simp only [decide_eq_true_eq, decide_eq_false_iff_not, Bool.not_eq_true', Bool.not_eq_false', Bool.not_eq_eq_eq_not, Bool.not_true, Bool.not_false, beq_iff_eq, bne_iff_ne, ne_eq, beq_eq_false_iff_ne, bne_eq_false_iff_eq, gt_iff_lt, ge_iff_le, Int.not_lt, Int.not_le] at hc153
                          refine c_seq (fun K66 hK66 => ?_)
                          refine c_reg ?_ -- region 46 syntaxm.go:475
                          refine wl (ro_assign rfl) ?_
                          refine wl_nil (x_then (hK66 _ _ ?_))
                          clear hK66 K66
                          refine c_ret (x_thenR (x_thenR ?_))
                          refine bp_ret Tryz.results106 rfl ?_
                          exact hE.mr
                        · try simp only [decide_eq_true_eq, decide_eq_false_iff_not, Bool.not_eq_true', Bool.not_eq_false', Bool.not_eq_eq_eq_not, Bool.not_true, Bool.not_false, beq_iff_eq, bne_iff_ne, ne_eq, beq_eq_false_iff_ne, bne_eq_false_iff_eq, gt_iff_lt, ge_iff_le, Int.not_lt, Int.not_le] at hc153
                          omega
                      · skip
                        refine c_reg ?_ -- region 44 syntaxm.go:473
                        refine wl (ro_move rfl) ?_
                        refine wl (ro_move rfl) ?_
                        refine wl (ro_arith rfl rfl rfl (Go.IntWalk.i64_in _ (by omega))) ?_
                        refine wl_call rfl en_160 (hS3.xK ih hlv (by omega) hq) ?_
                        rintro v u4 ⟨U4, G4, rfl, hS4, m4, l4, q4, al4, b4⟩
                        obtain ⟨pos4, hX4, hpos4⟩ := hS4.a.v.ex
                        unfold mpc at hX4
                        cases okP_inj hR
                        refine wl (ro_assign rfl) ?_
                        refine wl_nil (x_then (hK63 _ _ ?_))
                        clear hK63 K63
                        refine c_seq (fun K67 hK67 => ?_)
                        refine c_seq (fun K68 hK68 => ?_)
                        refine c_reg ?_ -- region 45 syntaxm.go:474
                        refine wl (ro_move rfl) ?_
                        refine wl (ro_nilCheck rfl) ?_
                        refine wl (ro_fieldAddr (k := 9) rfl fo_146_5) ?_
                        refine wl (ro_loadB rfl sc_54 (by assumption) rfl) ?_
                        refine wl (ro_cmp rfl rfl rfl) ?_
                        refine wl_nil (x_then (hK68 _ _ ?_))
                        clear hK68 K68
                        refine wc_cond rfl (fun hc153 => ?_) (fun hc153 => ?_)
                        · try simp only [decide_eq_true_eq, decide_eq_false_iff_not, Bool.not_eq_true', Bool.not_eq_false', Bool.not_eq_eq_eq_not, Bool.not_true, Bool.not_false, beq_iff_eq, bne_iff_ne, ne_eq, beq_eq_false_iff_ne, bne_eq_false_iff_eq, gt_iff_lt, ge_iff_le, Int.not_lt, Int.not_le] at hc153
                          exact absurd rfl hc153
                        · try simp only [decide_eq_true_eq, decide_eq_false_iff_not, Bool.not_eq_true', Bool.not_eq_false', Bool.not_eq_eq_eq_not, Bool.not_true, Bool.not_false, beq_iff_eq, bne_iff_ne, ne_eq, beq_eq_false_iff_ne, bne_eq_false_iff_eq, gt_iff_lt, ge_iff_le, Int.not_lt, Int.not_le] at hc153
                          refine c_skip (x_then (hK67 _ _ ?_))
                          clear hK67 K67
                          refine forget [(0, _), (10, _), (11, _), (12, _)] ⟨rfl, rfl, rfl, rfl, trivial⟩ (fun e => ?_)
                          refine c_seq (fun K69 hK69 => ?_)
                          refine c_reg ?_ -- region 47 syntaxm.go:477
                          refine wl (ro_move rfl) ?_
                          refine wl (ro_move rfl) ?_
                          refine wl (ro_move rfl) ?_
                          refine wl (ro_move rfl) ?_
                          refine wl (ro_build rfl bld_148_0_1_2_7) ?_
                          refine wl_call rfl en_162 (hS4.add (x := (⟨4, rt t1 G.length, rt t2 G2.length, 0, 0, 0, []⟩, s1.cur.pl)) (by omega)) ?_
                          rintro _ u5 ⟨rfl, U5, hS5⟩
                          refine wl (ro_assign rfl) ?_
                          refine wl_nil (x_then (hK69 _ _ ?_))
                          clear hK69 K69
                          refine c_ret (x_thenR ?_)
                          refine bp_ret Tryz.results106 rfl ?_
                          obtain ⟨c1, c2, c3⟩ := hmk t2
                          refine hS5.fin ?_ ?_ ?_
                          · rw [List.map_append, m4, m2, c1]
                            simp only [List.append_assoc]
                            rfl
                          · rw [List.length_append]
                            simp only [List.length_cons, List.length_nil]
                            omega
                          · rw [c3]
                            omega
                    · skip
                      rw [if_neg (by omega), if_pos h34] at hR
                      obtain ⟨xa, xb, et1, _, _⟩ := q2.top.2.1 h34
                      have hmk : ∃ mk : Tr → Tr, bdP (parP f 0 (lv + 1) 1 0 dumT s1.adv) (fun v s => okP (mk v) s) = some R ∧ ∀ v, lay (mk v) G.length = lay t1 G.length ++ lay v G2.length ++ [⟨4, rt t1 G.length, rt v G2.length, 0, 0, 0, []⟩] ∧ ndT (mk v) = ndT t1 + ndT v + 1 ∧ rt (mk v) G.length = G.length + ndT (mk v) - 1 := by
                        refine ⟨fun v => St.setI (t1.ks.headD dumT) (t1.ks.getD 1 dumT) v, hR, fun v => ⟨?_, ?_, rfl⟩⟩
                        · have en : ndT (Ex.index xa xb) = 1 + ndT xa + ndT xb := rfl
                          rw [et1] at l2 hr1 ⊢
                          rw [l2, hr1, show (Ex.index xa xb).ks.headD dumT = xa from rfl, show (Ex.index xa xb).ks.getD 1 dumT = xb from rfl, lay_setI, en, show G.length + (1 + ndT xa + ndT xb) = G.length + ndT xa + ndT xb + 1 by omega, show G.length + ndT xa + ndT xb + 1 - 1 = G.length + ndT xa + ndT xb by omega]
                        · rw [et1]
                          show 2 + ndT xa + ndT xb + ndT v = 1 + ndT xa + ndT xb + ndT v + 1
                          omega
                      clear hR
                      obtain ⟨mk, hR, hmk⟩ := hmk
                      refine c_reg ?_ -- region 39 syntaxm.go:467
                      refine wl (ro_move rfl) ?_
                      refine wl (ro_nilCheck rfl) ?_
                      refine wl (ro_fieldAddr (k := 8) rfl fo_146_4) ?_
                      refine wl (ro_loadB rfl sc_77 (by assumption) rfl) ?_
                      refine wl (ro_move rfl) ?_
                      refine wl (ro_indexAddr (et := 148) (k := 8) rfl rfl se_77 (rfl) (hi2)) ?_
                      refine wl (ro_fieldAddr (k := 0) rfl fo_148_0) ?_
                      refine wl (ro_loadB rfl sc_3 (hB2) ((row_cell (k := 8) (j := 0) hc2 rfl))) ?_
                      refine wl (ro_cmp (r := true) rfl rfl (congrArg some (bne_iff_ne.2 (by show (y2.1.K : Int) ≠ 17; omega)))) ?_
                      refine wl (ro_move rfl) ?_
                      refine wlg_yes rfl (ro_move rfl) ?_
                      refine wlg_yes rfl (ro_nilCheck rfl) ?_
                      refine wlg_yes rfl (ro_fieldAddr (k := 8) rfl fo_146_4) ?_
                      refine wlg_yes rfl (ro_loadB rfl sc_77 (by assumption) rfl) ?_
                      refine wlg_yes rfl (ro_move rfl) ?_
                      refine wlg_yes rfl (ro_indexAddr (et := 148) (k := 8) rfl rfl se_77 (rfl) (hi2)) ?_
                      refine wlg_yes rfl (ro_fieldAddr (k := 0) rfl fo_148_0) ?_
                      refine wlg_yes rfl (ro_loadB rfl sc_3 (hB2) ((row_cell (k := 8) (j := 0) hc2 rfl))) ?_
                      refine wlg_yes rfl (ro_cmp (r := false) rfl rfl (congrArg some (bne_eq_false_iff_eq.2 (by show (y2.1.K : Int) = 18; omega)))) ?_
                      refine wl (ro_pick rfl rfl rfl) ?_
                      refine wl_nil (x_then (hK60 _ _ ?_))
                      clear hK60 K60
                      refine wc_condF rfl ?_
                      refine c_skip (x_then (hK59 _ _ ?_))
                      clear hK59 K59
                      refine forget [(0, _), (1, _), (10, _)] ⟨rfl, rfl, rfl, trivial⟩ (fun e => ?_)
                      refine c_seq (fun K70 hK70 => ?_)
                      refine c_reg ?_ -- region 42 syntaxm.go:471
                      refine wl (ro_move rfl) ?_
                      refine wl (ro_nilCheck rfl) ?_
                      refine wl (ro_fieldAddr (k := 3) rfl fo_146_3) ?_
                      refine wl (ro_fieldAddr (k := 3) rfl fo_144_3) ?_
                      refine wl (ro_loadB rfl sc_3 (by assumption) rfl) ?_
                      refine wl (ro_assign rfl) ?_
                      refine wl_nil (x_then (hK70 _ _ ?_))
                      clear hK70 K70
                      refine forget [(0, _), (1, _), (10, _), (11, _)] ⟨rfl, rfl, rfl, rfl, trivial⟩ (fun e => ?_)
                      refine c_seq (fun K71 hK71 => ?_)
                      refine c_reg ?_ -- region 43 syntaxm.go:472
                      refine wl (ro_move rfl) ?_
                      refine wl_call rfl en_48 (hS2.next (by omega)) ?_
                      rintro _ u3 ⟨rfl, hS3⟩
                      refine wl_nil (x_then (hK71 _ _ ?_))
                      clear hK71 K71
                      refine forget [(0, _), (1, _), (10, _), (11, _)] ⟨rfl, rfl, rfl, rfl, trivial⟩ (fun e => ?_)
                      refine c_seq (fun K72 hK72 => ?_)
                      rcases bdP_some hR with ⟨⟨ee, pp⟩, hq, rfl⟩ | ⟨t2, s4, hq, hR⟩
                      · skip
                        refine c_reg ?_ -- region 44 syntaxm.go:473
                        refine wl (ro_move rfl) ?_
                        refine wl (ro_move rfl) ?_
                        refine wl (ro_arith rfl rfl rfl (Go.IntWalk.i64_in _ (by omega))) ?_
                        refine wl_call rfl en_160 (hS3.xE ih hlv (by omega) hq) ?_
                        rintro v u4 ⟨⟨z, rfl⟩, hE⟩
                        obtain ⟨np', src', pos', t', U', al', lo', fu', hXe, h3⟩ := hE.blk
                        unfold mpc at hXe
                        refine wl (ro_assign rfl) ?_
                        refine wl_nil (x_then (hK72 _ _ ?_))
                        clear hK72 K72
                        refine c_seq (fun K73 hK73 => ?_)
                        refine c_seq (fun K74 hK74 => ?_)
                        refine c_reg ?_ -- region 45 syntaxm.go:474
                        refine wl (ro_move rfl) ?_
                        refine wl (ro_nilCheck rfl) ?_
                        refine wl (ro_fieldAddr (k := 9) rfl fo_146_5) ?_
                        refine wl (ro_loadB rfl sc_54 (by assumption) rfl) ?_
                        refine wl (ro_cmp rfl rfl rfl) ?_
                        refine wl_nil (x_then (hK74 _ _ ?_))
                        clear hK74 K74
                        refine wc_cond rfl (fun hc153 => ?_) (fun hc153 => ?_)
                        · try simp only [decide_eq_true_eq, decide_eq_false_iff_not, Bool.not_eq_true', Bool.not_eq_false', Bool.not_eq_eq_eq_not, Bool.not_true, Bool.not_false, beq_iff_eq, bne_iff_ne, ne_eq, beq_eq_false_iff_ne, bne_eq_false_iff_eq, gt_iff_lt, ge_iff_le, Int.not_lt, Int.not_le] at hc153
                          refine c_seq (fun K75 hK75 => ?_)
                          refine c_reg ?_ -- region 46 syntaxm.go:475
                          refine wl (ro_assign rfl) ?_
                          refine wl_nil (x_then (hK75 _ _ ?_))
                          clear hK75 K75
                          refine c_ret (x_thenR (x_thenR ?_))
                          refine bp_ret Tryz.results106 rfl ?_
                          exact hE.mr
                        · try simp only [decide_eq_true_eq, decide_eq_false_iff_not, Bool.not_eq_true', Bool.not_eq_false', Bool.not_eq_eq_eq_not, Bool.not_true, Bool.not_false, beq_iff_eq, bne_iff_ne, ne_eq, beq_eq_false_iff_ne, bne_eq_false_iff_eq, gt_iff_lt, ge_iff_le, Int.not_lt, Int.not_le] at hc153
                          omega
                      · skip
                        refine c_reg ?_ -- region 44 syntaxm.go:473
                        refine wl (ro_move rfl) ?_
                        refine wl (ro_move rfl) ?_
                        refine wl (ro_arith rfl rfl rfl (Go.IntWalk.i64_in _ (by omega))) ?_
                        refine wl_call rfl en_160 (hS3.xK ih hlv (by omega) hq) ?_
                        rintro v u4 ⟨U4, G4, rfl, hS4, m4, l4, q4, al4, b4⟩
                        obtain ⟨pos4, hX4, hpos4⟩ := hS4.a.v.ex
                        unfold mpc at hX4
                        cases okP_inj hR
                        refine wl (ro_assign rfl) ?_
                        refine wl_nil (x_then (hK72 _ _ ?_))
                        clear hK72 K72
                        refine c_seq (fun K76 hK76 => ?_)
                        refine c_seq (fun K77 hK77 => ?_)
                        refine c_reg ?_ -- region 45 syntaxm.go:474
                        refine wl (ro_move rfl) ?_
                        refine wl (ro_nilCheck rfl) ?_
                        refine wl (ro_fieldAddr (k := 9) rfl fo_146_5) ?_
                        refine wl (ro_loadB rfl sc_54 (by assumption) rfl) ?_
                        refine wl (ro_cmp rfl rfl rfl) ?_
                        refine wl_nil (x_then (hK77 _ _ ?_))
                        clear hK77 K77
                        refine wc_cond rfl (fun hc153 => ?_) (fun hc153 => ?_)
                        · try simp only [decide_eq_true_eq, decide_eq_false_iff_not, Bool.not_eq_true', Bool.not_eq_false', Bool.not_eq_eq_eq_not, Bool.not_true, Bool.not_false, beq_iff_eq, bne_iff_ne, ne_eq, beq_eq_false_iff_ne, bne_eq_false_iff_eq, gt_iff_lt, ge_iff_le, Int.not_lt, Int.not_le] at hc153
                          exact absurd rfl hc153
                        · try simp only [decide_eq_true_eq, decide_eq_false_iff_not, Bool.not_eq_true', Bool.not_eq_false', Bool.not_eq_eq_eq_not, Bool.not_true, Bool.not_false, beq_iff_eq, bne_iff_ne, ne_eq, beq_eq_false_iff_ne, bne_eq_false_iff_eq, gt_iff_lt, ge_iff_le, Int.not_lt, Int.not_le] at hc153
                          refine c_skip (x_then (hK76 _ _ ?_))
                          clear hK76 K76
                          refine forget [(0, _), (10, _), (11, _), (12, _)] ⟨rfl, rfl, rfl, rfl, trivial⟩ (fun e => ?_)
                          refine c_seq (fun K78 hK78 => ?_)
                          refine c_reg ?_ -- region 47 syntaxm.go:477
                          refine wl (ro_move rfl) ?_
                          refine wl (ro_move rfl) ?_
                          refine wl (ro_move rfl) ?_
                          refine wl (ro_move rfl) ?_
                          refine wl (ro_build rfl bld_148_0_1_2_7) ?_
                          refine wl_call rfl en_162 (hS4.add (x := (⟨4, rt t1 G.length, rt t2 G2.length, 0, 0, 0, []⟩, s1.cur.pl)) (by omega)) ?_
                          rintro _ u5 ⟨rfl, U5, hS5⟩
                          refine wl (ro_assign rfl) ?_
                          refine wl_nil (x_then (hK78 _ _ ?_))
                          clear hK78 K78
                          refine c_ret (x_thenR ?_)
                          refine bp_ret Tryz.results106 rfl ?_
                          obtain ⟨c1, c2, c3⟩ := hmk t2
                          refine hS5.fin ?_ ?_ ?_
                          · rw [List.map_append, m4, m2, c1]
                            simp only [List.append_assoc]
                            rfl
                          · rw [List.length_append]
                            simp only [List.length_cons, List.length_nil]
                            omega
                          · rw [c3]
                            omega
                    · skip
                      rw [if_neg (by omega), if_neg (by omega)] at hR
                      cases failP_inj hR
                      refine c_reg ?_ -- region 39 syntaxm.go:467
                      refine wl (ro_move rfl) ?_
                      refine wl (ro_nilCheck rfl) ?_
                      refine wl (ro_fieldAddr (k := 8) rfl fo_146_4) ?_
                      refine wl (ro_loadB rfl sc_77 (by assumption) rfl) ?_
                      refine wl (ro_move rfl) ?_
                      refine wl (ro_indexAddr (et := 148) (k := 8) rfl rfl se_77 (rfl) (hi2)) ?_
                      refine wl (ro_fieldAddr (k := 0) rfl fo_148_0) ?_
                      refine wl (ro_loadB rfl sc_3 (hB2) ((row_cell (k := 8) (j := 0) hc2 rfl))) ?_
                      refine wl (ro_cmp (r := true) rfl rfl (congrArg some (bne_iff_ne.2 (by show (y2.1.K : Int) ≠ 17; omega)))) ?_
                      refine wl (ro_move rfl) ?_
                      refine wlg_yes rfl (ro_move rfl) ?_
                      refine wlg_yes rfl (ro_nilCheck rfl) ?_
                      refine wlg_yes rfl (ro_fieldAddr (k := 8) rfl fo_146_4) ?_
                      refine wlg_yes rfl (ro_loadB rfl sc_77 (by assumption) rfl) ?_
                      refine wlg_yes rfl (ro_move rfl) ?_
                      refine wlg_yes rfl (ro_indexAddr (et := 148) (k := 8) rfl rfl se_77 (rfl) (hi2)) ?_
                      refine wlg_yes rfl (ro_fieldAddr (k := 0) rfl fo_148_0) ?_
                      refine wlg_yes rfl (ro_loadB rfl sc_3 (hB2) ((row_cell (k := 8) (j := 0) hc2 rfl))) ?_
                      refine wlg_yes rfl (ro_cmp (r := true) rfl rfl (congrArg some (bne_iff_ne.2 (by show (y2.1.K : Int) ≠ 18; omega)))) ?_
                      refine wl (ro_pick rfl rfl rfl) ?_
                      refine wl_nil (x_then (hK60 _ _ ?_))
                      clear hK60 K60
                      refine wc_condT rfl ?_
                      refine c_seq (fun K79 hK79 => ?_)
                      refine c_reg ?_ -- region 40 syntaxm.go:468
                      refine wl (ro_move rfl) ?_
                      refine wl_call rfl en_50 (hS2.fail (c := 15) (by decide) (by omega)) ?_
                      rintro _ u10 ⟨rfl, hE10⟩
                      refine wl_nil (x_then (hK79 _ _ ?_))
                      clear hK79 K79
                      refine forget [] trivial (fun e => ?_)
                      refine c_seq (fun K80 hK80 => ?_)
                      refine c_reg ?_ -- region 41 syntaxm.go:469
                      refine wl (ro_assign rfl) ?_
                      refine wl_nil (x_then (hK80 _ _ ?_))
                      clear hK80 K80
                      refine c_ret (x_thenR (x_thenR ?_))
                      refine bp_ret Tryz.results106 rfl ?_
                      exact hE10.mr
                  · try simp only [decide_eq_true_eq, decide_eq_false_iff_not, Bool.not_eq_true', Bool.not_eq_false', Bool.not_eq_eq_eq_not, Bool.not_true, Bool.not_false, beq_iff_eq, bne_iff_ne, ne_eq, beq_eq_false_iff_ne, bne_eq_false_iff_eq, gt_iff_lt, ge_iff_le, Int.not_lt, Int.not_le] at hc115
                    rw [if_neg (by omega)] at hR
                    refine c_skip (x_then (hK57 _ _ ?_))
                    clear hK57 K57
                    refine c_seq (fun K81 hK81 => ?_)
                    refine c_seq (fun K82 hK82 => ?_)
                    by_cases h5 : t1.c = 5
                    · skip
                      rw [if_pos h5] at hR
                      cases okP_inj hR
                      refine c_reg ?_ -- region 48 syntaxm.go:479
                      refine wl (ro_move rfl) ?_
                      refine wl (ro_nilCheck rfl) ?_
                      refine wl (ro_fieldAddr (k := 8) rfl fo_146_4) ?_
                      refine wl (ro_loadB rfl sc_77 (by assumption) rfl) ?_
                      refine wl (ro_move rfl) ?_
                      refine wl (ro_indexAddr (et := 148) (k := 8) rfl rfl se_77 (rfl) (hi2)) ?_
                      refine wl (ro_fieldAddr (k := 0) rfl fo_148_0) ?_
                      refine wl (ro_loadB rfl sc_3 (hB2) ((row_cell (k := 8) (j := 0) hc2 rfl))) ?_
                      refine wl (ro_cmp (r := false) rfl rfl (congrArg some (bne_eq_false_iff_eq.2 (by show (y2.1.K : Int) = 19; omega)))) ?_
                      refine wl_nil (x_then (hK82 _ _ ?_))
                      clear hK82 K82
                      refine wc_condF rfl ?_
                      refine c_skip (x_then (hK81 _ _ ?_))
                      clear hK81 K81
                      refine forget [(0, _), (10, _)] ⟨rfl, rfl, trivial⟩ (fun e => ?_)
                      refine c_seq (fun K83 hK83 => ?_)
                      refine c_reg ?_ -- region 51 syntaxm.go:483
                      refine wl (ro_move rfl) ?_
                      refine wl (ro_move rfl) ?_
                      refine wl (ro_move rfl) ?_
                      refine wl (ro_nilCheck rfl) ?_
                      refine wl (ro_fieldAddr (k := 8) rfl fo_146_4) ?_
                      refine wl (ro_loadB rfl sc_77 (by assumption) rfl) ?_
                      refine wl (ro_move rfl) ?_
                      refine wl (ro_indexAddr (et := 148) (k := 8) rfl rfl se_77 (rfl) (hi2)) ?_
                      refine wl (ro_fieldAddr (k := 7) rfl fo_148_7) ?_
                      refine wl (ro_loadB rfl sc_3 (hB2) ((row_cell (k := 8) (j := 7) hc2 rfl))) ?_
                      refine wl (ro_build rfl bld_148_0_1_7) ?_
                      refine wl_call rfl en_162 (hS2.add (x := (⟨5, rt t1 G.length, 0, 0, 0, 0, []⟩, y2.2)) (by omega)) ?_
                      rintro _ u5 ⟨rfl, U5, hS5⟩
                      refine wl (ro_assign rfl) ?_
                      refine wl_nil (x_then (hK83 _ _ ?_))
                      clear hK83 K83
                      refine c_ret ?_
                      refine bp_ret Tryz.results106 rfl ?_
                      obtain ⟨xf, xz, rfl, _, _⟩ := q2.top.2.2 h5
                      have en : ndT (Ex.call xf xz) = 1 + ndT xf + ndT xz := rfl
                      refine hS5.fin ?_ ?_ ?_
                      · rw [List.map_append, m2, show (Ex.call xf xz).ks.headD dumT = xf from rfl, show (Ex.call xf xz).ks.getD 1 dumT = xz from rfl, lay_scall, List.append_assoc]
                        rw [show G.length + ndT xf + ndT xz = rt (Ex.call xf xz) G.length by omega]
                        rfl
                      · rw [List.length_append]
                        show _ = G.length + (2 + ndT xf + ndT xz)
                        simp only [List.length_cons, List.length_nil]
                        omega
                      · show _ = G.length + (2 + ndT xf + ndT xz) - 1
                        omega
                    · skip
                      rw [if_neg h5] at hR
                      cases failP_inj hR
                      refine c_reg ?_ -- region 48 syntaxm.go:479
                      refine wl (ro_move rfl) ?_
                      refine wl (ro_nilCheck rfl) ?_
                      refine wl (ro_fieldAddr (k := 8) rfl fo_146_4) ?_
                      refine wl (ro_loadB rfl sc_77 (by assumption) rfl) ?_
                      refine wl (ro_move rfl) ?_
                      refine wl (ro_indexAddr (et := 148) (k := 8) rfl rfl se_77 (rfl) (hi2)) ?_
                      refine wl (ro_fieldAddr (k := 0) rfl fo_148_0) ?_
                      refine wl (ro_loadB rfl sc_3 (hB2) ((row_cell (k := 8) (j := 0) hc2 rfl))) ?_
                      refine wl (ro_cmp (r := true) rfl rfl (congrArg some (bne_iff_ne.2 (by show (y2.1.K : Int) ≠ 19; omega)))) ?_
                      refine wl_nil (x_then (hK82 _ _ ?_))
                      clear hK82 K82
                      refine wc_condT rfl ?_
                      refine c_seq (fun K84 hK84 => ?_)
                      refine c_reg ?_ -- region 49 syntaxm.go:480
                      refine wl (ro_move rfl) ?_
                      refine wl_call rfl en_50 (hS2.fail (c := 15) (by decide) (by omega)) ?_
                      rintro _ u10 ⟨rfl, hE10⟩
                      refine wl_nil (x_then (hK84 _ _ ?_))
                      clear hK84 K84
                      refine forget [] trivial (fun e => ?_)
                      refine c_seq (fun K85 hK85 => ?_)
                      refine c_reg ?_ -- region 50 syntaxm.go:481
                      refine wl (ro_assign rfl) ?_
                      refine wl_nil (x_then (hK85 _ _ ?_))
                      clear hK85 K85
                      refine c_ret (x_thenR ?_)
                      refine bp_ret Tryz.results106 rfl ?_
                      exact hE10.mr
theorem MAll.zero : MAll 0 where
  x0 := fun _ h _ => by omega
  an := fun _ _ h _ => by omega
  lf := fun _ _ _ _ h _ => by omega
  un := fun _ h _ => by omega
  po := fun _ h _ => by omega
  li := fun _ _ h _ => by omega
  bl := fun _ h _ => by omega
  st := fun _ _ h _ => by omega
  i9 := fun _ _ _ h _ => by omega
  b10 := fun _ _ _ _ h _ => by omega
  f12 := fun _ _ _ _ h _ => by omega
theorem MAll.step {n : Nat} (ih : MAll n) : MAll (n + 1) where
  x0 := fun hG h hR => expr160 ih hG h hR
  an := fun hG h1 h hR => andE212 ih hG h1 h hR
  lf := fun hG h1 h2 h3 h hR => left252 ih hG h1 h2 h3 h hR
  un := fun hG h hR => unary279 ih hG h hR
  po := fun hG h hR => post163 ih hG h hR
  li := fun hG h1 h hR => list214 ih hG h1 h hR
  bl := fun hG h hR => block49 ih hG h hR
  st := fun hG h1 h hR => stmt106 ih hG h1 h hR
  i9 := fun hG h1 h2 h hR => ifStmt158 ih hG h1 h2 h hR
  b10 := fun hG h1 h2 h3 h hR => body161 ih hG h1 h2 h3 h hR
  f12 := fun hG h1 h2 h3 h hR => function210 ih hG h1 h2 h3 h hR
theorem MAll.all : ∀ n, MAll n
  | 0 => MAll.zero
  | n + 1 => MAll.step (MAll.all n)
end Go.Proofs.Qxb6500568aGreatDoor
