import Derived.Test.Qxb6500567aGreatBb
/- The real parser: open, shut. -/
namespace Go.Proofs.Qxb6500567aGreat
set_option linter.unusedVariables false
set_option linter.unusedSimpArgs false

theorem u8eq (c k : UInt8) : ((c.toNat : Int) == (k.toNat : Int)) = decide (c = k) := by
  by_cases h : c = k
  · subst h; simp
  · have h' : ¬ c.toNat = k.toNat := fun e => h (UInt8.toNat_inj.1 e)
    have h2 : ¬ (c.toNat : Int) = (k.toNat : Int) := by omega
    simp [h, h2]
theorem u8ne (c k : UInt8) : ((c.toNat : Int) != (k.toNat : Int)) = decide (c ≠ k) := by
  rw [bne, u8eq]
  by_cases h : c = k <;> simp [h]

/-- A new frame. -/
theorem PV.pushF {f : Nat → Value} {p : List UInt8} {σ : RS} {T : List RE} (h : PV f p σ T) (hd : σ.K.length < 5) (num a : Nat) :
    PV (pts (pt f 321 (i64c (σ.K.length + 1))) (291 + 5 * (σ.K.length + 1)) [icv (-1), icv (-1), icv (-1), i64c num, i64c a]) p ⟨σ.i, σ.n, σ.g, fresh num a, σ.F :: σ.K⟩ T := by
  have hn := h.n24
  have hl := h.tl
  have out : ∀ j, j ≠ 321 → (j < 291 + 5 * (σ.K.length + 1) ∨ 296 + 5 * (σ.K.length + 1) ≤ j) → pts (pt f 321 (i64c (σ.K.length + 1))) (291 + 5 * (σ.K.length + 1)) [icv (-1), icv (-1), icv (-1), i64c num, i64c a] j = f j := by
    intro j h1 h2
    rw [pts_out (by simp; omega), pt_ne h1]
  refine ⟨by rw [out _ (by omega) (by omega)]; exact h.p0, by rw [out _ (by omega) (by omega)]; exact h.i1, by rw [out _ (by omega) (by omega)]; exact h.n, hl, hn, h.ar.congr (fun j hj _ => out _ (by omega) (by omega)), ?_, ?_, by rw [pts_out (by simp; omega), pt_same]; rfl, by simp; omega, by rw [out _ (by omega) (by omega)]; exact h.g, h.g3, by rw [out _ (by omega) (by omega)]; exact h.er, h.il, h.pl⟩
  · intro k r hk
    have := (List.getElem?_eq_some_iff.1 hk).1
    rw [out _ (by omega) (by omega)]
    exact h.nu k r hk
  · intro k F hk
    have hlt := (List.getElem?_eq_some_iff.1 hk).1
    simp at hlt
    by_cases he : k = σ.K.length + 1
    · subst he
      simp at hk
      subst hk
      refine ⟨?_, ?_, ?_, ?_, ?_⟩
      · exact pts_in (j := 0) rfl
      · rw [show 292 + 5 * (σ.K.length + 1) = 291 + 5 * (σ.K.length + 1) + 1 by omega]; exact pts_in (j := 1) rfl
      · rw [show 293 + 5 * (σ.K.length + 1) = 291 + 5 * (σ.K.length + 1) + 2 by omega]; exact pts_in (j := 2) rfl
      · rw [show 294 + 5 * (σ.K.length + 1) = 291 + 5 * (σ.K.length + 1) + 3 by omega]; exact pts_in (j := 3) rfl
      · rw [show 295 + 5 * (σ.K.length + 1) = 291 + 5 * (σ.K.length + 1) + 4 by omega]; exact pts_in (j := 4) rfl
    · refine (h.fr k F ?_).congr (fun j hj hj' => out _ (by omega) (by omega))
      rw [List.reverse_cons, List.getElem?_append_left (by simp; omega)] at hk
      exact hk

theorem open124 {w : World} {xb : Nat} {f : Nat → Value} {p : List UInt8} {σ : RS} {T : List RE} (hB : FB w.heap xb 325 f 96) (V : PV f p σ T) (hi : σ.i < p.length) :
    Ret Tryz.prog 124 [ptr xb] w (fun v w' => v = .tuple #[] ∧ RP xb p (openR p σ) w' ∧ Fram (one xb) w w') := by
  have hF : Fram (one xb) w w := Fram.refl _ _
  have hd5 := V.d5
  have hg3 := V.g3
  have hpl := V.pl
  have V1 : PV (pt f 1 (i64c (σ.i + 1))) p { σ with i := σ.i + 1 } T := V.setI hi
  have hcase : (p[σ.i + 1]? = some 63 ∧ p[σ.i + 2]? = some 58) ∨ (p[σ.i + 1]? = some 63 ∧ ∃ c, p[σ.i + 2]? = some c ∧ c ≠ 58) ∨ (∃ c, p[σ.i + 1]? = some c ∧ c ≠ 63 ∧ σ.i + 2 < p.length) ∨ p.length ≤ σ.i + 2 := by
    by_cases h1 : σ.i + 2 < p.length
    · have e1 : p[σ.i + 1]? = some (p[σ.i + 1]'(by omega)) := List.getElem?_eq_getElem (by omega)
      have e2 : p[σ.i + 2]? = some (p[σ.i + 2]'h1) := List.getElem?_eq_getElem h1
      by_cases h2 : p[σ.i + 1]'(by omega) = 63
      · rw [h2] at e1
        by_cases h3 : p[σ.i + 2]'h1 = 58
        · rw [h3] at e2; exact .inl ⟨e1, e2⟩
        · exact .inr (.inl ⟨e1, _, e2, h3⟩)
      · exact .inr (.inr (.inl ⟨_, e1, h2, h1⟩))
    · exact .inr (.inr (.inr (by omega)))
  refine ret_of Tryz.func124 rfl Tryz.ntmps124 rfl ?_
  refine c_seq (fun K1 hK1 => ?_)
  refine c_reg ?_ -- region 0 syn.go:112
  refine wl (ro_move rfl) ?_
  refine wl (ro_nilCheck rfl) ?_
  refine wl (ro_fieldAddr (k := 1) rfl fo_96_1) ?_
  refine wl (ro_loadB rfl sc_3 (hB) (cel_get' (by omega) V.i1)) ?_
  refine wl (ro_assign rfl) ?_
  refine wl_nil (x_then (hK1 _ _ ?_))
  clear hK1 K1
  refine c_seq (fun K2 hK2 => ?_)
  refine c_seq (fun K3 hK3 => ?_)
  refine c_reg ?_ -- region 1 syn.go:113
  refine wl (ro_move rfl) ?_
  refine wl (ro_nilCheck rfl) ?_
  refine wl (ro_fieldAddr (k := 321) rfl fo_96_6) ?_
  refine wl (ro_loadB rfl sc_3 (hB) (cel_get' (by omega) V.dp)) ?_
  refine wl (ro_cmp rfl rfl rfl) ?_
  refine wl_nil (x_then (hK3 _ _ ?_))
  clear hK3 K3
  refine wc_cond rfl (fun hc12 => ?_) (fun hc12 => ?_)
  · try simp only [decide_eq_true_eq, decide_eq_false_iff_not, Bool.not_eq_true', Bool.not_eq_false', Bool.not_eq_eq_eq_not, Bool.not_true, Bool.not_false, beq_iff_eq, bne_iff_ne, ne_eq, beq_eq_false_iff_ne, bne_eq_false_iff_eq, gt_iff_lt, ge_iff_le, Int.not_lt, Int.not_le] at hc12
    refine c_seq (fun K4 hK4 => ?_)
    refine c_reg ?_ -- region 2 syn.go:114
    refine wl (ro_move rfl) ?_
    refine wl (ro_move rfl) ?_
    refine wl_call rfl en_97 (fail97 hB) ?_
    rintro _ w9 ⟨rfl, hB, F9⟩
    replace hF := hF.trans F9
    refine wl_nil (x_then (hK4 _ _ ?_))
    clear hK4 K4
    refine c_ret (x_thenR ?_)
    refine bp_ret Tryz.results124 rfl ?_
    exact ⟨rfl, RP.er (e := (6, σ.i)) hB (err97 V) (by unfold openR; rw [if_pos (by omega)]), hF⟩
  · try simp only [decide_eq_true_eq, decide_eq_false_iff_not, Bool.not_eq_true', Bool.not_eq_false', Bool.not_eq_eq_eq_not, Bool.not_true, Bool.not_false, beq_iff_eq, bne_iff_ne, ne_eq, beq_eq_false_iff_ne, bne_eq_false_iff_eq, gt_iff_lt, ge_iff_le, Int.not_lt, Int.not_le] at hc12
    have hd : σ.K.length < 5 := by omega
    refine c_skip (x_then (hK2 _ _ ?_))
    clear hK2 K2
    refine forget [(0, _), (2, _)] ⟨rfl, rfl, trivial⟩ (fun e => ?_)
    refine c_seq (fun K5 hK5 => ?_)
    refine c_reg ?_ -- region 3 syn.go:117
    refine wl (ro_move rfl) ?_
    refine wl (ro_move rfl) ?_
    refine wl (ro_arith rfl rfl rfl (Go.IntWalk.i64_in _ (by omega))) ?_
    refine wl (ro_nilCheck rfl) ?_
    refine wl (ro_fieldAddr (k := 1) rfl fo_96_1) ?_
    refine wl_put rfl rfl rfl sz_3 hB ((cel_lt (by omega))) ((cel_put 1 (by omega))) (fun w1 hB F1 => ?_)
    replace hF := hF.thenDrew.thenO F1 (by first | exact .inr (by omega) | exact .inl rfl | exact .inl (by assumption))
    refine wl_nil (x_then (hK5 _ _ ?_))
    clear hK5 K5
    refine forget [(0, _), (2, _)] ⟨rfl, rfl, trivial⟩ (fun e => ?_)
    refine c_seq (fun K6 hK6 => ?_)
    refine c_reg ?_ -- region 4 syn.go:118
    refine wl (ro_assign rfl) ?_
    refine wl_nil (x_then (hK6 _ _ ?_))
    clear hK6 K6
    refine c_seq (fun K7 hK7 => ?_)
    refine c_seq (fun K8 hK8 => ?_)
    rcases hcase with ⟨h1, h2⟩ | ⟨h1, c, h2, hc⟩ | ⟨c, h1, hc, h2⟩ | h2
    · skip
      have hlt2 := get_lt h2
      refine c_reg ?_ -- region 5 syn.go:119
      refine wl (ro_move rfl) ?_
      refine wl (ro_arith rfl rfl rfl (Go.IntWalk.i64_in _ (by omega))) ?_
      refine wl (ro_move rfl) ?_
      refine wl (ro_nilCheck rfl) ?_
      refine wl (ro_fieldAddr (k := 0) rfl fo_96_0) ?_
      refine wl (ro_loadB rfl sc_9 (hB) (cel_get' (by omega) V1.p0)) ?_
      refine wl (ro_lenS rfl st_9) ?_
      refine wl (ro_cmp (r := true) rfl rfl (congrArg some (decide_eq_true (by omega)))) ?_
      refine wl (ro_move rfl) ?_
      refine wlg_yes rfl (ro_move rfl) ?_
      refine wlg_yes rfl (ro_nilCheck rfl) ?_
      refine wlg_yes rfl (ro_fieldAddr (k := 0) rfl fo_96_0) ?_
      refine wlg_yes rfl (ro_loadB rfl sc_9 (hB) (cel_get' (by omega) V1.p0)) ?_
      refine wlg_yes rfl (ro_move rfl) ?_
      refine wlg_yes rfl (ro_arith rfl rfl rfl (Go.IntWalk.i64_in _ (by omega))) ?_
      refine wlg_yes rfl (ro_indexS rfl rfl st_9 ((show _ = ((σ.i + 1 : Nat) : Int) by omega)) (h1)) ?_
      refine wlg_yes rfl (ro_cmp (r := true) rfl rfl rfl) ?_
      refine wl (ro_pick rfl rfl rfl) ?_
      refine wl (ro_move rfl) ?_
      refine wlg_yes rfl (ro_move rfl) ?_
      refine wlg_yes rfl (ro_nilCheck rfl) ?_
      refine wlg_yes rfl (ro_fieldAddr (k := 0) rfl fo_96_0) ?_
      refine wlg_yes rfl (ro_loadB rfl sc_9 (hB) (cel_get' (by omega) V1.p0)) ?_
      refine wlg_yes rfl (ro_move rfl) ?_
      refine wlg_yes rfl (ro_arith rfl rfl rfl (Go.IntWalk.i64_in _ (by omega))) ?_
      refine wlg_yes rfl (ro_indexS rfl rfl st_9 ((show _ = ((σ.i + 2 : Nat) : Int) by omega)) (h2)) ?_
      refine wlg_yes rfl (ro_cmp (r := true) rfl rfl rfl) ?_
      refine wl (ro_pick rfl rfl rfl) ?_
      refine wl_nil (x_then (hK8 _ _ ?_))
      clear hK8 K8
      refine wc_condT rfl ?_
      refine c_reg ?_ -- region 6 syn.go:120
      refine wl (ro_move rfl) ?_
      refine wl (ro_move rfl) ?_
      refine wl (ro_arith rfl rfl rfl (Go.IntWalk.i64_in _ (by omega))) ?_
      refine wl (ro_nilCheck rfl) ?_
      refine wl (ro_fieldAddr (k := 1) rfl fo_96_1) ?_
      refine wl_put rfl rfl rfl sz_3 hB ((cel_lt (by omega))) ((show _ = cel 325 (pt f 1 (i64c (σ.i + 3))) by rw [cel_put 1 (by omega)]; exact cel_congr (fun j hj ↦ by unfold pt; split <;> rfl))) (fun w2 hB F2 => ?_)
      replace hF := hF.thenDrew.thenO F2 (by first | exact .inr (by omega) | exact .inl rfl | exact .inl (by assumption))
      have V2 : PV (pt f 1 (i64c (σ.i + 3))) p { σ with i := σ.i + 3 } T := V.setI (by omega)
      refine wl_nil (x_then (hK7 _ _ ?_))
      clear hK7 K7
      refine forget [(0, _), (2, _), (3, _)] ⟨rfl, rfl, rfl, trivial⟩ (fun e => ?_)
      refine c_seq (fun K9 hK9 => ?_)
      refine c_reg ?_ -- region 11 syn.go:129
      refine wl (ro_move rfl) ?_
      refine wl (ro_nilCheck rfl) ?_
      refine wl (ro_fieldAddr (k := 321) rfl fo_96_6) ?_
      refine wl (ro_loadB rfl sc_3 (hB) (cel_get' (by omega) (show _ = i64c σ.K.length from V2.dp))) ?_
      refine wl (ro_arith rfl rfl rfl (Go.IntWalk.i64_in _ (by omega))) ?_
      refine wl (ro_nilCheck rfl) ?_
      refine wl (ro_fieldAddr (k := 321) rfl fo_96_6) ?_
      refine wl_put rfl rfl rfl sz_3 hB ((cel_lt (by omega))) ((cel_put 321 (by omega))) (fun w3 hB F3 => ?_)
      replace hF := hF.thenDrew.thenO F3 (by first | exact .inr (by omega) | exact .inl rfl | exact .inl (by assumption))
      refine wl_nil (x_then (hK9 _ _ ?_))
      clear hK9 K9
      refine c_piL 11 [(0, false), (1, false), (2, false), (3, false), (4, false), (5, false), (6, false), (7, false), (8, false), (9, false), (10, false)] (SameH _) mixed (by kernel_rfl) rfl (by kernel_rfl) (po_bp) (sameH_now _ _) ?_ -- region 12 syn.go:130
      refine ql_ro rfl (fun w hS => ro_move rfl) ?_
      refine ql_ro rfl (fun w hS => ro_move rfl) ?_
      refine ql_ro rfl (fun w hS => ro_nilCheck rfl) ?_
      refine ql_ro rfl (fun w hS => ro_fieldAddr (k := 321) rfl fo_96_6) ?_
      refine ql_ro rfl (fun w hS => ro_loadB rfl sc_3 (Blk.of_heap hB hS) (cel_get' (by omega) pt_same)) ?_
      refine ql_ro rfl (fun w hS => ro_move rfl) ?_
      refine ql_ro rfl (fun w hS => ro_move rfl) ?_
      refine ql_ro rfl (fun w hS => ro_build rfl bld_93_0_1_2_3_4) ?_
      refine ql_ro rfl (fun w hS => ro_nilCheck rfl) ?_
      refine ql_ro rfl (fun w hS => ro_fieldAddr (k := 291) rfl fo_96_5) ?_
      refine ql_ro rfl (fun w hS => ro_indexAddrA (et := 93) (k := 5) rfl rfl ar_94 ((show _ = ((σ.K.length + 1 : Nat) : Int) by omega)) ((by omega : σ.K.length + 1 < 6))) ?_
      refine ql_puta rfl rfl rfl (by simp [Value.oneCell', i64c, u64c, u8c, ptr]) sz_93 (rfl) hB ((by rw [cel_len]; omega)) ((cel_puts (291 + 5 * (σ.K.length + 1)) (by omega) rfl (by omega))) (fun w4 hB F4 => ?_)
      replace hF := hF.thenDrew.thenO F4 (by first | exact .inr (by omega) | exact .inl rfl | exact .inl (by assumption))
      refine ?_
      refine bp_end Tryz.results124 rfl ?_
      exact ⟨rfl, RP.ok hB (V2.pushF hd 0 σ.i) (by unfold openR; rw [if_neg (by omega), if_pos ⟨h1, h2⟩]), hF⟩
    · skip
      have hlt2 := get_lt h2
      refine c_reg ?_ -- region 5 syn.go:119
      refine wl (ro_move rfl) ?_
      refine wl (ro_arith rfl rfl rfl (Go.IntWalk.i64_in _ (by omega))) ?_
      refine wl (ro_move rfl) ?_
      refine wl (ro_nilCheck rfl) ?_
      refine wl (ro_fieldAddr (k := 0) rfl fo_96_0) ?_
      refine wl (ro_loadB rfl sc_9 (hB) (cel_get' (by omega) V1.p0)) ?_
      refine wl (ro_lenS rfl st_9) ?_
      refine wl (ro_cmp (r := true) rfl rfl (congrArg some (decide_eq_true (by omega)))) ?_
      refine wl (ro_move rfl) ?_
      refine wlg_yes rfl (ro_move rfl) ?_
      refine wlg_yes rfl (ro_nilCheck rfl) ?_
      refine wlg_yes rfl (ro_fieldAddr (k := 0) rfl fo_96_0) ?_
      refine wlg_yes rfl (ro_loadB rfl sc_9 (hB) (cel_get' (by omega) V1.p0)) ?_
      refine wlg_yes rfl (ro_move rfl) ?_
      refine wlg_yes rfl (ro_arith rfl rfl rfl (Go.IntWalk.i64_in _ (by omega))) ?_
      refine wlg_yes rfl (ro_indexS rfl rfl st_9 ((show _ = ((σ.i + 1 : Nat) : Int) by omega)) (h1)) ?_
      refine wlg_yes rfl (ro_cmp (r := true) rfl rfl rfl) ?_
      refine wl (ro_pick rfl rfl rfl) ?_
      refine wl (ro_move rfl) ?_
      refine wlg_yes rfl (ro_move rfl) ?_
      refine wlg_yes rfl (ro_nilCheck rfl) ?_
      refine wlg_yes rfl (ro_fieldAddr (k := 0) rfl fo_96_0) ?_
      refine wlg_yes rfl (ro_loadB rfl sc_9 (hB) (cel_get' (by omega) V1.p0)) ?_
      refine wlg_yes rfl (ro_move rfl) ?_
      refine wlg_yes rfl (ro_arith rfl rfl rfl (Go.IntWalk.i64_in _ (by omega))) ?_
      refine wlg_yes rfl (ro_indexS rfl rfl st_9 ((show _ = ((σ.i + 2 : Nat) : Int) by omega)) (h2)) ?_
      refine wlg_yes rfl (ro_cmp (r := false) rfl rfl (congrArg some ((u8eq c 58).trans (decide_eq_false hc)))) ?_
      refine wl (ro_pick rfl rfl rfl) ?_
      refine wl_nil (x_then (hK8 _ _ ?_))
      clear hK8 K8
      refine wc_condF rfl ?_
      refine c_seq (fun K10 hK10 => ?_)
      refine c_seq (fun K11 hK11 => ?_)
      refine c_reg ?_ -- region 7 syn.go:122
      refine wl (ro_move rfl) ?_
      refine wl (ro_nilCheck rfl) ?_
      refine wl (ro_fieldAddr (k := 322) rfl fo_96_7) ?_
      refine wl (ro_loadB rfl sc_3 (hB) (cel_get' (by omega) (show _ = i64c σ.g from V1.g))) ?_
      refine wl (ro_cmp rfl rfl rfl) ?_
      refine wl_nil (x_then (hK11 _ _ ?_))
      clear hK11 K11
      refine wc_cond rfl (fun hc58 => ?_) (fun hc58 => ?_)
      · try simp only [decide_eq_true_eq, decide_eq_false_iff_not, Bool.not_eq_true', Bool.not_eq_false', Bool.not_eq_eq_eq_not, Bool.not_true, Bool.not_false, beq_iff_eq, bne_iff_ne, ne_eq, beq_eq_false_iff_ne, bne_eq_false_iff_eq, gt_iff_lt, ge_iff_le, Int.not_lt, Int.not_le] at hc58
        refine c_seq (fun K12 hK12 => ?_)
        refine c_reg ?_ -- region 8 syn.go:123
        refine wl (ro_move rfl) ?_
        refine wl (ro_move rfl) ?_
        refine wl_call rfl en_97 (fail97 hB) ?_
        rintro _ w9 ⟨rfl, hB, F9⟩
        replace hF := hF.trans F9
        refine wl_nil (x_then (hK12 _ _ ?_))
        clear hK12 K12
        refine c_ret (x_thenR (x_thenR ?_))
        refine bp_ret Tryz.results124 rfl ?_
        exact ⟨rfl, RP.er (e := (7, σ.i)) hB (err97 V1) (by unfold openR; rw [if_neg (by omega), if_neg (fun h => hc (Option.some.inj (h2.symm.trans h.2))), if_pos (by omega)]), hF⟩
      · try simp only [decide_eq_true_eq, decide_eq_false_iff_not, Bool.not_eq_true', Bool.not_eq_false', Bool.not_eq_eq_eq_not, Bool.not_true, Bool.not_false, beq_iff_eq, bne_iff_ne, ne_eq, beq_eq_false_iff_ne, bne_eq_false_iff_eq, gt_iff_lt, ge_iff_le, Int.not_lt, Int.not_le] at hc58
        refine c_skip (x_then (hK10 _ _ ?_))
        clear hK10 K10
        refine forget [(0, _), (2, _)] ⟨rfl, rfl, trivial⟩ (fun e => ?_)
        refine c_seq (fun K13 hK13 => ?_)
        refine c_reg ?_ -- region 9 syn.go:126
        refine wl (ro_move rfl) ?_
        refine wl (ro_nilCheck rfl) ?_
        refine wl (ro_fieldAddr (k := 322) rfl fo_96_7) ?_
        refine wl (ro_loadB rfl sc_3 (hB) (cel_get' (by omega) (show _ = i64c σ.g from V1.g))) ?_
        refine wl (ro_arith rfl rfl rfl (Go.IntWalk.i64_in _ (by omega))) ?_
        refine wl (ro_nilCheck rfl) ?_
        refine wl (ro_fieldAddr (k := 322) rfl fo_96_7) ?_
        refine wl_put rfl rfl rfl sz_3 hB ((cel_lt (by omega))) ((cel_put 322 (by omega))) (fun w5 hB F5 => ?_)
        replace hF := hF.thenDrew.thenO F5 (by first | exact .inr (by omega) | exact .inl rfl | exact .inl (by assumption))
        have V2 : PV (pt (pt f 1 (i64c (σ.i + 1))) 322 (i64c (σ.g + 1))) p { σ with i := σ.i + 1, g := σ.g + 1 } T := V1.setG (by omega)
        refine wl_nil (x_then (hK13 _ _ ?_))
        clear hK13 K13
        refine c_reg ?_ -- region 10 syn.go:127
        refine wl (ro_move rfl) ?_
        refine wl (ro_nilCheck rfl) ?_
        refine wl (ro_fieldAddr (k := 322) rfl fo_96_7) ?_
        refine wl (ro_loadB rfl sc_3 (hB) (cel_get' (by omega) pt_same)) ?_
        refine wl (ro_assign rfl) ?_
        refine wl_nil (x_then (hK7 _ _ ?_))
        clear hK7 K7
        refine forget [(0, _), (2, _), (3, _)] ⟨rfl, rfl, rfl, trivial⟩ (fun e => ?_)
        refine c_seq (fun K14 hK14 => ?_)
        refine c_reg ?_ -- region 11 syn.go:129
        refine wl (ro_move rfl) ?_
        refine wl (ro_nilCheck rfl) ?_
        refine wl (ro_fieldAddr (k := 321) rfl fo_96_6) ?_
        refine wl (ro_loadB rfl sc_3 (hB) (cel_get' (by omega) (show _ = i64c σ.K.length from V2.dp))) ?_
        refine wl (ro_arith rfl rfl rfl (Go.IntWalk.i64_in _ (by omega))) ?_
        refine wl (ro_nilCheck rfl) ?_
        refine wl (ro_fieldAddr (k := 321) rfl fo_96_6) ?_
        refine wl_put rfl rfl rfl sz_3 hB ((cel_lt (by omega))) ((cel_put 321 (by omega))) (fun w6 hB F6 => ?_)
        replace hF := hF.thenDrew.thenO F6 (by first | exact .inr (by omega) | exact .inl rfl | exact .inl (by assumption))
        refine wl_nil (x_then (hK14 _ _ ?_))
        clear hK14 K14
        refine c_piL 11 [(0, false), (1, false), (2, false), (3, false), (4, false), (5, false), (6, false), (7, false), (8, false), (9, false), (10, false)] (SameH _) mixed (by kernel_rfl) rfl (by kernel_rfl) (po_bp) (sameH_now _ _) ?_ -- region 12 syn.go:130
        refine ql_ro rfl (fun w hS => ro_move rfl) ?_
        refine ql_ro rfl (fun w hS => ro_move rfl) ?_
        refine ql_ro rfl (fun w hS => ro_nilCheck rfl) ?_
        refine ql_ro rfl (fun w hS => ro_fieldAddr (k := 321) rfl fo_96_6) ?_
        refine ql_ro rfl (fun w hS => ro_loadB rfl sc_3 (Blk.of_heap hB hS) (cel_get' (by omega) pt_same)) ?_
        refine ql_ro rfl (fun w hS => ro_move rfl) ?_
        refine ql_ro rfl (fun w hS => ro_move rfl) ?_
        refine ql_ro rfl (fun w hS => ro_build rfl bld_93_0_1_2_3_4) ?_
        refine ql_ro rfl (fun w hS => ro_nilCheck rfl) ?_
        refine ql_ro rfl (fun w hS => ro_fieldAddr (k := 291) rfl fo_96_5) ?_
        refine ql_ro rfl (fun w hS => ro_indexAddrA (et := 93) (k := 5) rfl rfl ar_94 ((show _ = ((σ.K.length + 1 : Nat) : Int) by omega)) ((by omega : σ.K.length + 1 < 6))) ?_
        refine ql_puta rfl rfl rfl (by simp [Value.oneCell', i64c, u64c, u8c, ptr]) sz_93 (rfl) hB ((by rw [cel_len]; omega)) ((cel_puts (291 + 5 * (σ.K.length + 1)) (by omega) rfl (by omega))) (fun w7 hB F7 => ?_)
        replace hF := hF.thenDrew.thenO F7 (by first | exact .inr (by omega) | exact .inl rfl | exact .inl (by assumption))
        refine ?_
        refine bp_end Tryz.results124 rfl ?_
        exact ⟨rfl, RP.ok hB (V2.pushF hd (σ.g + 1) σ.i) (by unfold openR; rw [if_neg (by omega), if_neg (fun h => hc (Option.some.inj (h2.symm.trans h.2))), if_neg (by omega)]), hF⟩
    · skip
      refine c_reg ?_ -- region 5 syn.go:119
      refine wl (ro_move rfl) ?_
      refine wl (ro_arith rfl rfl rfl (Go.IntWalk.i64_in _ (by omega))) ?_
      refine wl (ro_move rfl) ?_
      refine wl (ro_nilCheck rfl) ?_
      refine wl (ro_fieldAddr (k := 0) rfl fo_96_0) ?_
      refine wl (ro_loadB rfl sc_9 (hB) (cel_get' (by omega) V1.p0)) ?_
      refine wl (ro_lenS rfl st_9) ?_
      refine wl (ro_cmp (r := true) rfl rfl (congrArg some (decide_eq_true (by omega)))) ?_
      refine wl (ro_move rfl) ?_
      refine wlg_yes rfl (ro_move rfl) ?_
      refine wlg_yes rfl (ro_nilCheck rfl) ?_
      refine wlg_yes rfl (ro_fieldAddr (k := 0) rfl fo_96_0) ?_
      refine wlg_yes rfl (ro_loadB rfl sc_9 (hB) (cel_get' (by omega) V1.p0)) ?_
      refine wlg_yes rfl (ro_move rfl) ?_
      refine wlg_yes rfl (ro_arith rfl rfl rfl (Go.IntWalk.i64_in _ (by omega))) ?_
      refine wlg_yes rfl (ro_indexS rfl rfl st_9 ((show _ = ((σ.i + 1 : Nat) : Int) by omega)) (h1)) ?_
      refine wlg_yes rfl (ro_cmp (r := false) rfl rfl (congrArg some ((u8eq c 63).trans (decide_eq_false hc)))) ?_
      refine wl (ro_pick rfl rfl rfl) ?_
      refine wl (ro_move rfl) ?_
      refine wlg_no rfl ?_
      refine wlg_no rfl ?_
      refine wlg_no rfl ?_
      refine wlg_no rfl ?_
      refine wlg_no rfl ?_
      refine wlg_no rfl ?_
      refine wlg_no rfl ?_
      refine wlg_no rfl ?_
      refine wl (ro_pick rfl rfl rfl) ?_
      refine wl_nil (x_then (hK8 _ _ ?_))
      clear hK8 K8
      refine wc_condF rfl ?_
      refine c_seq (fun K15 hK15 => ?_)
      refine c_seq (fun K16 hK16 => ?_)
      refine c_reg ?_ -- region 7 syn.go:122
      refine wl (ro_move rfl) ?_
      refine wl (ro_nilCheck rfl) ?_
      refine wl (ro_fieldAddr (k := 322) rfl fo_96_7) ?_
      refine wl (ro_loadB rfl sc_3 (hB) (cel_get' (by omega) (show _ = i64c σ.g from V1.g))) ?_
      refine wl (ro_cmp rfl rfl rfl) ?_
      refine wl_nil (x_then (hK16 _ _ ?_))
      clear hK16 K16
      refine wc_cond rfl (fun hc58 => ?_) (fun hc58 => ?_)
      · try simp only [decide_eq_true_eq, decide_eq_false_iff_not, Bool.not_eq_true', Bool.not_eq_false', Bool.not_eq_eq_eq_not, Bool.not_true, Bool.not_false, beq_iff_eq, bne_iff_ne, ne_eq, beq_eq_false_iff_ne, bne_eq_false_iff_eq, gt_iff_lt, ge_iff_le, Int.not_lt, Int.not_le] at hc58
        refine c_seq (fun K17 hK17 => ?_)
        refine c_reg ?_ -- region 8 syn.go:123
        refine wl (ro_move rfl) ?_
        refine wl (ro_move rfl) ?_
        refine wl_call rfl en_97 (fail97 hB) ?_
        rintro _ w9 ⟨rfl, hB, F9⟩
        replace hF := hF.trans F9
        refine wl_nil (x_then (hK17 _ _ ?_))
        clear hK17 K17
        refine c_ret (x_thenR (x_thenR ?_))
        refine bp_ret Tryz.results124 rfl ?_
        exact ⟨rfl, RP.er (e := (7, σ.i)) hB (err97 V1) (by unfold openR; rw [if_neg (by omega), if_neg (fun h => hc (Option.some.inj (h1.symm.trans h.1))), if_pos (by omega)]), hF⟩
      · try simp only [decide_eq_true_eq, decide_eq_false_iff_not, Bool.not_eq_true', Bool.not_eq_false', Bool.not_eq_eq_eq_not, Bool.not_true, Bool.not_false, beq_iff_eq, bne_iff_ne, ne_eq, beq_eq_false_iff_ne, bne_eq_false_iff_eq, gt_iff_lt, ge_iff_le, Int.not_lt, Int.not_le] at hc58
        refine c_skip (x_then (hK15 _ _ ?_))
        clear hK15 K15
        refine forget [(0, _), (2, _)] ⟨rfl, rfl, trivial⟩ (fun e => ?_)
        refine c_seq (fun K18 hK18 => ?_)
        refine c_reg ?_ -- region 9 syn.go:126
        refine wl (ro_move rfl) ?_
        refine wl (ro_nilCheck rfl) ?_
        refine wl (ro_fieldAddr (k := 322) rfl fo_96_7) ?_
        refine wl (ro_loadB rfl sc_3 (hB) (cel_get' (by omega) (show _ = i64c σ.g from V1.g))) ?_
        refine wl (ro_arith rfl rfl rfl (Go.IntWalk.i64_in _ (by omega))) ?_
        refine wl (ro_nilCheck rfl) ?_
        refine wl (ro_fieldAddr (k := 322) rfl fo_96_7) ?_
        refine wl_put rfl rfl rfl sz_3 hB ((cel_lt (by omega))) ((cel_put 322 (by omega))) (fun w8 hB F8 => ?_)
        replace hF := hF.thenDrew.thenO F8 (by first | exact .inr (by omega) | exact .inl rfl | exact .inl (by assumption))
        have V2 : PV (pt (pt f 1 (i64c (σ.i + 1))) 322 (i64c (σ.g + 1))) p { σ with i := σ.i + 1, g := σ.g + 1 } T := V1.setG (by omega)
        refine wl_nil (x_then (hK18 _ _ ?_))
        clear hK18 K18
        refine c_reg ?_ -- region 10 syn.go:127
        refine wl (ro_move rfl) ?_
        refine wl (ro_nilCheck rfl) ?_
        refine wl (ro_fieldAddr (k := 322) rfl fo_96_7) ?_
        refine wl (ro_loadB rfl sc_3 (hB) (cel_get' (by omega) pt_same)) ?_
        refine wl (ro_assign rfl) ?_
        refine wl_nil (x_then (hK7 _ _ ?_))
        clear hK7 K7
        refine forget [(0, _), (2, _), (3, _)] ⟨rfl, rfl, rfl, trivial⟩ (fun e => ?_)
        refine c_seq (fun K19 hK19 => ?_)
        refine c_reg ?_ -- region 11 syn.go:129
        refine wl (ro_move rfl) ?_
        refine wl (ro_nilCheck rfl) ?_
        refine wl (ro_fieldAddr (k := 321) rfl fo_96_6) ?_
        refine wl (ro_loadB rfl sc_3 (hB) (cel_get' (by omega) (show _ = i64c σ.K.length from V2.dp))) ?_
        refine wl (ro_arith rfl rfl rfl (Go.IntWalk.i64_in _ (by omega))) ?_
        refine wl (ro_nilCheck rfl) ?_
        refine wl (ro_fieldAddr (k := 321) rfl fo_96_6) ?_
        refine wl_put rfl rfl rfl sz_3 hB ((cel_lt (by omega))) ((cel_put 321 (by omega))) (fun w9 hB F9 => ?_)
        replace hF := hF.thenDrew.thenO F9 (by first | exact .inr (by omega) | exact .inl rfl | exact .inl (by assumption))
        refine wl_nil (x_then (hK19 _ _ ?_))
        clear hK19 K19
        refine c_piL 11 [(0, false), (1, false), (2, false), (3, false), (4, false), (5, false), (6, false), (7, false), (8, false), (9, false), (10, false)] (SameH _) mixed (by kernel_rfl) rfl (by kernel_rfl) (po_bp) (sameH_now _ _) ?_ -- region 12 syn.go:130
        refine ql_ro rfl (fun w hS => ro_move rfl) ?_
        refine ql_ro rfl (fun w hS => ro_move rfl) ?_
        refine ql_ro rfl (fun w hS => ro_nilCheck rfl) ?_
        refine ql_ro rfl (fun w hS => ro_fieldAddr (k := 321) rfl fo_96_6) ?_
        refine ql_ro rfl (fun w hS => ro_loadB rfl sc_3 (Blk.of_heap hB hS) (cel_get' (by omega) pt_same)) ?_
        refine ql_ro rfl (fun w hS => ro_move rfl) ?_
        refine ql_ro rfl (fun w hS => ro_move rfl) ?_
        refine ql_ro rfl (fun w hS => ro_build rfl bld_93_0_1_2_3_4) ?_
        refine ql_ro rfl (fun w hS => ro_nilCheck rfl) ?_
        refine ql_ro rfl (fun w hS => ro_fieldAddr (k := 291) rfl fo_96_5) ?_
        refine ql_ro rfl (fun w hS => ro_indexAddrA (et := 93) (k := 5) rfl rfl ar_94 ((show _ = ((σ.K.length + 1 : Nat) : Int) by omega)) ((by omega : σ.K.length + 1 < 6))) ?_
        refine ql_puta rfl rfl rfl (by simp [Value.oneCell', i64c, u64c, u8c, ptr]) sz_93 (rfl) hB ((by rw [cel_len]; omega)) ((cel_puts (291 + 5 * (σ.K.length + 1)) (by omega) rfl (by omega))) (fun w10 hB F10 => ?_)
        replace hF := hF.thenDrew.thenO F10 (by first | exact .inr (by omega) | exact .inl rfl | exact .inl (by assumption))
        refine ?_
        refine bp_end Tryz.results124 rfl ?_
        exact ⟨rfl, RP.ok hB (V2.pushF hd (σ.g + 1) σ.i) (by unfold openR; rw [if_neg (by omega), if_neg (fun h => hc (Option.some.inj (h1.symm.trans h.1))), if_neg (by omega)]), hF⟩
    · skip
      refine c_reg ?_ -- region 5 syn.go:119
      refine wl (ro_move rfl) ?_
      refine wl (ro_arith rfl rfl rfl (Go.IntWalk.i64_in _ (by omega))) ?_
      refine wl (ro_move rfl) ?_
      refine wl (ro_nilCheck rfl) ?_
      refine wl (ro_fieldAddr (k := 0) rfl fo_96_0) ?_
      refine wl (ro_loadB rfl sc_9 (hB) (cel_get' (by omega) V1.p0)) ?_
      refine wl (ro_lenS rfl st_9) ?_
      refine wl (ro_cmp (r := false) rfl rfl (congrArg some (decide_eq_false (by omega)))) ?_
      refine wl (ro_move rfl) ?_
      refine wlg_no rfl ?_
      refine wlg_no rfl ?_
      refine wlg_no rfl ?_
      refine wlg_no rfl ?_
      refine wlg_no rfl ?_
      refine wlg_no rfl ?_
      refine wlg_no rfl ?_
      refine wlg_no rfl ?_
      refine wl (ro_pick rfl rfl rfl) ?_
      refine wl (ro_move rfl) ?_
      refine wlg_no rfl ?_
      refine wlg_no rfl ?_
      refine wlg_no rfl ?_
      refine wlg_no rfl ?_
      refine wlg_no rfl ?_
      refine wlg_no rfl ?_
      refine wlg_no rfl ?_
      refine wlg_no rfl ?_
      refine wl (ro_pick rfl rfl rfl) ?_
      refine wl_nil (x_then (hK8 _ _ ?_))
      clear hK8 K8
      refine wc_condF rfl ?_
      refine c_seq (fun K20 hK20 => ?_)
      refine c_seq (fun K21 hK21 => ?_)
      refine c_reg ?_ -- region 7 syn.go:122
      refine wl (ro_move rfl) ?_
      refine wl (ro_nilCheck rfl) ?_
      refine wl (ro_fieldAddr (k := 322) rfl fo_96_7) ?_
      refine wl (ro_loadB rfl sc_3 (hB) (cel_get' (by omega) (show _ = i64c σ.g from V1.g))) ?_
      refine wl (ro_cmp rfl rfl rfl) ?_
      refine wl_nil (x_then (hK21 _ _ ?_))
      clear hK21 K21
      refine wc_cond rfl (fun hc58 => ?_) (fun hc58 => ?_)
      · try simp only [decide_eq_true_eq, decide_eq_false_iff_not, Bool.not_eq_true', Bool.not_eq_false', Bool.not_eq_eq_eq_not, Bool.not_true, Bool.not_false, beq_iff_eq, bne_iff_ne, ne_eq, beq_eq_false_iff_ne, bne_eq_false_iff_eq, gt_iff_lt, ge_iff_le, Int.not_lt, Int.not_le] at hc58
        refine c_seq (fun K22 hK22 => ?_)
        refine c_reg ?_ -- region 8 syn.go:123
        refine wl (ro_move rfl) ?_
        refine wl (ro_move rfl) ?_
        refine wl_call rfl en_97 (fail97 hB) ?_
        rintro _ w9 ⟨rfl, hB, F9⟩
        replace hF := hF.trans F9
        refine wl_nil (x_then (hK22 _ _ ?_))
        clear hK22 K22
        refine c_ret (x_thenR (x_thenR ?_))
        refine bp_ret Tryz.results124 rfl ?_
        exact ⟨rfl, RP.er (e := (7, σ.i)) hB (err97 V1) (by unfold openR; rw [if_neg (by omega), if_neg (fun h => by have := get_lt h.2; omega), if_pos (by omega)]), hF⟩
      · try simp only [decide_eq_true_eq, decide_eq_false_iff_not, Bool.not_eq_true', Bool.not_eq_false', Bool.not_eq_eq_eq_not, Bool.not_true, Bool.not_false, beq_iff_eq, bne_iff_ne, ne_eq, beq_eq_false_iff_ne, bne_eq_false_iff_eq, gt_iff_lt, ge_iff_le, Int.not_lt, Int.not_le] at hc58
        refine c_skip (x_then (hK20 _ _ ?_))
        clear hK20 K20
        refine forget [(0, _), (2, _)] ⟨rfl, rfl, trivial⟩ (fun e => ?_)
        refine c_seq (fun K23 hK23 => ?_)
        refine c_reg ?_ -- region 9 syn.go:126
        refine wl (ro_move rfl) ?_
        refine wl (ro_nilCheck rfl) ?_
        refine wl (ro_fieldAddr (k := 322) rfl fo_96_7) ?_
        refine wl (ro_loadB rfl sc_3 (hB) (cel_get' (by omega) (show _ = i64c σ.g from V1.g))) ?_
        refine wl (ro_arith rfl rfl rfl (Go.IntWalk.i64_in _ (by omega))) ?_
        refine wl (ro_nilCheck rfl) ?_
        refine wl (ro_fieldAddr (k := 322) rfl fo_96_7) ?_
        refine wl_put rfl rfl rfl sz_3 hB ((cel_lt (by omega))) ((cel_put 322 (by omega))) (fun w11 hB F11 => ?_)
        replace hF := hF.thenDrew.thenO F11 (by first | exact .inr (by omega) | exact .inl rfl | exact .inl (by assumption))
        have V2 : PV (pt (pt f 1 (i64c (σ.i + 1))) 322 (i64c (σ.g + 1))) p { σ with i := σ.i + 1, g := σ.g + 1 } T := V1.setG (by omega)
        refine wl_nil (x_then (hK23 _ _ ?_))
        clear hK23 K23
        refine c_reg ?_ -- region 10 syn.go:127
        refine wl (ro_move rfl) ?_
        refine wl (ro_nilCheck rfl) ?_
        refine wl (ro_fieldAddr (k := 322) rfl fo_96_7) ?_
        refine wl (ro_loadB rfl sc_3 (hB) (cel_get' (by omega) pt_same)) ?_
        refine wl (ro_assign rfl) ?_
        refine wl_nil (x_then (hK7 _ _ ?_))
        clear hK7 K7
        refine forget [(0, _), (2, _), (3, _)] ⟨rfl, rfl, rfl, trivial⟩ (fun e => ?_)
        refine c_seq (fun K24 hK24 => ?_)
        refine c_reg ?_ -- region 11 syn.go:129
        refine wl (ro_move rfl) ?_
        refine wl (ro_nilCheck rfl) ?_
        refine wl (ro_fieldAddr (k := 321) rfl fo_96_6) ?_
        refine wl (ro_loadB rfl sc_3 (hB) (cel_get' (by omega) (show _ = i64c σ.K.length from V2.dp))) ?_
        refine wl (ro_arith rfl rfl rfl (Go.IntWalk.i64_in _ (by omega))) ?_
        refine wl (ro_nilCheck rfl) ?_
        refine wl (ro_fieldAddr (k := 321) rfl fo_96_6) ?_
        refine wl_put rfl rfl rfl sz_3 hB ((cel_lt (by omega))) ((cel_put 321 (by omega))) (fun w12 hB F12 => ?_)
        replace hF := hF.thenDrew.thenO F12 (by first | exact .inr (by omega) | exact .inl rfl | exact .inl (by assumption))
        refine wl_nil (x_then (hK24 _ _ ?_))
        clear hK24 K24
        refine c_piL 11 [(0, false), (1, false), (2, false), (3, false), (4, false), (5, false), (6, false), (7, false), (8, false), (9, false), (10, false)] (SameH _) mixed (by kernel_rfl) rfl (by kernel_rfl) (po_bp) (sameH_now _ _) ?_ -- region 12 syn.go:130
        refine ql_ro rfl (fun w hS => ro_move rfl) ?_
        refine ql_ro rfl (fun w hS => ro_move rfl) ?_
        refine ql_ro rfl (fun w hS => ro_nilCheck rfl) ?_
        refine ql_ro rfl (fun w hS => ro_fieldAddr (k := 321) rfl fo_96_6) ?_
        refine ql_ro rfl (fun w hS => ro_loadB rfl sc_3 (Blk.of_heap hB hS) (cel_get' (by omega) pt_same)) ?_
        refine ql_ro rfl (fun w hS => ro_move rfl) ?_
        refine ql_ro rfl (fun w hS => ro_move rfl) ?_
        refine ql_ro rfl (fun w hS => ro_build rfl bld_93_0_1_2_3_4) ?_
        refine ql_ro rfl (fun w hS => ro_nilCheck rfl) ?_
        refine ql_ro rfl (fun w hS => ro_fieldAddr (k := 291) rfl fo_96_5) ?_
        refine ql_ro rfl (fun w hS => ro_indexAddrA (et := 93) (k := 5) rfl rfl ar_94 ((show _ = ((σ.K.length + 1 : Nat) : Int) by omega)) ((by omega : σ.K.length + 1 < 6))) ?_
        refine ql_puta rfl rfl rfl (by simp [Value.oneCell', i64c, u64c, u8c, ptr]) sz_93 (rfl) hB ((by rw [cel_len]; omega)) ((cel_puts (291 + 5 * (σ.K.length + 1)) (by omega) rfl (by omega))) (fun w13 hB F13 => ?_)
        replace hF := hF.thenDrew.thenO F13 (by first | exact .inr (by omega) | exact .inl rfl | exact .inl (by assumption))
        refine ?_
        refine bp_end Tryz.results124 rfl ?_
        exact ⟨rfl, RP.ok hB (V2.pushF hd (σ.g + 1) σ.i) (by unfold openR; rw [if_neg (by omega), if_neg (fun h => by have := get_lt h.2; omega), if_neg (by omega)]), hF⟩

theorem fold2_ok {σ σ' : RS} {c : RE} (h : fold2 σ c = .ok σ') : (∃ x, σ'.F.alt = some x) ∧ σ'.i = σ.i ∧ σ'.K = σ.K ∧ σ'.F.num = σ.F.num ∧ σ'.F.at' = σ.F.at' := by
  unfold fold2 at h
  split at h
  · cases h; exact ⟨⟨_, rfl⟩, rfl, rfl, rfl, rfl⟩
  · split at h
    · cases h
    · cases h; exact ⟨⟨_, rfl⟩, rfl, rfl, rfl, rfl⟩
theorem foldR_ok {σ σ' : RS} (h : foldR σ = .ok σ') : (∃ x, σ'.F.alt = some x) ∧ σ'.i = σ.i ∧ σ'.K = σ.K ∧ σ'.F.num = σ.F.num ∧ σ'.F.at' = σ.F.at' := by
  unfold foldR at h
  split at h
  · split at h
    · cases h
    · exact fold2_ok (σ := { σ with n := σ.n + 1 }) h
  · exact fold2_ok h
theorem fold2_er {σ : RS} {c : RE} {e : Er} (h : fold2 σ c = .error e) : e = (8, σ.i) := by
  unfold fold2 at h
  split at h
  · cases h
  · split at h <;> cases h; rfl
theorem foldR_er {σ : RS} {e : Er} (h : foldR σ = .error e) : e = (8, σ.i) := by
  unfold foldR at h
  split at h
  · split at h
    · cases h; rfl
    · exact fold2_er (σ := { σ with n := σ.n + 1 }) h
  · exact fold2_er h

/-- The top frame goes. -/
theorem PV.popF {f : Nat → Value} {p : List UInt8} {i n g : Nat} {F G : RF} {K : List RF} {T : List RE} (h : PV f p ⟨i, n, g, F, G :: K⟩ T) : PV (pt f 321 (i64c K.length)) p ⟨i, n, g, G, K⟩ T := by
  have hn := h.n24
  have hl := h.tl
  have hd := h.d5
  simp only [List.length_cons] at hn hl hd
  refine ⟨by rw [pt_ne (by omega)]; exact h.p0, by rw [pt_ne (by omega)]; exact h.i1, by rw [pt_ne (by omega)]; exact h.n, hl, hn, h.ar.congr (fun j hj _ => pt_ne (by omega)), ?_, ?_, pt_same, by show K.length ≤ 5; omega, by rw [pt_ne (by omega)]; exact h.g, h.g3, by rw [pt_ne (by omega)]; exact h.er, h.il, h.pl⟩
  · intro k r hk
    have := (List.getElem?_eq_some_iff.1 hk).1
    rw [pt_ne (by omega)]
    exact h.nu k r hk
  · intro k X hk
    have hlt := (List.getElem?_eq_some_iff.1 hk).1
    simp at hlt
    refine (h.fr k X ?_).congr (fun j hj hj' => pt_ne (by omega))
    simp only
    rw [List.reverse_cons, List.getElem?_append_left (by simp; omega)]
    exact hk

/-- What shut does. -/
def shutR (σ : RS) : RRes := match foldR σ with
  | .error e => .error e
  | .ok σ => popR σ

theorem shut123 {w : World} {xb : Nat} {f : Nat → Value} {p : List UInt8} {σ : RS} {T : List RE} (hB : FB w.heap xb 325 f 96) (V : PV f p σ T) (hi : σ.i < p.length) :
    Ret Tryz.prog 123 [ptr xb] w (fun v w' => v = .tuple #[] ∧ RP xb p (shutR σ) w' ∧ Fram (one xb) w w') := by
  have hfold := fold96 hB V
  unfold shutR
  cases hf : foldR σ with
  | error e =>
    have he := foldR_er hf
    subst he
    refine ret_of Tryz.func123 rfl Tryz.ntmps123 rfl ?_
    refine c_seq (fun K1 hK1 => ?_)
    refine c_reg ?_ -- region 0 syn.go:135
    refine wl (ro_move rfl) ?_
    refine wl_call rfl en_96 (hfold) ?_
    rintro _ w2 ⟨rfl, hP, hF⟩
    obtain ⟨f2, hB, E⟩ := hP.2 _ hf
    refine wl_nil (x_then (hK1 _ _ ?_))
    clear hK1 K1
    refine c_seq (fun K2 hK2 => ?_)
    refine c_seq (fun K3 hK3 => ?_)
    refine c_reg ?_ -- region 1 syn.go:136
    refine wl (ro_move rfl) ?_
    refine wl (ro_nilCheck rfl) ?_
    refine wl (ro_fieldAddr (k := 323) rfl fo_96_8) ?_
    refine wl (ro_loadB rfl sc_53 (hB) (cel_get' (by omega) E.1)) ?_
    refine wl (ro_cmp rfl rfl rfl) ?_
    refine wl_nil (x_then (hK3 _ _ ?_))
    clear hK3 K3
    refine wc_condT rfl ?_
    refine c_ret (x_thenR ?_)
    refine bp_ret Tryz.results123 rfl ?_
    exact ⟨rfl, RP.er hB E rfl, hF⟩
  | ok σ2 =>
    obtain ⟨⟨x, hx⟩, h2i, h2K, h2n, h2a⟩ := foldR_ok hf
    obtain ⟨i2, n2, g2, F2', K2⟩ := σ2
    cases K2 with
    | nil =>
      refine ret_of Tryz.func123 rfl Tryz.ntmps123 rfl ?_
      refine c_seq (fun K1 hK1 => ?_)
      refine c_reg ?_ -- region 0 syn.go:135
      refine wl (ro_move rfl) ?_
      refine wl_call rfl en_96 (hfold) ?_
      rintro _ w2 ⟨rfl, hP, hF⟩
      obtain ⟨f2, T2, hB, V2⟩ := hP.1 _ hf
      have hd2 : f2 321 = i64c 0 := V2.dp
      have hi2 : f2 1 = i64c i2 := V2.i1
      refine wl_nil (x_then (hK1 _ _ ?_))
      clear hK1 K1
      refine c_seq (fun K2 hK2 => ?_)
      refine c_seq (fun K3 hK3 => ?_)
      refine c_reg ?_ -- region 1 syn.go:136
      refine wl (ro_move rfl) ?_
      refine wl (ro_nilCheck rfl) ?_
      refine wl (ro_fieldAddr (k := 323) rfl fo_96_8) ?_
      refine wl (ro_loadB rfl sc_53 (hB) (cel_get' (by omega) V2.er)) ?_
      refine wl (ro_cmp rfl rfl rfl) ?_
      refine wl_nil (x_then (hK3 _ _ ?_))
      clear hK3 K3
      refine wc_condF rfl ?_
      refine c_skip (x_then (hK2 _ _ ?_))
      clear hK2 K2
      refine forget [(0, _)] ⟨rfl, trivial⟩ (fun e => ?_)
      refine c_seq (fun K4 hK4 => ?_)
      refine c_reg ?_ -- region 2 syn.go:139
      refine wl (ro_move rfl) ?_
      refine wl (ro_nilCheck rfl) ?_
      refine wl (ro_fieldAddr (k := 321) rfl fo_96_6) ?_
      refine wl (ro_loadB rfl sc_3 (hB) (cel_get' (by omega) hd2)) ?_
      refine wl (ro_assign rfl) ?_
      refine wl_nil (x_then (hK4 _ _ ?_))
      clear hK4 K4
      refine c_seq (fun K5 hK5 => ?_)
      refine c_seq (fun K6 hK6 => ?_)
      refine c_reg ?_ -- region 3 syn.go:140
      refine wl (ro_move rfl) ?_
      refine wl (ro_cmp rfl rfl rfl) ?_
      refine wl_nil (x_then (hK6 _ _ ?_))
      clear hK6 K6
      refine wc_condT rfl ?_
      refine c_seq (fun K7 hK7 => ?_)
      refine c_reg ?_ -- region 4 syn.go:141
      refine wl (ro_move rfl) ?_
      refine wl (ro_move rfl) ?_
      refine wl (ro_nilCheck rfl) ?_
      refine wl (ro_fieldAddr (k := 1) rfl fo_96_1) ?_
      refine wl (ro_loadB rfl sc_3 (hB) (cel_get' (by omega) hi2)) ?_
      refine wl_call rfl en_97 (fail97 hB) ?_
      rintro _ w9 ⟨rfl, hB, F9⟩
      replace hF := hF.trans F9
      refine wl_nil (x_then (hK7 _ _ ?_))
      clear hK7 K7
      refine c_ret (x_thenR ?_)
      refine bp_ret Tryz.results123 rfl ?_
      exact ⟨rfl, RP.er (e := (1, i2)) hB (err97 V2) rfl, hF⟩
    | cons G K =>
      simp only at h2i hx
      by_cases hnum : 0 < F2'.num
      · skip
        refine ret_of Tryz.func123 rfl Tryz.ntmps123 rfl ?_
        refine c_seq (fun K1 hK1 => ?_)
        refine c_reg ?_ -- region 0 syn.go:135
        refine wl (ro_move rfl) ?_
        refine wl_call rfl en_96 (hfold) ?_
        rintro _ w2 ⟨rfl, hP, hF⟩
        obtain ⟨f2, T2, hB, V2⟩ := hP.1 _ hf
        have hd2 : f2 321 = i64c (K.length + 1) := V2.dp
        have hi2 : f2 1 = i64c i2 := V2.i1
        have hd5 : K.length + 1 ≤ 5 := V2.d5
        have hil : i2 ≤ p.length := V2.il
        have hpl := V2.pl
        have hal : IX T2 (some x) (f2 (291 + 5 * (K.length + 1))) := by have := V2.top.alt; simp only [hx] at this; exact this
        obtain ⟨ja, hja, hfa⟩ := hal
        have hnu : f2 (294 + 5 * (K.length + 1)) = i64c F2'.num := V2.top.num
        have V3 := V2.popF
        have V4 : PV (pt (pt f2 321 (i64c K.length)) 1 (i64c (i2 + 1))) p ⟨i2 + 1, n2, g2, G, K⟩ T2 := V3.setI (i := i2 + 1) (by omega)
        have hjn : ja < n2 := by have h1 := (List.getElem?_eq_some_iff.1 hja).1; have h2 : T2.length = n2 := V2.tl; omega
        have hn24 : n2 ≤ 24 := V2.n24
        refine wl_nil (x_then (hK1 _ _ ?_))
        clear hK1 K1
        refine c_seq (fun K2 hK2 => ?_)
        refine c_seq (fun K3 hK3 => ?_)
        refine c_reg ?_ -- region 1 syn.go:136
        refine wl (ro_move rfl) ?_
        refine wl (ro_nilCheck rfl) ?_
        refine wl (ro_fieldAddr (k := 323) rfl fo_96_8) ?_
        refine wl (ro_loadB rfl sc_53 (hB) (cel_get' (by omega) V2.er)) ?_
        refine wl (ro_cmp rfl rfl rfl) ?_
        refine wl_nil (x_then (hK3 _ _ ?_))
        clear hK3 K3
        refine wc_condF rfl ?_
        refine c_skip (x_then (hK2 _ _ ?_))
        clear hK2 K2
        refine forget [(0, _)] ⟨rfl, trivial⟩ (fun e => ?_)
        refine c_seq (fun K4 hK4 => ?_)
        refine c_reg ?_ -- region 2 syn.go:139
        refine wl (ro_move rfl) ?_
        refine wl (ro_nilCheck rfl) ?_
        refine wl (ro_fieldAddr (k := 321) rfl fo_96_6) ?_
        refine wl (ro_loadB rfl sc_3 (hB) (cel_get' (by omega) hd2)) ?_
        refine wl (ro_assign rfl) ?_
        refine wl_nil (x_then (hK4 _ _ ?_))
        clear hK4 K4
        refine c_seq (fun K5 hK5 => ?_)
        refine c_seq (fun K6 hK6 => ?_)
        refine c_reg ?_ -- region 3 syn.go:140
        refine wl (ro_move rfl) ?_
        refine wl (ro_cmp (r := false) rfl rfl (congrArg some ((beqc _ 0).trans (decide_eq_false (by omega))))) ?_
        refine wl_nil (x_then (hK6 _ _ ?_))
        clear hK6 K6
        refine wc_condF rfl ?_
        refine c_skip (x_then (hK5 _ _ ?_))
        clear hK5 K5
        refine forget [(0, _), (2, _)] ⟨rfl, rfl, trivial⟩ (fun e => ?_)
        refine c_seq (fun K7 hK7 => ?_)
        refine c_reg ?_ -- region 5 syn.go:144
        refine wl (ro_move rfl) ?_
        refine wl (ro_move rfl) ?_
        refine wl (ro_nilCheck rfl) ?_
        refine wl (ro_fieldAddr (k := 291) rfl fo_96_5) ?_
        refine wl (ro_indexAddrA (et := 93) (k := 5) rfl rfl ar_94 (rfl) ((by omega : K.length + 1 < 6))) ?_
        refine wl (ro_fieldAddr (k := 0) rfl fo_93_0) ?_
        refine wl (ro_loadB rfl sc_3 (hB) ((cel_at (by omega) (by omega) hfa))) ?_
        refine wl (ro_assign rfl) ?_
        refine wl_nil (x_then (hK7 _ _ ?_))
        clear hK7 K7
        refine forget [(0, _), (2, _), (3, _)] ⟨rfl, rfl, rfl, trivial⟩ (fun e => ?_)
        refine c_seq (fun K8 hK8 => ?_)
        refine c_reg ?_ -- region 6 syn.go:145
        refine wl (ro_move rfl) ?_
        refine wl (ro_move rfl) ?_
        refine wl (ro_nilCheck rfl) ?_
        refine wl (ro_fieldAddr (k := 291) rfl fo_96_5) ?_
        refine wl (ro_indexAddrA (et := 93) (k := 5) rfl rfl ar_94 (rfl) ((by omega : K.length + 1 < 6))) ?_
        refine wl (ro_fieldAddr (k := 3) rfl fo_93_3) ?_
        refine wl (ro_loadB rfl sc_3 (hB) ((cel_at (by omega) (by omega) hnu))) ?_
        refine wl (ro_assign rfl) ?_
        refine wl_nil (x_then (hK8 _ _ ?_))
        clear hK8 K8
        refine forget [(0, _), (2, _), (3, _), (4, _)] ⟨rfl, rfl, rfl, rfl, trivial⟩ (fun e => ?_)
        refine c_seq (fun K9 hK9 => ?_)
        refine c_reg ?_ -- region 7 syn.go:146
        refine wl (ro_move rfl) ?_
        refine wl (ro_move rfl) ?_
        refine wl (ro_arith rfl rfl rfl (Go.IntWalk.i64_in _ (by omega))) ?_
        refine wl (ro_nilCheck rfl) ?_
        refine wl (ro_fieldAddr (k := 321) rfl fo_96_6) ?_
        refine wl_put rfl rfl rfl sz_3 hB ((cel_lt (by omega))) ((show _ = cel 325 (pt f2 321 (i64c K.length)) by rw [show Value.int .i64 (((K.length + 1 : Nat) : Int) - 1) = i64c K.length by unfold i64c; congr 1; omega]; exact cel_put 321 (by omega))) (fun w1 hB F1 => ?_)
        replace hF := hF.thenDrew.thenO F1 (by first | exact .inr (by omega) | exact .inl rfl | exact .inl (by assumption))
        refine wl_nil (x_then (hK9 _ _ ?_))
        clear hK9 K9
        refine forget [(0, _), (2, _), (3, _), (4, _)] ⟨rfl, rfl, rfl, rfl, trivial⟩ (fun e => ?_)
        refine c_seq (fun K10 hK10 => ?_)
        refine c_reg ?_ -- region 8 syn.go:147
        refine wl (ro_move rfl) ?_
        refine wl (ro_nilCheck rfl) ?_
        refine wl (ro_fieldAddr (k := 1) rfl fo_96_1) ?_
        refine wl (ro_loadB rfl sc_3 (hB) (cel_get' (by omega) (show _ = i64c i2 from V3.i1))) ?_
        refine wl (ro_arith rfl rfl rfl (Go.IntWalk.i64_in _ (by omega))) ?_
        refine wl (ro_nilCheck rfl) ?_
        refine wl (ro_fieldAddr (k := 1) rfl fo_96_1) ?_
        refine wl_put rfl rfl rfl sz_3 hB ((cel_lt (by omega))) ((cel_put 1 (by omega))) (fun w2 hB F2 => ?_)
        replace hF := hF.thenDrew.thenO F2 (by first | exact .inr (by omega) | exact .inl rfl | exact .inl (by assumption))
        refine wl_nil (x_then (hK10 _ _ ?_))
        clear hK10 K10
        refine c_seq (fun K11 hK11 => ?_)
        refine c_seq (fun K12 hK12 => ?_)
        refine c_reg ?_ -- region 9 syn.go:148
        refine wl (ro_move rfl) ?_
        refine wl (ro_cmp (r := true) rfl rfl (congrArg some (decide_eq_true (by omega)))) ?_
        refine wl_nil (x_then (hK12 _ _ ?_))
        clear hK12 K12
        refine wc_condT rfl ?_
        refine c_reg ?_ -- region 10 syn.go:149
        refine wl (ro_move rfl) ?_
        refine wl (ro_move rfl) ?_
        refine wl (ro_move rfl) ?_
        have hN3 : ND T2 n2 (.grp x F2'.num) (ndc 7 ja (-1) 0 0 F2'.num false 0) := ⟨ja, hjn, hja, rfl⟩
        refine wl (ro_build rfl bld_89_0_1_2_5) ?_
        rw [nd0]
        refine wl_call rfl en_130 (add130 hB V4 hN3) ?_
        rintro _ w5 ⟨⟨f5, j, rfl, hB, hd5', hP5⟩, F5⟩
        replace hF := hF.trans F5
        refine wl (ro_assign rfl) ?_
        refine wl_nil (x_then (hK11 _ _ ?_))
        clear hK11 K11
        refine c_reg ?_ -- region 11 syn.go:151
        refine wl (ro_move rfl) ?_
        refine wl (ro_move rfl) ?_
        refine wl (ro_arith rfl rfl rfl (Go.IntWalk.i64_in _ (by omega))) ?_
        refine wl (ro_move rfl) ?_
        refine wl (ro_nilCheck rfl) ?_
        refine wl (ro_fieldAddr (k := 291) rfl fo_96_5) ?_
        refine wl (ro_indexAddrA (et := 93) (k := 5) rfl rfl ar_94 ((show _ = ((K.length : Nat) : Int) by omega)) ((by omega : K.length < 6))) ?_
        refine wl (ro_fieldAddr (k := 2) rfl fo_93_2) ?_
        refine wl_put rfl rfl rfl sz_3 hB ((cel_lt (by omega))) ((cel_put (293 + 5 * K.length) (by omega))) (fun w3 hB F3 => ?_)
        replace hF := hF.thenDrew.thenO F3 (by first | exact .inr (by omega) | exact .inl rfl | exact .inl (by assumption))
        refine wl_nil ?_
        refine bp_end Tryz.results123 rfl ?_
        refine ⟨rfl, ?_, hF⟩
        rcases hP5 with ⟨h24, rfl, V5⟩ | ⟨h24, rfl, E'⟩
        · exact RP.ok hB (V5.topAtom (ix_new V4.tl)) (by simp only [popR, hnum, if_true, hx, Option.getD_some]; exact if_neg (Nat.not_le.2 h24))
        · exact RP.er hB (E'.pt (by show 293 + 5 * K.length ≠ 323 ∧ _; omega)) (by simp only [popR, hnum, if_true, hx, Option.getD_some]; exact if_pos h24)
      · skip
        refine ret_of Tryz.func123 rfl Tryz.ntmps123 rfl ?_
        refine c_seq (fun K1 hK1 => ?_)
        refine c_reg ?_ -- region 0 syn.go:135
        refine wl (ro_move rfl) ?_
        refine wl_call rfl en_96 (hfold) ?_
        rintro _ w2 ⟨rfl, hP, hF⟩
        obtain ⟨f2, T2, hB, V2⟩ := hP.1 _ hf
        have hd2 : f2 321 = i64c (K.length + 1) := V2.dp
        have hi2 : f2 1 = i64c i2 := V2.i1
        have hd5 : K.length + 1 ≤ 5 := V2.d5
        have hil : i2 ≤ p.length := V2.il
        have hpl := V2.pl
        have hal : IX T2 (some x) (f2 (291 + 5 * (K.length + 1))) := by have := V2.top.alt; simp only [hx] at this; exact this
        obtain ⟨ja, hja, hfa⟩ := hal
        have hnu : f2 (294 + 5 * (K.length + 1)) = i64c F2'.num := V2.top.num
        have V3 := V2.popF
        have V4 : PV (pt (pt f2 321 (i64c K.length)) 1 (i64c (i2 + 1))) p ⟨i2 + 1, n2, g2, G, K⟩ T2 := V3.setI (i := i2 + 1) (by omega)
        have hn24 : n2 ≤ 24 := V2.n24
        refine wl_nil (x_then (hK1 _ _ ?_))
        clear hK1 K1
        refine c_seq (fun K2 hK2 => ?_)
        refine c_seq (fun K3 hK3 => ?_)
        refine c_reg ?_ -- region 1 syn.go:136
        refine wl (ro_move rfl) ?_
        refine wl (ro_nilCheck rfl) ?_
        refine wl (ro_fieldAddr (k := 323) rfl fo_96_8) ?_
        refine wl (ro_loadB rfl sc_53 (hB) (cel_get' (by omega) V2.er)) ?_
        refine wl (ro_cmp rfl rfl rfl) ?_
        refine wl_nil (x_then (hK3 _ _ ?_))
        clear hK3 K3
        refine wc_condF rfl ?_
        refine c_skip (x_then (hK2 _ _ ?_))
        clear hK2 K2
        refine forget [(0, _)] ⟨rfl, trivial⟩ (fun e => ?_)
        refine c_seq (fun K4 hK4 => ?_)
        refine c_reg ?_ -- region 2 syn.go:139
        refine wl (ro_move rfl) ?_
        refine wl (ro_nilCheck rfl) ?_
        refine wl (ro_fieldAddr (k := 321) rfl fo_96_6) ?_
        refine wl (ro_loadB rfl sc_3 (hB) (cel_get' (by omega) hd2)) ?_
        refine wl (ro_assign rfl) ?_
        refine wl_nil (x_then (hK4 _ _ ?_))
        clear hK4 K4
        refine c_seq (fun K5 hK5 => ?_)
        refine c_seq (fun K6 hK6 => ?_)
        refine c_reg ?_ -- region 3 syn.go:140
        refine wl (ro_move rfl) ?_
        refine wl (ro_cmp (r := false) rfl rfl (congrArg some ((beqc _ 0).trans (decide_eq_false (by omega))))) ?_
        refine wl_nil (x_then (hK6 _ _ ?_))
        clear hK6 K6
        refine wc_condF rfl ?_
        refine c_skip (x_then (hK5 _ _ ?_))
        clear hK5 K5
        refine forget [(0, _), (2, _)] ⟨rfl, rfl, trivial⟩ (fun e => ?_)
        refine c_seq (fun K7 hK7 => ?_)
        refine c_reg ?_ -- region 5 syn.go:144
        refine wl (ro_move rfl) ?_
        refine wl (ro_move rfl) ?_
        refine wl (ro_nilCheck rfl) ?_
        refine wl (ro_fieldAddr (k := 291) rfl fo_96_5) ?_
        refine wl (ro_indexAddrA (et := 93) (k := 5) rfl rfl ar_94 (rfl) ((by omega : K.length + 1 < 6))) ?_
        refine wl (ro_fieldAddr (k := 0) rfl fo_93_0) ?_
        refine wl (ro_loadB rfl sc_3 (hB) ((cel_at (by omega) (by omega) hfa))) ?_
        refine wl (ro_assign rfl) ?_
        refine wl_nil (x_then (hK7 _ _ ?_))
        clear hK7 K7
        refine forget [(0, _), (2, _), (3, _)] ⟨rfl, rfl, rfl, trivial⟩ (fun e => ?_)
        refine c_seq (fun K8 hK8 => ?_)
        refine c_reg ?_ -- region 6 syn.go:145
        refine wl (ro_move rfl) ?_
        refine wl (ro_move rfl) ?_
        refine wl (ro_nilCheck rfl) ?_
        refine wl (ro_fieldAddr (k := 291) rfl fo_96_5) ?_
        refine wl (ro_indexAddrA (et := 93) (k := 5) rfl rfl ar_94 (rfl) ((by omega : K.length + 1 < 6))) ?_
        refine wl (ro_fieldAddr (k := 3) rfl fo_93_3) ?_
        refine wl (ro_loadB rfl sc_3 (hB) ((cel_at (by omega) (by omega) hnu))) ?_
        refine wl (ro_assign rfl) ?_
        refine wl_nil (x_then (hK8 _ _ ?_))
        clear hK8 K8
        refine forget [(0, _), (2, _), (3, _), (4, _)] ⟨rfl, rfl, rfl, rfl, trivial⟩ (fun e => ?_)
        refine c_seq (fun K9 hK9 => ?_)
        refine c_reg ?_ -- region 7 syn.go:146
        refine wl (ro_move rfl) ?_
        refine wl (ro_move rfl) ?_
        refine wl (ro_arith rfl rfl rfl (Go.IntWalk.i64_in _ (by omega))) ?_
        refine wl (ro_nilCheck rfl) ?_
        refine wl (ro_fieldAddr (k := 321) rfl fo_96_6) ?_
        refine wl_put rfl rfl rfl sz_3 hB ((cel_lt (by omega))) ((show _ = cel 325 (pt f2 321 (i64c K.length)) by rw [show Value.int .i64 (((K.length + 1 : Nat) : Int) - 1) = i64c K.length by unfold i64c; congr 1; omega]; exact cel_put 321 (by omega))) (fun w1 hB F1 => ?_)
        replace hF := hF.thenDrew.thenO F1 (by first | exact .inr (by omega) | exact .inl rfl | exact .inl (by assumption))
        refine wl_nil (x_then (hK9 _ _ ?_))
        clear hK9 K9
        refine forget [(0, _), (2, _), (3, _), (4, _)] ⟨rfl, rfl, rfl, rfl, trivial⟩ (fun e => ?_)
        refine c_seq (fun K10 hK10 => ?_)
        refine c_reg ?_ -- region 8 syn.go:147
        refine wl (ro_move rfl) ?_
        refine wl (ro_nilCheck rfl) ?_
        refine wl (ro_fieldAddr (k := 1) rfl fo_96_1) ?_
        refine wl (ro_loadB rfl sc_3 (hB) (cel_get' (by omega) (show _ = i64c i2 from V3.i1))) ?_
        refine wl (ro_arith rfl rfl rfl (Go.IntWalk.i64_in _ (by omega))) ?_
        refine wl (ro_nilCheck rfl) ?_
        refine wl (ro_fieldAddr (k := 1) rfl fo_96_1) ?_
        refine wl_put rfl rfl rfl sz_3 hB ((cel_lt (by omega))) ((cel_put 1 (by omega))) (fun w2 hB F2 => ?_)
        replace hF := hF.thenDrew.thenO F2 (by first | exact .inr (by omega) | exact .inl rfl | exact .inl (by assumption))
        refine wl_nil (x_then (hK10 _ _ ?_))
        clear hK10 K10
        refine c_seq (fun K11 hK11 => ?_)
        refine c_seq (fun K12 hK12 => ?_)
        refine c_reg ?_ -- region 9 syn.go:148
        refine wl (ro_move rfl) ?_
        refine wl (ro_cmp (r := false) rfl rfl (congrArg some (decide_eq_false (by omega)))) ?_
        refine wl_nil (x_then (hK12 _ _ ?_))
        clear hK12 K12
        refine wc_condF rfl ?_
        refine c_skip (x_then (hK11 _ _ ?_))
        clear hK11 K11
        refine c_reg ?_ -- region 11 syn.go:151
        refine wl (ro_move rfl) ?_
        refine wl (ro_move rfl) ?_
        refine wl (ro_arith rfl rfl rfl (Go.IntWalk.i64_in _ (by omega))) ?_
        refine wl (ro_move rfl) ?_
        refine wl (ro_nilCheck rfl) ?_
        refine wl (ro_fieldAddr (k := 291) rfl fo_96_5) ?_
        refine wl (ro_indexAddrA (et := 93) (k := 5) rfl rfl ar_94 ((show _ = ((K.length : Nat) : Int) by omega)) ((by omega : K.length < 6))) ?_
        refine wl (ro_fieldAddr (k := 2) rfl fo_93_2) ?_
        refine wl_put rfl rfl rfl sz_3 hB ((cel_lt (by omega))) ((cel_put (293 + 5 * K.length) (by omega))) (fun w3 hB F3 => ?_)
        replace hF := hF.thenDrew.thenO F3 (by first | exact .inr (by omega) | exact .inl rfl | exact .inl (by assumption))
        refine wl_nil ?_
        refine bp_end Tryz.results123 rfl ?_
        exact ⟨rfl, RP.ok hB (V4.topAtom (o := some x) ⟨ja, hja, rfl⟩) (by simp only [popR, hnum, if_false, hx, Option.getD_some]), hF⟩

end Go.Proofs.Qxb6500567aGreat
