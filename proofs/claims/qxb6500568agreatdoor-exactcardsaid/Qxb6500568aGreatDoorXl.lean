import Derived.Test.Qxb6500568aGreatDoorXk
/- The model's parser: blocks. -/
namespace Go.Proofs.Qxb6500568aGreatDoor
open Ieee
set_option linter.unusedVariables false
set_option linter.unusedSimpArgs false

theorem IsS.cls {G : Arena} {n : Nat} {tr : Tr} (h : IsS G n tr) : ((nd G n).K = 10 ∨ (nd G n).K = 11) ↔ clB tr := by
  have no : ∀ {k c : Nat}, (nd G n).K = k → k < 10 → tr.c = c → c < 26 → (((nd G n).K = 10 ∨ (nd G n).K = 11) ↔ clB tr) := fun {k c} h1 h2 h3 h4 => by unfold clB; omega
  rcases h.inv with ⟨_, rfl⟩ | ⟨_, _, rfl⟩ | ⟨_, _, _, _, rfl⟩ | ⟨_, _, _, _, rfl⟩ | ⟨_, _, rfl⟩ | ⟨_, _, _, rfl⟩ | ⟨_, _, rfl⟩ | ⟨_, _, _, rfl⟩ | ⟨_, _, rfl⟩ | ⟨_, _, _, _, rfl⟩ | ⟨_, _, _, _, _, rfl⟩ | ⟨_, _, _, _, rfl⟩ | rfl | ⟨_, rfl⟩ | ⟨_, _, rfl⟩ | rfl
  · exact no (IsS_loc.1 h).2.1 (by decide) (c := 14) rfl (by decide)
  · exact no (IsS_locV.1 h).2.1 (by decide) (c := 15) rfl (by decide)
  · exact no (IsS_loc2.1 h).2.1 (by decide) (c := 16) rfl (by decide)
  · exact no (IsS_locFn.1 h).2.1 (by decide) (c := 17) rfl (by decide)
  · exact no (IsS_setN.1 h).2.1 (by decide) (c := 18) rfl (by decide)
  · exact no (IsS_setI.1 h).2.1 (by decide) (c := 19) rfl (by decide)
  · exact no (IsS_call.1 h).2.1 (by decide) (c := 20) rfl (by decide)
  · exact no (IsS_iff.1 h).2.1 (by decide) (c := 21) rfl (by decide)
  · exact no (IsS_whl.1 h).2.1 (by decide) (c := 22) rfl (by decide)
  · exact no (IsS_for2.1 h).2.1 (by decide) (c := 23) rfl (by decide)
  · exact no (IsS_for3.1 h).2.1 (by decide) (c := 24) rfl (by decide)
  · exact no (IsS_forIn.1 h).2.1 (by decide) (c := 25) rfl (by decide)
  · exact ⟨fun _ => .inl rfl, fun _ => .inl (IsS_ret0.1 h).2.1⟩
  · exact ⟨fun _ => .inr (.inl rfl), fun _ => .inl (IsS_ret1.1 h).2.1⟩
  · exact ⟨fun _ => .inr (.inr (.inl rfl)), fun _ => .inl (IsS_ret2.1 h).2.1⟩
  · exact ⟨fun _ => .inr (.inr (.inr rfl)), fun _ => .inr (IsS_brk.1 h).2⟩
/-- The last node of a statement tells whether the block ends behind it. -/
theorem lay_last {t : Tr} (hL : LyE 2 t) {A : List Nd} (hA : 1 ≤ A.length) : ∃ y, (A ++ lay t A.length)[A.length + ndT t - 1]? = some y ∧ ((y.K = 10 ∨ y.K = 11) ↔ clB t) := by
  have hlen := hL.len A.length
  have hp := hL.pos
  have hAg : Ag (A ++ lay t A.length) A.length (lay t A.length) := fun i x hi => by
    unfold nd
    rw [List.getD_eq_getElem?_getD, List.getElem?_append_right (by omega), Nat.add_sub_cancel_left, hi]
    rfl
  have hIs := hL.ok A.length (A ++ lay t A.length) hA ⟨0, by rw [hL.lx.nx0]; exact hAg⟩
  obtain ⟨y, hy⟩ : ∃ y, (A ++ lay t A.length)[A.length + ndT t - 1]? = some y := ⟨_, List.getElem?_eq_getElem (by rw [List.length_append, hlen]; omega)⟩
  refine ⟨y, hy, ?_⟩
  have hnd : nd (A ++ lay t A.length) (A.length + ndT t - 1) = y := by unfold nd; rw [List.getD_eq_getElem?_getD, hy]; rfl
  rw [← hnd]
  exact IsS.cls hIs
theorem MO.cell {u : World} {mp g cap i : Nat} {G : List (Nd × Nat)} {l : List Value} {y : Nd × Nat} (hO : MO u mp g cap G l) (hi : G[i]? = some y) : (l.drop (0 + i * 8)).take 8 = ndc y := by
  have hjl := (List.getElem?_eq_some_iff.1 hi).1
  have k1 := hO.k1
  have k3 := hO.k3
  rw [Nat.zero_add, ← rws_at ndc_len hi, ← hO.k4, List.drop_take, List.take_take]
  congr 1
  omega
/-- What the last statement says about the block's end. -/
def LsK (G : List (Nd × Nat)) (ts : List Tr) (G1 : List (Nd × Nat)) (c : Nat) : Prop := (ts = [] ∧ c = 0) ∨ (ts ≠ [] ∧ ∃ y p, G1[lst G.length ts]? = some (y, p) ∧ ((y.K = 10 ∨ y.K = 11) ↔ c = 1))
theorem LsK.cases {G G1 : List (Nd × Nat)} {ts : List Tr} {c : Nat} (h : LsK G ts G1 c) (hc : c ≤ 1) : (ts = [] ∧ c = 0) ∨ (ts ≠ [] ∧ c = 1 ∧ ∃ y p, G1[lst G.length ts]? = some (y, p) ∧ y.K = 10) ∨ (ts ≠ [] ∧ c = 1 ∧ ∃ y p, G1[lst G.length ts]? = some (y, p) ∧ y.K = 11) ∨ (ts ≠ [] ∧ c = 0 ∧ ∃ y p, G1[lst G.length ts]? = some (y, p) ∧ y.K ≠ 10 ∧ y.K ≠ 11) := by
  rcases h with h | ⟨h1, y, p, h2, h3⟩
  · exact .inl h
  · by_cases h10 : y.K = 10
    · exact .inr (.inl ⟨h1, h3.1 (.inl h10), y, p, h2, h10⟩)
    · by_cases h11 : y.K = 11
      · exact .inr (.inr (.inl ⟨h1, h3.1 (.inr h11), y, p, h2, h11⟩))
      · exact .inr (.inr (.inr ⟨h1, by have : ¬ c = 1 := fun q => by rcases h3.2 q with q | q <;> omega
                                       omega, y, p, h2, h10, h11⟩))
set_option maxHeartbeats 8000000 in
theorem block49 {n : Nat} {w : World} {mp : Nat} {np : Value} {src : Str} {U : Value} {G : List (Nd × Nat)} {s : PS} {lv : Nat} {R : PO} (ih : MAll n) (hG : MG w mp np src U G s lv) (hn : 20 * s.len + 15 ≤ n + 1) (hR : Run 6 lv 0 0 dumT s R) : Ret Tryz.prog 49 [ptr mp, i64c lv] w (MR w mp np src lv U G R) := by
  have hA := hG.a
  have hM := hA.v
  have hl13 := hG.l13
  have hlo := hG.lo
  have hbd := hG.bd
  have hg1 := hG.g1
  have hF : Fram (arS mp U) w w := Fram.refl _ _
  have hmp : one mp mp := rfl
  have hmpa : arS mp U mp := .inl rfl
  obtain ⟨f, hR⟩ := run_step.1 hR
  replace hR : pBlock (parP f) lv s = some R := hR
  unfold pBlock at hR
  refine ret_of Tryz.func49 rfl Tryz.ntmps49 rfl ?_
  refine c_seq (fun K1 hK1 => ?_)
  refine c_reg ?_ -- region 0 syntaxm.go:226
  refine wl (ro_assign rfl) ?_
  refine wl_nil (x_then (hK1 _ _ ?_))
  clear hK1 K1
  refine c_seq (fun K2 hK2 => ?_)
  refine c_seq (fun K3 hK3 => ?_)
  refine c_reg ?_ -- region 1 syntaxm.go:227
  refine wl (ro_move rfl) ?_
  refine wl (ro_move rfl) ?_
  refine wl_call rfl en_104 (deepM (lv := lv) hM (n := lv) (by omega) (by omega)) ?_
  rintro _ u1 ⟨rfl, hq1, F1⟩
  replace hF := ar_one hF F1
  refine wl_nil (x_then (hK3 _ _ ?_))
  clear hK3 K3
  refine wc_cond rfl (fun hc11 => ?_) (fun hc11 => ?_)
  · try simp only [decide_eq_true_eq, decide_eq_false_iff_not, Bool.not_eq_true', Bool.not_eq_false', Bool.not_eq_eq_eq_not, Bool.not_true, Bool.not_false, beq_iff_eq, bne_iff_ne, ne_eq, beq_eq_false_iff_ne, bne_eq_false_iff_eq, gt_iff_lt, ge_iff_le, Int.not_lt, Int.not_le] at hc11
    refine c_seq (fun K4 hK4 => ?_)
    refine c_reg ?_ -- region 2 syntaxm.go:228
    refine wl (ro_assign rfl) ?_
    refine wl_nil (x_then (hK4 _ _ ?_))
    clear hK4 K4
    refine c_ret (x_thenR ?_)
    refine bp_ret Tryz.results49 rfl ?_
    rw [if_pos (by omega)] at hR hq1
    cases failP_inj hR
    exact ⟨hF, ⟨0, rfl⟩, hq1⟩
  · try simp only [decide_eq_true_eq, decide_eq_false_iff_not, Bool.not_eq_true', Bool.not_eq_false', Bool.not_eq_eq_eq_not, Bool.not_true, Bool.not_false, beq_iff_eq, bne_iff_ne, ne_eq, beq_eq_false_iff_ne, bne_eq_false_iff_eq, gt_iff_lt, ge_iff_le, Int.not_lt, Int.not_le] at hc11
    rw [if_neg (by omega)] at hR hq1
    replace hq1 := hq1.symm
    subst hq1
    have hlv : lv ≤ 12 := by omega
    obtain ⟨R7, hq7, hR7⟩ := bdP_res hR
    obtain ⟨pos0, hX0, hp0⟩ := hM.ex
    unfold mpc at hX0
    refine c_skip (x_then (hK2 _ _ ?_))
    clear hK2 K2
    refine forget [(0, _), (1, _)] ⟨rfl, rfl, trivial⟩ (fun e => ?_)
    refine c_seq (fun K5 hK5 => ?_)
    refine c_reg ?_ -- region 3 syntaxm.go:230
    refine wl (ro_move rfl) ?_
    refine wl (ro_nilCheck rfl) ?_
    refine wl (ro_fieldAddr (k := 11) rfl fo_146_7) ?_
    refine wl (ro_loadB rfl sc_3 (by assumption) rfl) ?_
    refine wl (ro_assign rfl) ?_
    refine wl_nil (x_then (hK5 _ _ ?_))
    clear hK5 K5
    refine forget [(0, _), (1, _), (5, _)] ⟨rfl, rfl, rfl, trivial⟩ (fun e => ?_)
    refine c_seq (fun K6 hK6 => ?_)
    refine c_reg ?_ -- region 4 syntaxm.go:231
    refine wl (ro_assign rfl) ?_
    refine wl_nil (x_then (hK6 _ _ ?_))
    clear hK6 K6
    refine forget [(0, _), (1, _), (5, _), (6, _)] ⟨rfl, rfl, rfl, rfl, trivial⟩ (fun e => ?_)
    refine c_seq (fun K7 hK7 => ?_)
    refine c_reg ?_ -- region 5 syntaxm.go:232
    refine wl (ro_assign rfl) ?_
    refine wl_nil (x_then (hK7 _ _ ?_))
    clear hK7 K7
    refine forget [(0, _), (1, _), (5, _), (6, _), (7, _)] ⟨rfl, rfl, rfl, rfl, rfl, trivial⟩ (fun e => ?_)
    refine c_seq (fun K8 hK8 => ?_)
    refine c_block ?_
    -- loop@r6: live slots [0, 1, 5, 6, 7]
    refine c_loopG (fun m a' w' => ∃ (ts : List Tr) (U1 : Value) (G1 : List (Nd × Nat)) (s1 : PS) (R1 : PO) (c : Nat), m = s1.len ∧ Run 7 lv c 0 dumT s1 R1 ∧ c ≤ 1 ∧ R7 = glueS ts R1 ∧ MA w' mp np src U1 G1 s1 ∧ nob U U1 w ∧ LC G ts G1 ∧ LsK G ts G1 c ∧ Pe s1 ∧ s1.lo = s.lo ∧ G1.length + 3 * s1.len ≤ 10000 ∧ s1.len ≤ s.len ∧ Fram (arS mp U) w w' ∧ ∃ e, a' = Fr 70 (upds e [(0, ptr mp), (1, i64c lv), (5, i64c s.al), (6, i64c (rtC ts G.length)), (7, i64c (lst G.length ts))]) []) s.len ⟨[], U, G, s, R7, 0, rfl, ⟨f, hq7⟩, by decide, (by cases R7 <;> rfl), hA, fun b q => .inl q, ⟨by rw [show layC [] G.length = [] from rfl, List.append_nil], rfl, fun t ht => by cases ht⟩, .inl ⟨rfl, rfl⟩, hG.pe, rfl, hbd, Nat.le_refl _, hF, kp _ ⟨rfl, rfl, rfl, rfl, rfl, trivial⟩⟩ ?_
    clear hF hR hA hX0 hp0 hq7 hM
    rintro m a' u1 ⟨ts, U1, G1, s1, R1, c, rfl, hR, hc1, hgl, hA, hnb, hLC, hK, hpe, hlo1, hbd1, hlen, hF, e, rfl⟩
    obtain ⟨g, hR⟩ := run_step.1 hR
    replace hR : pStmts (parP g) lv c s1 = some R1 := hR
    unfold pStmts at hR
    have hlc := hLC.l
    replace hK := hK.cases hc1
    obtain ⟨pos, hX, hpos⟩ := hA.v.ex
    unfold mpc at hX
    obtain ⟨gb, cap, l, eU, hO⟩ := hA.open (by omega)
    subst eU
    have hB := hO.b
    have hneb := hO.ne
    have k1 := hO.k1
    have hz3 := rtC_zero (ts := ts) (b := G.length) hg1 hLC.x
    have hln : ts ≠ [] → lst G.length ts = G.length + ndC ts - 1 := fun q => if_neg q
    have hnp : ts ≠ [] → 1 ≤ ndC ts := fun q => ndC_pos hLC.x q
    refine c_seq (fun K9 hK9 => ?_)
    refine c_seq (fun K10 hK10 => ?_)
    refine c_reg ?_ -- region 6 syntaxm.go:233
    refine wl (ro_move rfl) ?_
    refine wl_call rfl en_105 (blockEndM hA.v) ?_
    rintro _ w9 ⟨rfl, e9⟩
    replace e9 := e9.symm
    subst e9
    refine wl (ro_not rfl) ?_
    refine wl_nil (x_then (hK10 _ _ ?_))
    clear hK10 K10
    refine wc_cond rfl (fun hc18 => ?_) (fun hc18 => ?_)
    · try simp only [decide_eq_true_eq, decide_eq_false_iff_not, Bool.not_eq_true', Bool.not_eq_false', Bool.not_eq_eq_eq_not, Bool.not_true, Bool.not_false, beq_iff_eq, bne_iff_ne, ne_eq, beq_eq_false_iff_ne, bne_eq_false_iff_eq, gt_iff_lt, ge_iff_le, Int.not_lt, Int.not_le] at hc18
      rw [if_neg (by simp [hc18])] at hR
      refine c_skip (x_then (hK9 _ _ ?_))
      clear hK9 K9
      refine c_block ?_
      refine c_seq (fun K11 hK11 => ?_)
      refine c_seq (fun K12 hK12 => ?_)
      rcases hK with ⟨hts0, rfl⟩ | ⟨hts, rfl, y, p, hy, hyK⟩ | ⟨hts, rfl, y, p, hy, hyK⟩ | ⟨hts, rfl, y, p, hy, hyK, hyK2⟩
      · skip
        rw [if_neg (by decide)] at hR
        refine c_reg ?_ -- region 7 syntaxm.go:234
        refine wl (ro_move rfl) ?_
        refine wl (ro_cmp (r := false) rfl rfl (congrArg some (bne_eq_false_iff_eq.2 (by have h0 : lst G.length ts = 0 := if_pos hts0; rw [h0]; rfl)))) ?_
        refine wl (ro_move rfl) ?_
        refine wlg_no rfl ?_
        refine wlg_no rfl ?_
        refine wlg_no rfl ?_
        refine wlg_no rfl ?_
        refine wlg_no rfl ?_
        refine wlg_no rfl ?_
        refine wlg_no rfl ?_
        refine wlg_no rfl ?_
        refine wlg_no rfl ?_
        refine wlg_no rfl ?_
        refine wlg_no rfl ?_
        refine wlg_no rfl ?_
        refine wlg_no rfl ?_
        refine wlg_no rfl ?_
        refine wlg_no rfl ?_
        refine wlg_no rfl ?_
        refine wlg_no rfl ?_
        refine wlg_no rfl ?_
        refine wlg_no rfl ?_
        refine wlg_no rfl ?_
        refine wl (ro_pick rfl rfl rfl) ?_
        refine wl_nil (x_then (hK12 _ _ ?_))
        clear hK12 K12
        refine wc_condF rfl ?_
        refine c_skip (x_then (hK11 _ _ ?_))
        clear hK11 K11
        refine forget [(0, _), (1, _), (5, _), (6, _), (7, _)] ⟨rfl, rfl, rfl, rfl, rfl, trivial⟩ (fun e => ?_)
        refine c_seq (fun K13 hK13 => ?_)
        rcases bdP_some hR with ⟨⟨ee, pp⟩, hq, rfl⟩ | ⟨t1, s3, hq, hR⟩
        · skip
          refine c_reg ?_ -- region 10 syntaxm.go:238
          refine wl (ro_move rfl) ?_
          refine wl (ro_move rfl) ?_
          refine wl_call rfl en_106 (ih.st (hG.at (lv1 := lv) hA hpe (by omega) (by omega) (by omega) hl13) hlv (by omega) ⟨g, hq⟩) ?_
          rintro v u3 ⟨F3, ⟨z, rfl⟩, hE⟩
          replace hF := ar_trans hF hnb F3
          have hE0 := hE
          obtain ⟨np', src', pos', t', U', al', lo', fu', hXe, h1, h2, h3, h4⟩ := hE
          unfold mpc at hXe
          refine wl (ro_assign rfl) ?_
          refine wl_nil (x_then (hK13 _ _ ?_))
          clear hK13 K13
          refine c_seq (fun K14 hK14 => ?_)
          refine c_seq (fun K15 hK15 => ?_)
          refine c_reg ?_ -- region 11 syntaxm.go:239
          refine wl (ro_move rfl) ?_
          refine wl (ro_nilCheck rfl) ?_
          refine wl (ro_fieldAddr (k := 9) rfl fo_146_5) ?_
          refine wl (ro_loadB rfl sc_54 (by assumption) rfl) ?_
          refine wl (ro_cmp rfl rfl rfl) ?_
          refine wl_nil (x_then (hK15 _ _ ?_))
          clear hK15 K15
          refine wc_cond rfl (fun hc52 => ?_) (fun hc52 => ?_)
          · try simp only [decide_eq_true_eq, decide_eq_false_iff_not, Bool.not_eq_true', Bool.not_eq_false', Bool.not_eq_eq_eq_not, Bool.not_true, Bool.not_false, beq_iff_eq, bne_iff_ne, ne_eq, beq_eq_false_iff_ne, bne_eq_false_iff_eq, gt_iff_lt, ge_iff_le, Int.not_lt, Int.not_le] at hc52
            refine c_seq (fun K16 hK16 => ?_)
            refine c_reg ?_ -- region 12 syntaxm.go:240
            refine wl (ro_assign rfl) ?_
            refine wl_nil (x_then (hK16 _ _ ?_))
            clear hK16 K16
            refine c_ret (x_thenR (x_blkR (x_thenR (x_blkR (x_thenR ?_)))))
            refine bp_ret Tryz.results49 rfl ?_
            rw [hgl] at hR7
            cases hR7
            exact ⟨hF, ⟨0, rfl⟩, hE0⟩
          · try simp only [decide_eq_true_eq, decide_eq_false_iff_not, Bool.not_eq_true', Bool.not_eq_false', Bool.not_eq_eq_eq_not, Bool.not_true, Bool.not_false, beq_iff_eq, bne_iff_ne, ne_eq, beq_eq_false_iff_ne, bne_eq_false_iff_eq, gt_iff_lt, ge_iff_le, Int.not_lt, Int.not_le] at hc52
            omega
        · skip
          refine c_reg ?_ -- region 10 syntaxm.go:238
          refine wl (ro_move rfl) ?_
          refine wl (ro_move rfl) ?_
          refine wl_call rfl en_106 (ih.st (hG.at (lv1 := lv) hA hpe (by omega) (by omega) (by omega) hl13) hlv (by omega) ⟨g, hq⟩) ?_
          rintro v u3 ⟨F3, rfl, U3, G3, hA3, hn3, hm3, hl3⟩
          have hz := hF.size
          replace hF := ar_trans hF hnb F3
          have hnb3 := nob_trans hnb hz hn3
          obtain ⟨hLy, _, hCm, hlo3, _, _⟩ := (par_q g).i8 hpe hlv t1 s3 hq
          have hIB : ndT t1 + 1 + 3 * s3.len ≤ 3 * s1.len := (IB.all g).s8 t1 s3 hq
          have hpe3 := hpe.cm hCm
          have hLX := hLy.lx
          have hxp := hLX.pos
          have hrt : rt t1 G1.length = G1.length + ndT t1 - 1 := hLX.rt _
          obtain ⟨yy, hyy, hyc⟩ := lay_last hLy (A := G1.map Prod.fst) (by rw [List.length_map]; omega)
          rw [List.length_map, ← hm3, List.getElem?_map] at hyy
          obtain ⟨⟨yn, yp⟩, hy3, hyn⟩ := Option.map_eq_some_iff.1 hyy
          have hyn : yn = yy := hyn
          subst hyn
          obtain ⟨g3, cap3, l3, e3, hO3⟩ := hA3.open (by omega)
          subst e3
          obtain ⟨pos3, hX3, hp3⟩ := hA3.v.ex
          unfold mpc at hX3
          have hB3 := hO3.b
          have hne3 := hO3.ne
          have hs1 := ndC_snoc ts t1
          have hmg3 : arS mp U g3 ∨ w.heap.size ≤ g3 := by
            rcases hnb3 g3 rfl with q | q
            · exact .inl (.inr q)
            · exact .inr q
          obtain ⟨c4, hc4, hc42⟩ : ∃ c4 : Nat, (if t1.c = 26 ∨ t1.c = 27 ∨ t1.c = 28 ∨ t1.c = 29 then 1 else 0) = c4 ∧ c4 ≤ 1 := ⟨_, rfl, by split <;> omega⟩
          have hc43 : (yn.K = 10 ∨ yn.K = 11) ↔ c4 = 1 := by
            rw [hyc, ← hc4]
            unfold clB
            by_cases hq9 : t1.c = 26 ∨ t1.c = 27 ∨ t1.c = 28 ∨ t1.c = 29
            · rw [if_pos hq9]
              exact ⟨fun _ => rfl, fun _ => hq9⟩
            · rw [if_neg hq9]
              exact ⟨fun h => absurd h hq9, fun h => by cases h⟩
          rw [hc4] at hR
          refine wl (ro_assign rfl) ?_
          refine wl_nil (x_then (hK13 _ _ ?_))
          clear hK13 K13
          refine c_seq (fun K17 hK17 => ?_)
          refine c_seq (fun K18 hK18 => ?_)
          refine c_reg ?_ -- region 11 syntaxm.go:239
          refine wl (ro_move rfl) ?_
          refine wl (ro_nilCheck rfl) ?_
          refine wl (ro_fieldAddr (k := 9) rfl fo_146_5) ?_
          refine wl (ro_loadB rfl sc_54 (by assumption) rfl) ?_
          refine wl (ro_cmp rfl rfl rfl) ?_
          refine wl_nil (x_then (hK18 _ _ ?_))
          clear hK18 K18
          refine wc_cond rfl (fun hc52 => ?_) (fun hc52 => ?_)
          · try simp only [decide_eq_true_eq, decide_eq_false_iff_not, Bool.not_eq_true', Bool.not_eq_false', Bool.not_eq_eq_eq_not, Bool.not_true, Bool.not_false, beq_iff_eq, bne_iff_ne, ne_eq, beq_eq_false_iff_ne, bne_eq_false_iff_eq, gt_iff_lt, ge_iff_le, Int.not_lt, Int.not_le] at hc52
            exact absurd rfl hc52
          · try simp only [decide_eq_true_eq, decide_eq_false_iff_not, Bool.not_eq_true', Bool.not_eq_false', Bool.not_eq_eq_eq_not, Bool.not_true, Bool.not_false, beq_iff_eq, bne_iff_ne, ne_eq, beq_eq_false_iff_ne, bne_eq_false_iff_eq, gt_iff_lt, ge_iff_le, Int.not_lt, Int.not_le] at hc52
            refine c_skip (x_then (hK17 _ _ ?_))
            clear hK17 K17
            refine c_seq (fun K19 hK19 => ?_)
            refine c_seq (fun K20 hK20 => ?_)
            refine c_reg ?_ -- region 13 syntaxm.go:242
            refine wl (ro_move rfl) ?_
            refine wl (ro_cmp rfl rfl rfl) ?_
            refine wl_nil (x_then (hK20 _ _ ?_))
            clear hK20 K20
            refine wc_cond rfl (fun hc54 => ?_) (fun hc54 => ?_)
            · try simp only [decide_eq_true_eq, decide_eq_false_iff_not, Bool.not_eq_true', Bool.not_eq_false', Bool.not_eq_eq_eq_not, Bool.not_true, Bool.not_false, beq_iff_eq, bne_iff_ne, ne_eq, beq_eq_false_iff_ne, bne_eq_false_iff_eq, gt_iff_lt, ge_iff_le, Int.not_lt, Int.not_le] at hc54
              have hts : ts = [] := hz3.1 (by omega)
              refine c_reg ?_ -- region 14 syntaxm.go:243
              refine wl (ro_move rfl) ?_
              refine wl (ro_assign rfl) ?_
              refine wl_nil (x_then (hK19 _ _ ?_))
              clear hK19 K19
              refine c_reg ?_ -- region 16 syntaxm.go:247
              refine wl (ro_move rfl) ?_
              refine wl (ro_assign rfl) ?_
              refine wl_nil (x_blk (x_then ?_))
              have e0 : G1.length = G.length := by rw [hts] at hlc; exact hlc
              subst hts
              have hLC3 : LC G [t1] G3 := LC.one hLX (by rw [hm3]; rw [hLC.m]; show _ ++ [] ++ _ = _; rw [List.append_nil, e0]) (by omega)
              have e9 : rt t1 G1.length = rtC [t1] G.length := by rw [hrt, e0]; rfl
              have e10 : rt t1 G1.length = lst G.length [t1] := by rw [hrt, e0]; unfold lst; rw [if_neg (by simp)]; show _ = G.length + (ndT t1 + 0) - 1; omega
              have hK3 : LsK G [t1] G3 c4 := .inr ⟨by simp, yn, yp, by rw [← e10, hrt]; exact hy3, hc43⟩
              rcases bdP_some hR with ⟨e4, hq4, rfl⟩ | ⟨l4, s4, hq4, hR4⟩
              · exact ⟨s3.len, by omega, [t1], _, G3, s3, .inl e4, c4, rfl, ⟨g, hq4⟩, hc42, hgl, hA3, hnb3, hLC3, hK3, hpe3, by omega, by omega, by omega, hF, kp _ ⟨rfl, rfl, rfl, congrArg (fun z : Nat => some (i64c z)) e9, congrArg (fun z : Nat => some (i64c z)) e10, trivial⟩⟩
              · cases okP_inj hR4
                exact ⟨s3.len, by omega, [t1], _, G3, s3, .inr (l4, s4), c4, rfl, ⟨g, hq4⟩, hc42, by rw [show ([t1] : List Tr) = [] ++ [t1] from rfl, glueS_snoc]; exact hgl, hA3, hnb3, hLC3, hK3, hpe3, by omega, by omega, by omega, hF, kp _ ⟨rfl, rfl, rfl, congrArg (fun z : Nat => some (i64c z)) e9, congrArg (fun z : Nat => some (i64c z)) e10, trivial⟩⟩
            · try simp only [decide_eq_true_eq, decide_eq_false_iff_not, Bool.not_eq_true', Bool.not_eq_false', Bool.not_eq_eq_eq_not, Bool.not_true, Bool.not_false, beq_iff_eq, bne_iff_ne, ne_eq, beq_eq_false_iff_ne, bne_eq_false_iff_eq, gt_iff_lt, ge_iff_le, Int.not_lt, Int.not_le] at hc54
              have hts : ts ≠ [] := fun q => hc54 (by rw [hz3.2 q]; rfl)
              have hls := hln hts
              have hp1 := hnp hts
              rw [hls]
              refine c_reg ?_ -- region 15 syntaxm.go:245
              refine wl (ro_move rfl) ?_
              refine wl (ro_nilCheck rfl) ?_
              refine wl (ro_fieldAddr (k := 8) rfl fo_146_4) ?_
              refine wl (ro_loadB rfl sc_77 (by assumption) rfl) ?_
              refine wl (ro_move rfl) ?_
              refine wl (ro_move rfl) ?_
              refine wl (ro_indexAddr (et := 148) (k := 8) rfl rfl se_77 (rfl) ((by omega))) ?_
              refine wl (ro_fieldAddr (k := 4) rfl fo_148_4) ?_
              refine wl_put rfl rfl rfl sz_3 hB3 ((by have := hO3.k3; have := hO3.k1; omega)) (rfl) (fun w1 hB3 F1 => ?_)
              replace hF := hF.thenDrew.thenO F1 (by first | exact .inr (by omega) | exact .inl rfl | exact .inl (by assumption) | assumption)
              replace hX3 := F1.blkO hX3 (by omega)
              have F16 := (F1)
              refine wl_nil (x_then (hK19 _ _ ?_))
              clear hK19 K19
              refine c_reg ?_ -- region 16 syntaxm.go:247
              refine wl (ro_move rfl) ?_
              refine wl (ro_assign rfl) ?_
              refine wl_nil (x_blk (x_then ?_))
              have hLC3 := hLC.more hts hLX hm3 hl3
              rw [← hrt] at hLC3
              have hA4 := hA3.link hO3 (by omega) hB3 F16
              have e9 : rtC ts G.length = rtC (ts ++ [t1]) G.length := by rw [rtC_snoc, if_neg hts]
              have e10 : rt t1 G1.length = lst G.length (ts ++ [t1]) := by rw [hrt]; unfold lst; rw [if_neg (by simp)]; omega
              have hb4 : (lkG G3 (G.length + ndC ts - 1) (rt t1 G1.length)).length + 3 * s3.len ≤ 10000 := by rw [lkG_len]; omega
              have hK3 : LsK G (ts ++ [t1]) (lkG G3 (G.length + ndC ts - 1) (rt t1 G1.length)) c4 := .inr ⟨by simp, yn, yp, by
                rw [← e10, hrt]
                unfold lkG
                rw [List.getElem?_modify, hy3]
                have : ¬ G.length + ndC ts - 1 = G1.length + ndT t1 - 1 := by omega
                simp [this], hc43⟩
              rcases bdP_some hR with ⟨e4, hq4, rfl⟩ | ⟨l4, s4, hq4, hR4⟩
              · exact ⟨s3.len, by omega, ts ++ [t1], _, _, s3, .inl e4, c4, rfl, ⟨g, hq4⟩, hc42, hgl, hA4, hnb3, hLC3, hK3, hpe3, by omega, hb4, by omega, hF, kp _ ⟨rfl, rfl, rfl, congrArg (fun z : Nat => some (i64c z)) e9, congrArg (fun z : Nat => some (i64c z)) e10, trivial⟩⟩
              · cases okP_inj hR4
                exact ⟨s3.len, by omega, ts ++ [t1], _, _, s3, .inr (l4, s4), c4, rfl, ⟨g, hq4⟩, hc42, by rw [glueS_snoc]; exact hgl, hA4, hnb3, hLC3, hK3, hpe3, by omega, hb4, by omega, hF, kp _ ⟨rfl, rfl, rfl, congrArg (fun z : Nat => some (i64c z)) e9, congrArg (fun z : Nat => some (i64c z)) e10, trivial⟩⟩
      · skip
        rw [if_pos rfl] at hR
        cases failP_inj hR
        have hcell := hO.cell hy
        have hyl := (List.getElem?_eq_some_iff.1 hy).1
        refine c_reg ?_ -- region 7 syntaxm.go:234
        refine wl (ro_move rfl) ?_
        refine wl (ro_cmp (r := true) rfl rfl (congrArg some (bne_iff_ne.2 (by have := hln hts; have := hnp hts; omega)))) ?_
        refine wl (ro_move rfl) ?_
        refine wlg_yes rfl (ro_move rfl) ?_
        refine wlg_yes rfl (ro_nilCheck rfl) ?_
        refine wlg_yes rfl (ro_fieldAddr (k := 8) rfl fo_146_4) ?_
        refine wlg_yes rfl (ro_loadB rfl sc_77 (by assumption) rfl) ?_
        refine wlg_yes rfl (ro_move rfl) ?_
        refine wlg_yes rfl (ro_indexAddr (et := 148) (k := 8) rfl rfl se_77 (rfl) (hyl)) ?_
        refine wlg_yes rfl (ro_fieldAddr (k := 0) rfl fo_148_0) ?_
        refine wlg_yes rfl (ro_loadB rfl sc_3 (hB) ((row_cell (k := 8) (j := 0) hcell rfl))) ?_
        refine wlg_yes rfl (ro_cmp (r := true) rfl rfl (congrArg some (beq_iff_eq.2 (by show (y.K : Int) = 10; omega)))) ?_
        refine wlg_yes rfl (ro_move rfl) ?_
        refine wlg_no rfl ?_
        refine wlg_no rfl ?_
        refine wlg_no rfl ?_
        refine wlg_no rfl ?_
        refine wlg_no rfl ?_
        refine wlg_no rfl ?_
        refine wlg_no rfl ?_
        refine wlg_no rfl ?_
        refine wlg_no rfl ?_
        refine wlg_yes rfl (ro_pick rfl rfl rfl) ?_
        refine wl (ro_pick rfl rfl rfl) ?_
        refine wl_nil (x_then (hK12 _ _ ?_))
        clear hK12 K12
        refine wc_condT rfl ?_
        refine c_seq (fun K21 hK21 => ?_)
        refine c_reg ?_ -- region 8 syntaxm.go:235
        refine wl (ro_move rfl) ?_
        refine wl_call rfl en_50 (failM (lv := lv) (c := 15) hA.v (by decide) (by omega)) ?_
        rintro _ u2 ⟨rfl, hE, F2⟩
        replace hF := ar_one hF F2
        refine wl_nil (x_then (hK21 _ _ ?_))
        clear hK21 K21
        refine forget [] trivial (fun e => ?_)
        refine c_seq (fun K22 hK22 => ?_)
        refine c_reg ?_ -- region 9 syntaxm.go:236
        refine wl (ro_assign rfl) ?_
        refine wl_nil (x_then (hK22 _ _ ?_))
        clear hK22 K22
        refine c_ret (x_thenR (x_blkR (x_thenR (x_blkR (x_thenR ?_)))))
        refine bp_ret Tryz.results49 rfl ?_
        rw [hgl] at hR7
        cases hR7
        exact ⟨hF, ⟨0, rfl⟩, hE⟩
      · skip
        rw [if_pos rfl] at hR
        cases failP_inj hR
        have hcell := hO.cell hy
        have hyl := (List.getElem?_eq_some_iff.1 hy).1
        refine c_reg ?_ -- region 7 syntaxm.go:234
        refine wl (ro_move rfl) ?_
        refine wl (ro_cmp (r := true) rfl rfl (congrArg some (bne_iff_ne.2 (by have := hln hts; have := hnp hts; omega)))) ?_
        refine wl (ro_move rfl) ?_
        refine wlg_yes rfl (ro_move rfl) ?_
        refine wlg_yes rfl (ro_nilCheck rfl) ?_
        refine wlg_yes rfl (ro_fieldAddr (k := 8) rfl fo_146_4) ?_
        refine wlg_yes rfl (ro_loadB rfl sc_77 (by assumption) rfl) ?_
        refine wlg_yes rfl (ro_move rfl) ?_
        refine wlg_yes rfl (ro_indexAddr (et := 148) (k := 8) rfl rfl se_77 (rfl) (hyl)) ?_
        refine wlg_yes rfl (ro_fieldAddr (k := 0) rfl fo_148_0) ?_
        refine wlg_yes rfl (ro_loadB rfl sc_3 (hB) ((row_cell (k := 8) (j := 0) hcell rfl))) ?_
        refine wlg_yes rfl (ro_cmp (r := false) rfl rfl (congrArg some (beq_eq_false_iff_ne.2 (by show (y.K : Int) ≠ 10; omega)))) ?_
        refine wlg_yes rfl (ro_move rfl) ?_
        refine wlg_yes rfl (ro_move rfl) ?_
        refine wlg_yes rfl (ro_nilCheck rfl) ?_
        refine wlg_yes rfl (ro_fieldAddr (k := 8) rfl fo_146_4) ?_
        refine wlg_yes rfl (ro_loadB rfl sc_77 (by assumption) rfl) ?_
        refine wlg_yes rfl (ro_move rfl) ?_
        refine wlg_yes rfl (ro_indexAddr (et := 148) (k := 8) rfl rfl se_77 (rfl) (hyl)) ?_
        refine wlg_yes rfl (ro_fieldAddr (k := 0) rfl fo_148_0) ?_
        refine wlg_yes rfl (ro_loadB rfl sc_3 (hB) ((row_cell (k := 8) (j := 0) hcell rfl))) ?_
        refine wlg_yes rfl (ro_cmp (r := true) rfl rfl (congrArg some (beq_iff_eq.2 (by show (y.K : Int) = 11; omega)))) ?_
        refine wlg_yes rfl (ro_pick rfl rfl rfl) ?_
        refine wl (ro_pick rfl rfl rfl) ?_
        refine wl_nil (x_then (hK12 _ _ ?_))
        clear hK12 K12
        refine wc_condT rfl ?_
        refine c_seq (fun K23 hK23 => ?_)
        refine c_reg ?_ -- region 8 syntaxm.go:235
        refine wl (ro_move rfl) ?_
        refine wl_call rfl en_50 (failM (lv := lv) (c := 15) hA.v (by decide) (by omega)) ?_
        rintro _ u2 ⟨rfl, hE, F2⟩
        replace hF := ar_one hF F2
        refine wl_nil (x_then (hK23 _ _ ?_))
        clear hK23 K23
        refine forget [] trivial (fun e => ?_)
        refine c_seq (fun K24 hK24 => ?_)
        refine c_reg ?_ -- region 9 syntaxm.go:236
        refine wl (ro_assign rfl) ?_
        refine wl_nil (x_then (hK24 _ _ ?_))
        clear hK24 K24
        refine c_ret (x_thenR (x_blkR (x_thenR (x_blkR (x_thenR ?_)))))
        refine bp_ret Tryz.results49 rfl ?_
        rw [hgl] at hR7
        cases hR7
        exact ⟨hF, ⟨0, rfl⟩, hE⟩
      · skip
        rw [if_neg (by decide)] at hR
        have hcell := hO.cell hy
        have hyl := (List.getElem?_eq_some_iff.1 hy).1
        refine c_reg ?_ -- region 7 syntaxm.go:234
        refine wl (ro_move rfl) ?_
        refine wl (ro_cmp (r := true) rfl rfl (congrArg some (bne_iff_ne.2 (by have := hln hts; have := hnp hts; omega)))) ?_
        refine wl (ro_move rfl) ?_
        refine wlg_yes rfl (ro_move rfl) ?_
        refine wlg_yes rfl (ro_nilCheck rfl) ?_
        refine wlg_yes rfl (ro_fieldAddr (k := 8) rfl fo_146_4) ?_
        refine wlg_yes rfl (ro_loadB rfl sc_77 (by assumption) rfl) ?_
        refine wlg_yes rfl (ro_move rfl) ?_
        refine wlg_yes rfl (ro_indexAddr (et := 148) (k := 8) rfl rfl se_77 (rfl) (hyl)) ?_
        refine wlg_yes rfl (ro_fieldAddr (k := 0) rfl fo_148_0) ?_
        refine wlg_yes rfl (ro_loadB rfl sc_3 (hB) ((row_cell (k := 8) (j := 0) hcell rfl))) ?_
        refine wlg_yes rfl (ro_cmp (r := false) rfl rfl (congrArg some (beq_eq_false_iff_ne.2 (by show (y.K : Int) ≠ 10; omega)))) ?_
        refine wlg_yes rfl (ro_move rfl) ?_
        refine wlg_yes rfl (ro_move rfl) ?_
        refine wlg_yes rfl (ro_nilCheck rfl) ?_
        refine wlg_yes rfl (ro_fieldAddr (k := 8) rfl fo_146_4) ?_
        refine wlg_yes rfl (ro_loadB rfl sc_77 (by assumption) rfl) ?_
        refine wlg_yes rfl (ro_move rfl) ?_
        refine wlg_yes rfl (ro_indexAddr (et := 148) (k := 8) rfl rfl se_77 (rfl) (hyl)) ?_
        refine wlg_yes rfl (ro_fieldAddr (k := 0) rfl fo_148_0) ?_
        refine wlg_yes rfl (ro_loadB rfl sc_3 (hB) ((row_cell (k := 8) (j := 0) hcell rfl))) ?_
        refine wlg_yes rfl (ro_cmp (r := false) rfl rfl (congrArg some (beq_eq_false_iff_ne.2 (by show (y.K : Int) ≠ 11; omega)))) ?_
        refine wlg_yes rfl (ro_pick rfl rfl rfl) ?_
        refine wl (ro_pick rfl rfl rfl) ?_
        refine wl_nil (x_then (hK12 _ _ ?_))
        clear hK12 K12
        refine wc_condF rfl ?_
        refine c_skip (x_then (hK11 _ _ ?_))
        clear hK11 K11
        refine forget [(0, _), (1, _), (5, _), (6, _), (7, _), (22, _), (23, _), (24, _), (25, _), (26, _), (27, _), (28, _), (29, _), (30, _), (31, _), (32, _), (33, _), (34, _), (35, _), (36, _), (37, _), (38, _), (39, _), (40, _), (41, _)] ⟨rfl, rfl, rfl, rfl, rfl, rfl, rfl, rfl, rfl, rfl, rfl, rfl, rfl, rfl, rfl, rfl, rfl, rfl, rfl, rfl, rfl, rfl, rfl, rfl, rfl, trivial⟩ (fun e => ?_)
        refine c_seq (fun K25 hK25 => ?_)
        rcases bdP_some hR with ⟨⟨ee, pp⟩, hq, rfl⟩ | ⟨t1, s3, hq, hR⟩
        · skip
          refine c_reg ?_ -- region 10 syntaxm.go:238
          refine wl (ro_move rfl) ?_
          refine wl (ro_move rfl) ?_
          refine wl_call rfl en_106 (ih.st (hG.at (lv1 := lv) hA hpe (by omega) (by omega) (by omega) hl13) hlv (by omega) ⟨g, hq⟩) ?_
          rintro v u3 ⟨F3, ⟨z, rfl⟩, hE⟩
          replace hF := ar_trans hF hnb F3
          have hE0 := hE
          obtain ⟨np', src', pos', t', U', al', lo', fu', hXe, h1, h2, h3, h4⟩ := hE
          unfold mpc at hXe
          refine wl (ro_assign rfl) ?_
          refine wl_nil (x_then (hK25 _ _ ?_))
          clear hK25 K25
          refine c_seq (fun K26 hK26 => ?_)
          refine c_seq (fun K27 hK27 => ?_)
          refine c_reg ?_ -- region 11 syntaxm.go:239
          refine wl (ro_move rfl) ?_
          refine wl (ro_nilCheck rfl) ?_
          refine wl (ro_fieldAddr (k := 9) rfl fo_146_5) ?_
          refine wl (ro_loadB rfl sc_54 (by assumption) rfl) ?_
          refine wl (ro_cmp rfl rfl rfl) ?_
          refine wl_nil (x_then (hK27 _ _ ?_))
          clear hK27 K27
          refine wc_cond rfl (fun hc52 => ?_) (fun hc52 => ?_)
          · try simp only [decide_eq_true_eq, decide_eq_false_iff_not, Bool.not_eq_true', Bool.not_eq_false', Bool.not_eq_eq_eq_not, Bool.not_true, Bool.not_false, beq_iff_eq, bne_iff_ne, ne_eq, beq_eq_false_iff_ne, bne_eq_false_iff_eq, gt_iff_lt, ge_iff_le, Int.not_lt, Int.not_le] at hc52
            refine c_seq (fun K28 hK28 => ?_)
            refine c_reg ?_ -- region 12 syntaxm.go:240
            refine wl (ro_assign rfl) ?_
            refine wl_nil (x_then (hK28 _ _ ?_))
            clear hK28 K28
            refine c_ret (x_thenR (x_blkR (x_thenR (x_blkR (x_thenR ?_)))))
            refine bp_ret Tryz.results49 rfl ?_
            rw [hgl] at hR7
            cases hR7
            exact ⟨hF, ⟨0, rfl⟩, hE0⟩
          · try simp only [decide_eq_true_eq, decide_eq_false_iff_not, Bool.not_eq_true', Bool.not_eq_false', Bool.not_eq_eq_eq_not, Bool.not_true, Bool.not_false, beq_iff_eq, bne_iff_ne, ne_eq, beq_eq_false_iff_ne, bne_eq_false_iff_eq, gt_iff_lt, ge_iff_le, Int.not_lt, Int.not_le] at hc52
            omega
        · skip
          refine c_reg ?_ -- region 10 syntaxm.go:238
          refine wl (ro_move rfl) ?_
          refine wl (ro_move rfl) ?_
          refine wl_call rfl en_106 (ih.st (hG.at (lv1 := lv) hA hpe (by omega) (by omega) (by omega) hl13) hlv (by omega) ⟨g, hq⟩) ?_
          rintro v u3 ⟨F3, rfl, U3, G3, hA3, hn3, hm3, hl3⟩
          have hz := hF.size
          replace hF := ar_trans hF hnb F3
          have hnb3 := nob_trans hnb hz hn3
          obtain ⟨hLy, _, hCm, hlo3, _, _⟩ := (par_q g).i8 hpe hlv t1 s3 hq
          have hIB : ndT t1 + 1 + 3 * s3.len ≤ 3 * s1.len := (IB.all g).s8 t1 s3 hq
          have hpe3 := hpe.cm hCm
          have hLX := hLy.lx
          have hxp := hLX.pos
          have hrt : rt t1 G1.length = G1.length + ndT t1 - 1 := hLX.rt _
          obtain ⟨yy, hyy, hyc⟩ := lay_last hLy (A := G1.map Prod.fst) (by rw [List.length_map]; omega)
          rw [List.length_map, ← hm3, List.getElem?_map] at hyy
          obtain ⟨⟨yn, yp⟩, hy3, hyn⟩ := Option.map_eq_some_iff.1 hyy
          have hyn : yn = yy := hyn
          subst hyn
          obtain ⟨g3, cap3, l3, e3, hO3⟩ := hA3.open (by omega)
          subst e3
          obtain ⟨pos3, hX3, hp3⟩ := hA3.v.ex
          unfold mpc at hX3
          have hB3 := hO3.b
          have hne3 := hO3.ne
          have hs1 := ndC_snoc ts t1
          have hmg3 : arS mp U g3 ∨ w.heap.size ≤ g3 := by
            rcases hnb3 g3 rfl with q | q
            · exact .inl (.inr q)
            · exact .inr q
          obtain ⟨c4, hc4, hc42⟩ : ∃ c4 : Nat, (if t1.c = 26 ∨ t1.c = 27 ∨ t1.c = 28 ∨ t1.c = 29 then 1 else 0) = c4 ∧ c4 ≤ 1 := ⟨_, rfl, by split <;> omega⟩
          have hc43 : (yn.K = 10 ∨ yn.K = 11) ↔ c4 = 1 := by
            rw [hyc, ← hc4]
            unfold clB
            by_cases hq9 : t1.c = 26 ∨ t1.c = 27 ∨ t1.c = 28 ∨ t1.c = 29
            · rw [if_pos hq9]
              exact ⟨fun _ => rfl, fun _ => hq9⟩
            · rw [if_neg hq9]
              exact ⟨fun h => absurd h hq9, fun h => by cases h⟩
          rw [hc4] at hR
          refine wl (ro_assign rfl) ?_
          refine wl_nil (x_then (hK25 _ _ ?_))
          clear hK25 K25
          refine c_seq (fun K29 hK29 => ?_)
          refine c_seq (fun K30 hK30 => ?_)
          refine c_reg ?_ -- region 11 syntaxm.go:239
          refine wl (ro_move rfl) ?_
          refine wl (ro_nilCheck rfl) ?_
          refine wl (ro_fieldAddr (k := 9) rfl fo_146_5) ?_
          refine wl (ro_loadB rfl sc_54 (by assumption) rfl) ?_
          refine wl (ro_cmp rfl rfl rfl) ?_
          refine wl_nil (x_then (hK30 _ _ ?_))
          clear hK30 K30
          refine wc_cond rfl (fun hc52 => ?_) (fun hc52 => ?_)
          · try simp only [decide_eq_true_eq, decide_eq_false_iff_not, Bool.not_eq_true', Bool.not_eq_false', Bool.not_eq_eq_eq_not, Bool.not_true, Bool.not_false, beq_iff_eq, bne_iff_ne, ne_eq, beq_eq_false_iff_ne, bne_eq_false_iff_eq, gt_iff_lt, ge_iff_le, Int.not_lt, Int.not_le] at hc52
            exact absurd rfl hc52
          · try simp only [decide_eq_true_eq, decide_eq_false_iff_not, Bool.not_eq_true', Bool.not_eq_false', Bool.not_eq_eq_eq_not, Bool.not_true, Bool.not_false, beq_iff_eq, bne_iff_ne, ne_eq, beq_eq_false_iff_ne, bne_eq_false_iff_eq, gt_iff_lt, ge_iff_le, Int.not_lt, Int.not_le] at hc52
            refine c_skip (x_then (hK29 _ _ ?_))
            clear hK29 K29
            refine c_seq (fun K31 hK31 => ?_)
            refine c_seq (fun K32 hK32 => ?_)
            refine c_reg ?_ -- region 13 syntaxm.go:242
            refine wl (ro_move rfl) ?_
            refine wl (ro_cmp rfl rfl rfl) ?_
            refine wl_nil (x_then (hK32 _ _ ?_))
            clear hK32 K32
            refine wc_cond rfl (fun hc54 => ?_) (fun hc54 => ?_)
            · try simp only [decide_eq_true_eq, decide_eq_false_iff_not, Bool.not_eq_true', Bool.not_eq_false', Bool.not_eq_eq_eq_not, Bool.not_true, Bool.not_false, beq_iff_eq, bne_iff_ne, ne_eq, beq_eq_false_iff_ne, bne_eq_false_iff_eq, gt_iff_lt, ge_iff_le, Int.not_lt, Int.not_le] at hc54
              have hts : ts = [] := hz3.1 (by omega)
              refine c_reg ?_ -- region 14 syntaxm.go:243
              refine wl (ro_move rfl) ?_
              refine wl (ro_assign rfl) ?_
              refine wl_nil (x_then (hK31 _ _ ?_))
              clear hK31 K31
              refine c_reg ?_ -- region 16 syntaxm.go:247
              refine wl (ro_move rfl) ?_
              refine wl (ro_assign rfl) ?_
              refine wl_nil (x_blk (x_then ?_))
              have e0 : G1.length = G.length := by rw [hts] at hlc; exact hlc
              subst hts
              have hLC3 : LC G [t1] G3 := LC.one hLX (by rw [hm3]; rw [hLC.m]; show _ ++ [] ++ _ = _; rw [List.append_nil, e0]) (by omega)
              have e9 : rt t1 G1.length = rtC [t1] G.length := by rw [hrt, e0]; rfl
              have e10 : rt t1 G1.length = lst G.length [t1] := by rw [hrt, e0]; unfold lst; rw [if_neg (by simp)]; show _ = G.length + (ndT t1 + 0) - 1; omega
              have hK3 : LsK G [t1] G3 c4 := .inr ⟨by simp, yn, yp, by rw [← e10, hrt]; exact hy3, hc43⟩
              rcases bdP_some hR with ⟨e4, hq4, rfl⟩ | ⟨l4, s4, hq4, hR4⟩
              · exact ⟨s3.len, by omega, [t1], _, G3, s3, .inl e4, c4, rfl, ⟨g, hq4⟩, hc42, hgl, hA3, hnb3, hLC3, hK3, hpe3, by omega, by omega, by omega, hF, kp _ ⟨rfl, rfl, rfl, congrArg (fun z : Nat => some (i64c z)) e9, congrArg (fun z : Nat => some (i64c z)) e10, trivial⟩⟩
              · cases okP_inj hR4
                exact ⟨s3.len, by omega, [t1], _, G3, s3, .inr (l4, s4), c4, rfl, ⟨g, hq4⟩, hc42, by rw [show ([t1] : List Tr) = [] ++ [t1] from rfl, glueS_snoc]; exact hgl, hA3, hnb3, hLC3, hK3, hpe3, by omega, by omega, by omega, hF, kp _ ⟨rfl, rfl, rfl, congrArg (fun z : Nat => some (i64c z)) e9, congrArg (fun z : Nat => some (i64c z)) e10, trivial⟩⟩
            · try simp only [decide_eq_true_eq, decide_eq_false_iff_not, Bool.not_eq_true', Bool.not_eq_false', Bool.not_eq_eq_eq_not, Bool.not_true, Bool.not_false, beq_iff_eq, bne_iff_ne, ne_eq, beq_eq_false_iff_ne, bne_eq_false_iff_eq, gt_iff_lt, ge_iff_le, Int.not_lt, Int.not_le] at hc54
              have hts : ts ≠ [] := fun q => hc54 (by rw [hz3.2 q]; rfl)
              have hls := hln hts
              have hp1 := hnp hts
              rw [hls]
              refine c_reg ?_ -- region 15 syntaxm.go:245
              refine wl (ro_move rfl) ?_
              refine wl (ro_nilCheck rfl) ?_
              refine wl (ro_fieldAddr (k := 8) rfl fo_146_4) ?_
              refine wl (ro_loadB rfl sc_77 (by assumption) rfl) ?_
              refine wl (ro_move rfl) ?_
              refine wl (ro_move rfl) ?_
              refine wl (ro_indexAddr (et := 148) (k := 8) rfl rfl se_77 (rfl) ((by omega))) ?_
              refine wl (ro_fieldAddr (k := 4) rfl fo_148_4) ?_
              refine wl_put rfl rfl rfl sz_3 hB3 ((by have := hO3.k3; have := hO3.k1; omega)) (rfl) (fun w2 hB3 F2 => ?_)
              replace hF := hF.thenDrew.thenO F2 (by first | exact .inr (by omega) | exact .inl rfl | exact .inl (by assumption) | assumption)
              replace hX3 := F2.blkO hX3 (by omega)
              have F16 := (F2)
              refine wl_nil (x_then (hK31 _ _ ?_))
              clear hK31 K31
              refine c_reg ?_ -- region 16 syntaxm.go:247
              refine wl (ro_move rfl) ?_
              refine wl (ro_assign rfl) ?_
              refine wl_nil (x_blk (x_then ?_))
              have hLC3 := hLC.more hts hLX hm3 hl3
              rw [← hrt] at hLC3
              have hA4 := hA3.link hO3 (by omega) hB3 F16
              have e9 : rtC ts G.length = rtC (ts ++ [t1]) G.length := by rw [rtC_snoc, if_neg hts]
              have e10 : rt t1 G1.length = lst G.length (ts ++ [t1]) := by rw [hrt]; unfold lst; rw [if_neg (by simp)]; omega
              have hb4 : (lkG G3 (G.length + ndC ts - 1) (rt t1 G1.length)).length + 3 * s3.len ≤ 10000 := by rw [lkG_len]; omega
              have hK3 : LsK G (ts ++ [t1]) (lkG G3 (G.length + ndC ts - 1) (rt t1 G1.length)) c4 := .inr ⟨by simp, yn, yp, by
                rw [← e10, hrt]
                unfold lkG
                rw [List.getElem?_modify, hy3]
                have : ¬ G.length + ndC ts - 1 = G1.length + ndT t1 - 1 := by omega
                simp [this], hc43⟩
              rcases bdP_some hR with ⟨e4, hq4, rfl⟩ | ⟨l4, s4, hq4, hR4⟩
              · exact ⟨s3.len, by omega, ts ++ [t1], _, _, s3, .inl e4, c4, rfl, ⟨g, hq4⟩, hc42, hgl, hA4, hnb3, hLC3, hK3, hpe3, by omega, hb4, by omega, hF, kp _ ⟨rfl, rfl, rfl, congrArg (fun z : Nat => some (i64c z)) e9, congrArg (fun z : Nat => some (i64c z)) e10, trivial⟩⟩
              · cases okP_inj hR4
                exact ⟨s3.len, by omega, ts ++ [t1], _, _, s3, .inr (l4, s4), c4, rfl, ⟨g, hq4⟩, hc42, by rw [glueS_snoc]; exact hgl, hA4, hnb3, hLC3, hK3, hpe3, by omega, hb4, by omega, hF, kp _ ⟨rfl, rfl, rfl, congrArg (fun z : Nat => some (i64c z)) e9, congrArg (fun z : Nat => some (i64c z)) e10, trivial⟩⟩
    · try simp only [decide_eq_true_eq, decide_eq_false_iff_not, Bool.not_eq_true', Bool.not_eq_false', Bool.not_eq_eq_eq_not, Bool.not_true, Bool.not_false, beq_iff_eq, bne_iff_ne, ne_eq, beq_eq_false_iff_ne, bne_eq_false_iff_eq, gt_iff_lt, ge_iff_le, Int.not_lt, Int.not_le] at hc18
      rw [if_pos (by simpa using hc18)] at hR
      cases okP_inj hR
      refine c_exit (x_thenX (x_thenX (x_blkX (x_then (hK8 _ _ ?_)))))
      clear hK9 K9 hK8 K8
      refine forget [(0, _), (5, _), (6, _)] ⟨rfl, rfl, rfl, trivial⟩ (fun e => ?_)
      refine c_seq (fun K33 hK33 => ?_)
      have hL : Fram (one mp) u1 u1 := Fram.refl _ _
      refine c_reg ?_ -- region 17 syntaxm.go:249
      refine wl (ro_move rfl) ?_
      refine wl (ro_move rfl) ?_
      refine wl (ro_nilCheck rfl) ?_
      refine wl (ro_fieldAddr (k := 11) rfl fo_146_7) ?_
      refine wl_put rfl rfl rfl sz_3 hX (by simp) (rfl) (fun w3 hX F3 => ?_)
      replace hF := hF.thenDrew.thenO F3 (by first | exact .inr (by omega) | exact .inl rfl | exact .inl (by assumption) | assumption)
      replace hB := F3.blkO hB (by omega)
      replace hL := hL.thenDrew.thenO F3 (by first | exact .inr (by omega) | exact .inl rfl | exact .inl (by assumption) | assumption)
      refine wl_nil (x_then (hK33 _ _ ?_))
      clear hK33 K33
      refine forget [(6, _)] ⟨rfl, trivial⟩ (fun e => ?_)
      refine c_seq (fun K34 hK34 => ?_)
      refine c_reg ?_ -- region 18 syntaxm.go:250
      refine wl (ro_move rfl) ?_
      refine wl (ro_assign rfl) ?_
      refine wl_nil (x_then (hK34 _ _ ?_))
      clear hK34 K34
      refine c_ret ?_
      refine bp_ret Tryz.results49 rfl ?_
      rw [hgl] at hR7
      cases okP_inj hR7
      obtain ⟨q1, q2, q3⟩ := stl_lay ts G.length
      have hM9 : MV _ mp np src _ { s1 with al := s.al } := ⟨⟨pos, hX, hpos⟩, hA.v.sx, hA.v.ne, hG.a.v.al, hA.v.lo, hA.v.fu, hA.v.sl⟩
      exact ⟨hF, by show _ = i64c (rt (ts.foldr StL.cons StL.nil) G.length); rw [q2], _, G1, hA.turn hM9 hL, hnb, by show _ = _ ++ lay (ts.foldr StL.cons StL.nil) G.length; rw [q1]; exact hLC.m, by show _ = _ + ndT (ts.foldr StL.cons StL.nil); rw [q3]; exact hLC.l⟩
end Go.Proofs.Qxb6500568aGreatDoor
