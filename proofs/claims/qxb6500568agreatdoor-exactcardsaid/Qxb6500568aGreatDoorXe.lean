import Derived.Test.Qxb6500568aGreatDoorXd
/- The model's parser: the contracts; unary operators. -/
namespace Go.Proofs.Qxb6500568aGreatDoor
open Ieee
set_option linter.unusedVariables false
set_option linter.unusedSimpArgs false

/-- What a function of the model's parser answers that lays a tree. -/
def MR (w : World) (mp : Nat) (np : Value) (src : Str) (lv : Nat) (U : Value) (G : List (Nd × Nat)) (R : PO) (r : Value) (w' : World) : Prop :=
  Fram (arS mp U) w w' ∧ match R with
  | .inl (e, p) => (∃ z : Int, r = .int .i64 z) ∧ ME w' mp lv e p
  | .inr (t, s') => r = i64c (rt t G.length) ∧ ∃ U' G', MA w' mp np src U' G' s' ∧ nob U U' w ∧ G'.map Prod.fst = G.map Prod.fst ++ lay t G.length ∧ G'.length = G.length + ndT t
/-- What is common to all calls. -/
structure MG (w : World) (mp : Nat) (np : Value) (src : Str) (U : Value) (G : List (Nd × Nat)) (s : PS) (lv : Nat) : Prop where
  a : MA w mp np src U G s
  pe : Pe s
  lo : s.lo ≤ lv
  bd : G.length + 3 * s.len ≤ 10000
  g1 : 1 ≤ G.length
  l13 : lv ≤ 13
/-- The contracts for at most n steps. -/
structure MAll (n : Nat) : Prop where
  x0 : ∀ {w : World} {mp : Nat} {np : Value} {src : Str} {U : Value} {G : List (Nd × Nat)} {s : PS} {lv : Nat} {R : PO}, MG w mp np src U G s lv → 20 * s.len + 10 ≤ n → Run 0 lv 1 0 dumT s R → Ret Tryz.prog 160 [ptr mp, i64c lv] w (MR w mp np src lv U G R)
  an : ∀ {w : World} {mp : Nat} {np : Value} {src : Str} {U : Value} {G : List (Nd × Nat)} {s : PS} {lv : Nat} {R : PO}, MG w mp np src U G s lv → lv ≤ 12 → 20 * s.len + 9 ≤ n → Run 0 lv 2 0 dumT s R → Ret Tryz.prog 212 [ptr mp, i64c lv] w (MR w mp np src lv U G R)
  lf : ∀ {w : World} {mp : Nat} {np : Value} {src : Str} {U : Value} {G : List (Nd × Nat)} {s : PS} {lv r : Nat} {R : PO}, MG w mp np src U G s lv → lv ≤ 12 ∨ r = 2 → 1 ≤ r → r ≤ 5 → 20 * s.len + (9 - r) ≤ n → Run 0 lv (r + 2) 0 dumT s R → Ret Tryz.prog 252 [ptr mp, i64c lv, i64c r] w (MR w mp np src lv U G R)
  un : ∀ {w : World} {mp : Nat} {np : Value} {src : Str} {U : Value} {G : List (Nd × Nat)} {s : PS} {lv : Nat} {R : PO}, MG w mp np src U G s lv → 20 * s.len + 3 ≤ n → Run 2 lv 0 0 dumT s R → Ret Tryz.prog 279 [ptr mp, i64c lv] w (MR w mp np src lv U G R)
  po : ∀ {w : World} {mp : Nat} {np : Value} {src : Str} {U : Value} {G : List (Nd × Nat)} {s : PS} {lv : Nat} {R : PO}, MG w mp np src U G s lv → 20 * s.len + 2 ≤ n → Run 3 lv 0 0 dumT s R → Ret Tryz.prog 163 [ptr mp, i64c lv] w (MR w mp np src lv U G R)
  li : ∀ {w : World} {mp : Nat} {np : Value} {src : Str} {U : Value} {G : List (Nd × Nat)} {s : PS} {lv r : Nat} {R : PO}, MG w mp np src U G s lv → r = 40 ∨ r = 42 → 20 * s.len + 12 ≤ n → Run 5 lv r 0 dumT s R → Ret Tryz.prog 214 [ptr mp, i64c lv, S (txt r), i64c (if r = 40 then 3 else 1073741824)] w (MR w mp np src lv U G R)
  bl : ∀ {w : World} {mp : Nat} {np : Value} {src : Str} {U : Value} {G : List (Nd × Nat)} {s : PS} {lv : Nat} {R : PO}, MG w mp np src U G s lv → 20 * s.len + 15 ≤ n → Run 6 lv 0 0 dumT s R → Ret Tryz.prog 49 [ptr mp, i64c lv] w (MR w mp np src lv U G R)
  st : ∀ {w : World} {mp : Nat} {np : Value} {src : Str} {U : Value} {G : List (Nd × Nat)} {s : PS} {lv : Nat} {R : PO}, MG w mp np src U G s lv → lv ≤ 12 → 20 * s.len + 13 ≤ n → Run 8 lv 0 0 dumT s R → Ret Tryz.prog 106 [ptr mp, i64c lv] w (MR w mp np src lv U G R)
  i9 : ∀ {w : World} {mp : Nat} {np : Value} {src : Str} {U : Value} {G : List (Nd × Nat)} {s : PS} {lv : Nat} {R : PO}, MG w mp np src U G s lv → lv ≤ 12 → 1 < s.k → 20 * s.len + 12 ≤ n → Run 9 lv 0 0 dumT s R → Ret Tryz.prog 158 [ptr mp, i64c lv] w (MR w mp np src lv U G R)
  b10 : ∀ {w : World} {mp : Nat} {np : Value} {src : Str} {U : Value} {G : List (Nd × Nat)} {s : PS} {lv r : Nat} {R : PO}, MG w mp np src U G s lv → lv ≤ 12 → s.al + r ≤ 12 → r ≤ 4 → 20 * s.len + 12 ≤ n → Run 10 lv r 0 dumT s R → Ret Tryz.prog 161 [ptr mp, i64c lv, i64c r] w (MR w mp np src lv U G R)
  f12 : ∀ {w : World} {mp : Nat} {np : Value} {src : Str} {U : Value} {G : List (Nd × Nat)} {s : PS} {lv p : Nat} {R : PO}, MG w mp np src U G s lv → lv ≤ 12 → s.fu < 12 → s.k = 39 → 20 * s.len + 5 ≤ n → Run 12 lv 0 0 dumT s R → Ret Tryz.prog 210 [ptr mp, i64c lv, i64c p] w (MR w mp np src lv U G R)
section
variable {w u u' : World} {mp : Nat} {np : Value} {src : Str} {U U1 : Value} {G G1 : List (Nd × Nat)} {s s1 : PS} {lv lv1 r : Nat} {R : PO} {t : Tr}
theorem MG.run0 (h : Run 0 lv r 0 dumT s (.inr (t, s1))) (hp : Pe s) : QE t (bR lv r) ∧ Sm s s1 ∧ lv ≤ 12 ∧ ndT t + 2 + 3 * s1.len ≤ 3 * s.len := by
  obtain ⟨f, h⟩ := h
  obtain ⟨h1, h2, _, h3⟩ := (par_q f).i0 hp t s1 h
  exact ⟨h1, h2, h3, ((IB.all f).e t s1 h).2⟩
/-- A call at a later state. -/
theorem MG.at (h : MG w mp np src U G s lv) (hA : MA u mp np src U1 G1 s1) (hp : Pe s1) (hl : s1.lo ≤ lv1) (hb : G1.length + 3 * s1.len ≤ 10000) (hg : G.length ≤ G1.length) (h13 : lv1 ≤ 13) : MG u mp np src U1 G1 s1 lv1 := ⟨hA, hp, hl, hb, by have := h.g1; omega, h13⟩
theorem MA.far {S : Nat → Prop} (h : MA u mp np src U G s) (f : Fram S u u') (h1 : ¬ S mp) (h2 : ∀ b, own1 U b → ¬ S b) : MA u' mp np src U G s := ⟨h.v.far f h1, h.own.fram f h2, h.ne⟩
/-- The parser's state turned, the arena alone. -/
theorem MA.turn (h : MA u mp np src U G s) (hv : MV u' mp np src U s1) (f : Fram (one mp) u u') : MA u' mp np src U G s1 := ⟨hv, h.own.fram f (fun b hb e => h.ne (by have e : b = mp := e; rw [← e]; exact hb)), h.ne⟩
theorem ar_one (hF : Fram (arS mp U) w u) (f : Fram (one mp) u u') : Fram (arS mp U) w u' := hF.trans' f (fun b _ q => .inl q)
end
set_option maxHeartbeats 4000000 in
theorem unary279 {n : Nat} {w : World} {mp : Nat} {np : Value} {src : Str} {U : Value} {G : List (Nd × Nat)} {s : PS} {lv : Nat} {R : PO} (ih : MAll n) (hG : MG w mp np src U G s lv) (hn : 20 * s.len + 3 ≤ n + 1) (hR : Run 2 lv 0 0 dumT s R) : Ret Tryz.prog 279 [ptr mp, i64c lv] w (MR w mp np src lv U G R) := by
  have hA := hG.a
  have hM := hA.v
  have hl13 := hG.l13
  have hlo := hG.lo
  have hbd := hG.bd
  have hF : Fram (arS mp U) w w := Fram.refl _ _
  obtain ⟨f, hR⟩ := run_step.1 hR
  replace hR : pUnary (parP f) lv s = some R := hR
  unfold pUnary at hR
  have hkk : s.k = s.cur.k := rfl
  refine ret_of Tryz.func279 rfl Tryz.ntmps279 rfl ?_
  refine c_seq (fun K1 hK1 => ?_)
  refine c_reg ?_ -- region 0 syntaxm.go:653
  refine wl (ro_assign rfl) ?_
  refine wl_nil (x_then (hK1 _ _ ?_))
  clear hK1 K1
  refine c_seq (fun K2 hK2 => ?_)
  refine c_seq (fun K3 hK3 => ?_)
  refine c_reg ?_ -- region 1 syntaxm.go:654
  refine wl (ro_move rfl) ?_
  refine wl (ro_move rfl) ?_
  refine wl_call rfl en_104 (deepM (lv := lv) hM (n := lv) (by omega) (by omega)) ?_
  rintro _ u1 ⟨rfl, hq1, F1⟩
  replace hF := ar_one hF F1
  refine wl_nil (x_then (hK3 _ _ ?_))
  clear hK3 K3
  refine wc_cond rfl (fun hc10 => ?_) (fun hc10 => ?_)
  · try simp only [decide_eq_true_eq, decide_eq_false_iff_not, Bool.not_eq_true', Bool.not_eq_false', Bool.not_eq_eq_eq_not, Bool.not_true, Bool.not_false, beq_iff_eq, bne_iff_ne, ne_eq, beq_eq_false_iff_ne, bne_eq_false_iff_eq, gt_iff_lt, ge_iff_le, Int.not_lt, Int.not_le] at hc10
    refine c_seq (fun K4 hK4 => ?_)
    refine c_reg ?_ -- region 2 syntaxm.go:655
    refine wl (ro_assign rfl) ?_
    refine wl_nil (x_then (hK4 _ _ ?_))
    clear hK4 K4
    refine c_ret (x_thenR ?_)
    refine bp_ret Tryz.results279 rfl ?_
    rw [if_pos (by omega)] at hR hq1
    cases failP_inj hR
    exact ⟨hF, ⟨0, rfl⟩, hq1⟩
  · try simp only [decide_eq_true_eq, decide_eq_false_iff_not, Bool.not_eq_true', Bool.not_eq_false', Bool.not_eq_eq_eq_not, Bool.not_true, Bool.not_false, beq_iff_eq, bne_iff_ne, ne_eq, beq_eq_false_iff_ne, bne_eq_false_iff_eq, gt_iff_lt, ge_iff_le, Int.not_lt, Int.not_le] at hc10
    rw [if_neg (by omega)] at hR hq1
    replace hq1 := hq1.symm
    subst hq1
    refine c_skip (x_then (hK2 _ _ ?_))
    clear hK2 K2
    refine forget [(0, _), (1, _)] ⟨rfl, rfl, trivial⟩ (fun e => ?_)
    refine c_seq (fun K5 hK5 => ?_)
    refine c_reg ?_ -- region 3 syntaxm.go:657
    refine wl (ro_assign rfl) ?_
    refine wl_nil (x_then (hK5 _ _ ?_))
    clear hK5 K5
    refine c_mid (fun a' w' => w' = w ∧ ∃ op : Nat, op ≤ 3 ∧ (if op = 0 then parP f 3 lv 0 0 dumT s = some R else 1 < s.k ∧ bdP (parP f 2 (lv + 1) 0 0 dumT s.adv) (fun x s => okP (Ex.un op x) s) = some R) ∧ ∃ e, a' = Fr 45 (upds e [(0, ptr mp), (1, i64c lv), (5, i64c op)]) []) ?_ ?_
    · skip
      refine c_seq (fun K6 hK6 => ?_)
      refine c_reg ?_ -- region 4 syntaxm.go:658
      refine wl (ro_move rfl) ?_
      refine wl_call rfl en_156 (is156 (k := 32) hM (by decide) (by decide)) ?_
      rintro _ w9 ⟨rfl, e9⟩
      replace e9 := e9.symm
      subst e9
      refine wl_nil (x_then (hK6 _ _ ?_))
      clear hK6 K6
      refine wc_cond rfl (fun hc12 => ?_) (fun hc12 => ?_)
      · try simp only [decide_eq_true_eq, decide_eq_false_iff_not, Bool.not_eq_true', Bool.not_eq_false', Bool.not_eq_eq_eq_not, Bool.not_true, Bool.not_false, beq_iff_eq, bne_iff_ne, ne_eq, beq_eq_false_iff_ne, bne_eq_false_iff_eq, gt_iff_lt, ge_iff_le, Int.not_lt, Int.not_le] at hc12
        refine c_reg ?_ -- region 5 syntaxm.go:659
        refine wl (ro_assign rfl) ?_
        refine wl_nil (x_then ?_)
        exact ⟨rfl, 1, by decide, by rw [if_pos (by omega)] at hR; rw [if_neg (by decide)]; exact ⟨by omega, hR⟩, kp _ ⟨rfl, rfl, rfl, trivial⟩⟩
      · try simp only [decide_eq_true_eq, decide_eq_false_iff_not, Bool.not_eq_true', Bool.not_eq_false', Bool.not_eq_eq_eq_not, Bool.not_true, Bool.not_false, beq_iff_eq, bne_iff_ne, ne_eq, beq_eq_false_iff_ne, bne_eq_false_iff_eq, gt_iff_lt, ge_iff_le, Int.not_lt, Int.not_le] at hc12
        refine c_seq (fun K7 hK7 => ?_)
        refine c_reg ?_ -- region 6 syntaxm.go:660
        refine wl (ro_move rfl) ?_
        refine wl_call rfl en_156 (is156 (k := 17) hM (by decide) (by decide)) ?_
        rintro _ w9 ⟨rfl, e9⟩
        replace e9 := e9.symm
        subst e9
        refine wl_nil (x_then (hK7 _ _ ?_))
        clear hK7 K7
        refine wc_cond rfl (fun hc14 => ?_) (fun hc14 => ?_)
        · try simp only [decide_eq_true_eq, decide_eq_false_iff_not, Bool.not_eq_true', Bool.not_eq_false', Bool.not_eq_eq_eq_not, Bool.not_true, Bool.not_false, beq_iff_eq, bne_iff_ne, ne_eq, beq_eq_false_iff_ne, bne_eq_false_iff_eq, gt_iff_lt, ge_iff_le, Int.not_lt, Int.not_le] at hc14
          refine c_reg ?_ -- region 7 syntaxm.go:661
          refine wl (ro_assign rfl) ?_
          refine wl_nil (x_then ?_)
          exact ⟨rfl, 2, by decide, by rw [if_neg (by omega), if_pos (by omega)] at hR; rw [if_neg (by decide)]; exact ⟨by omega, hR⟩, kp _ ⟨rfl, rfl, rfl, trivial⟩⟩
        · try simp only [decide_eq_true_eq, decide_eq_false_iff_not, Bool.not_eq_true', Bool.not_eq_false', Bool.not_eq_eq_eq_not, Bool.not_true, Bool.not_false, beq_iff_eq, bne_iff_ne, ne_eq, beq_eq_false_iff_ne, bne_eq_false_iff_eq, gt_iff_lt, ge_iff_le, Int.not_lt, Int.not_le] at hc14
          refine c_seq (fun K8 hK8 => ?_)
          refine c_reg ?_ -- region 8 syntaxm.go:662
          refine wl (ro_move rfl) ?_
          refine wl_call rfl en_156 (is156 (k := 37) hM (by decide) (by decide)) ?_
          rintro _ w9 ⟨rfl, e9⟩
          replace e9 := e9.symm
          subst e9
          refine wl_nil (x_then (hK8 _ _ ?_))
          clear hK8 K8
          refine wc_cond rfl (fun hc16 => ?_) (fun hc16 => ?_)
          · try simp only [decide_eq_true_eq, decide_eq_false_iff_not, Bool.not_eq_true', Bool.not_eq_false', Bool.not_eq_eq_eq_not, Bool.not_true, Bool.not_false, beq_iff_eq, bne_iff_ne, ne_eq, beq_eq_false_iff_ne, bne_eq_false_iff_eq, gt_iff_lt, ge_iff_le, Int.not_lt, Int.not_le] at hc16
            refine c_reg ?_ -- region 9 syntaxm.go:663
            refine wl (ro_assign rfl) ?_
            refine wl_nil (x_then ?_)
            exact ⟨rfl, 3, by decide, by rw [if_neg (by omega), if_neg (by omega), if_pos (by omega)] at hR; rw [if_neg (by decide)]; exact ⟨by omega, hR⟩, kp _ ⟨rfl, rfl, rfl, trivial⟩⟩
          · try simp only [decide_eq_true_eq, decide_eq_false_iff_not, Bool.not_eq_true', Bool.not_eq_false', Bool.not_eq_eq_eq_not, Bool.not_true, Bool.not_false, beq_iff_eq, bne_iff_ne, ne_eq, beq_eq_false_iff_ne, bne_eq_false_iff_eq, gt_iff_lt, ge_iff_le, Int.not_lt, Int.not_le] at hc16
            refine c_skip (x_then ?_)
            exact ⟨rfl, 0, by decide, by rw [if_neg (by omega), if_neg (by omega), if_neg (by omega)] at hR; rw [if_pos rfl]; exact hR, kp _ ⟨rfl, rfl, rfl, trivial⟩⟩
    clear hR
    rintro a' w' ⟨e9, op, hop, hR, e, rfl⟩
    replace e9 := e9.symm
    subst e9
    refine c_seq (fun K9 hK9 => ?_)
    refine c_seq (fun K10 hK10 => ?_)
    refine c_reg ?_ -- region 10 syntaxm.go:665
    refine wl (ro_move rfl) ?_
    refine wl (ro_cmp rfl rfl rfl) ?_
    refine wl_nil (x_then (hK10 _ _ ?_))
    clear hK10 K10
    refine wc_cond rfl (fun hc18 => ?_) (fun hc18 => ?_)
    · try simp only [decide_eq_true_eq, decide_eq_false_iff_not, Bool.not_eq_true', Bool.not_eq_false', Bool.not_eq_eq_eq_not, Bool.not_true, Bool.not_false, beq_iff_eq, bne_iff_ne, ne_eq, beq_eq_false_iff_ne, bne_eq_false_iff_eq, gt_iff_lt, ge_iff_le, Int.not_lt, Int.not_le] at hc18
      rw [if_pos (by omega)] at hR
      refine c_seq (fun K11 hK11 => ?_)
      refine c_reg ?_ -- region 11 syntaxm.go:666
      refine wl (ro_move rfl) ?_
      refine wl (ro_move rfl) ?_
      refine wl_call rfl en_163 (ih.po hG (by omega) ⟨f, hR⟩) ?_
      rintro v u2 hr
      refine wl (ro_assign rfl) ?_
      refine wl_nil (x_then (hK11 _ _ ?_))
      clear hK11 K11
      refine c_ret (x_thenR ?_)
      refine bp_ret Tryz.results279 rfl ?_
      exact hr
    · try simp only [decide_eq_true_eq, decide_eq_false_iff_not, Bool.not_eq_true', Bool.not_eq_false', Bool.not_eq_eq_eq_not, Bool.not_true, Bool.not_false, beq_iff_eq, bne_iff_ne, ne_eq, beq_eq_false_iff_ne, bne_eq_false_iff_eq, gt_iff_lt, ge_iff_le, Int.not_lt, Int.not_le] at hc18
      rw [if_neg (by omega)] at hR
      obtain ⟨hk1, hR⟩ := hR
      obtain ⟨pos, hX, hpos⟩ := hM.ex
      unfold mpc at hX
      have ha1 := adv_len' (s := s) (by omega)
      have hpe1 := hG.pe.cm (Cm.adv hG.pe)
      refine c_skip (x_then (hK9 _ _ ?_))
      clear hK9 K9
      refine forget [(0, _), (1, _), (5, _)] ⟨rfl, rfl, rfl, trivial⟩ (fun e => ?_)
      refine c_seq (fun K12 hK12 => ?_)
      refine c_reg ?_ -- region 12 syntaxm.go:668
      refine wl (ro_move rfl) ?_
      refine wl (ro_nilCheck rfl) ?_
      refine wl (ro_fieldAddr (k := 3) rfl fo_146_3) ?_
      refine wl (ro_fieldAddr (k := 3) rfl fo_144_3) ?_
      refine wl (ro_loadB rfl sc_3 (by assumption) rfl) ?_
      refine wl (ro_assign rfl) ?_
      refine wl_nil (x_then (hK12 _ _ ?_))
      clear hK12 K12
      refine forget [(0, _), (1, _), (5, _), (6, _)] ⟨rfl, rfl, rfl, rfl, trivial⟩ (fun e => ?_)
      refine c_seq (fun K13 hK13 => ?_)
      refine c_reg ?_ -- region 13 syntaxm.go:669
      refine wl (ro_move rfl) ?_
      refine wl_call rfl en_48 (nextM hM hk1) ?_
      rintro _ u2 ⟨rfl, hM2, F2⟩
      replace hF := ar_one hF F2
      have hA2 := hA.turn hM2 F2
      have hG2 := hG.at (lv1 := lv + 1) hA2 hpe1 (by show s.lo ≤ lv + 1; omega) (by omega) (Nat.le_refl _) (by omega)
      refine wl_nil (x_then (hK13 _ _ ?_))
      clear hK13 K13
      refine forget [(0, _), (1, _), (5, _), (6, _)] ⟨rfl, rfl, rfl, rfl, trivial⟩ (fun e => ?_)
      refine c_seq (fun K14 hK14 => ?_)
      rcases bdP_some hR with ⟨⟨ee, pp⟩, hq, rfl⟩ | ⟨t1, s1, hq, hR⟩
      · skip
        refine c_reg ?_ -- region 14 syntaxm.go:670
        refine wl (ro_move rfl) ?_
        refine wl (ro_move rfl) ?_
        refine wl (ro_arith rfl rfl rfl (Go.IntWalk.i64_in _ (by omega))) ?_
        refine wl_call rfl en_279 (ih.un hG2 (by omega) ⟨f, hq⟩) ?_
        rintro v u3 ⟨F3, ⟨z, rfl⟩, hE⟩
        replace hF := ar_trans hF (fun b q => .inl q) F3
        have hE0 := hE.le (lv' := lv) (by omega)
        obtain ⟨np', src', pos', t', U', al', lo', fu', hXe, h1, h2, h3, h4⟩ := hE
        unfold mpc at hXe
        refine wl (ro_assign rfl) ?_
        refine wl_nil (x_then (hK14 _ _ ?_))
        clear hK14 K14
        refine c_seq (fun K15 hK15 => ?_)
        refine c_seq (fun K16 hK16 => ?_)
        refine c_reg ?_ -- region 15 syntaxm.go:671
        refine wl (ro_move rfl) ?_
        refine wl (ro_nilCheck rfl) ?_
        refine wl (ro_fieldAddr (k := 9) rfl fo_146_5) ?_
        refine wl (ro_loadB rfl sc_54 (by assumption) rfl) ?_
        refine wl (ro_cmp rfl rfl rfl) ?_
        refine wl_nil (x_then (hK16 _ _ ?_))
        clear hK16 K16
        refine wc_cond rfl (fun hc37 => ?_) (fun hc37 => ?_)
        · try simp only [decide_eq_true_eq, decide_eq_false_iff_not, Bool.not_eq_true', Bool.not_eq_false', Bool.not_eq_eq_eq_not, Bool.not_true, Bool.not_false, beq_iff_eq, bne_iff_ne, ne_eq, beq_eq_false_iff_ne, bne_eq_false_iff_eq, gt_iff_lt, ge_iff_le, Int.not_lt, Int.not_le] at hc37
          refine c_seq (fun K17 hK17 => ?_)
          refine c_reg ?_ -- region 16 syntaxm.go:672
          refine wl (ro_assign rfl) ?_
          refine wl_nil (x_then (hK17 _ _ ?_))
          clear hK17 K17
          refine c_ret (x_thenR ?_)
          refine bp_ret Tryz.results279 rfl ?_
          exact ⟨hF, ⟨0, rfl⟩, hE0⟩
        · try simp only [decide_eq_true_eq, decide_eq_false_iff_not, Bool.not_eq_true', Bool.not_eq_false', Bool.not_eq_eq_eq_not, Bool.not_true, Bool.not_false, beq_iff_eq, bne_iff_ne, ne_eq, beq_eq_false_iff_ne, bne_eq_false_iff_eq, gt_iff_lt, ge_iff_le, Int.not_lt, Int.not_le] at hc37
          omega
      · skip
        refine c_reg ?_ -- region 14 syntaxm.go:670
        refine wl (ro_move rfl) ?_
        refine wl (ro_move rfl) ?_
        refine wl (ro_arith rfl rfl rfl (Go.IntWalk.i64_in _ (by omega))) ?_
        refine wl_call rfl en_279 (ih.un hG2 (by omega) ⟨f, hq⟩) ?_
        rintro v u3 ⟨F3, rfl, U3, G3, hA3, hn3, hm3, hl3⟩
        replace hF := ar_trans hF (fun b q => .inl q) F3
        obtain ⟨pos3, hX3, hp3⟩ := hA3.v.ex
        unfold mpc at hX3
        have hz := F2.size
        have hnb : nob U U3 w := fun b q => by
          rcases hn3 b q with q | q
          · exact .inl q
          · exact .inr (Nat.le_trans hz q)
        have hIB := ((IB.all f).u t1 s1 hq).2
        refine wl (ro_assign rfl) ?_
        refine wl_nil (x_then (hK14 _ _ ?_))
        clear hK14 K14
        refine c_seq (fun K18 hK18 => ?_)
        refine c_seq (fun K19 hK19 => ?_)
        refine c_reg ?_ -- region 15 syntaxm.go:671
        refine wl (ro_move rfl) ?_
        refine wl (ro_nilCheck rfl) ?_
        refine wl (ro_fieldAddr (k := 9) rfl fo_146_5) ?_
        refine wl (ro_loadB rfl sc_54 (by assumption) rfl) ?_
        refine wl (ro_cmp rfl rfl rfl) ?_
        refine wl_nil (x_then (hK19 _ _ ?_))
        clear hK19 K19
        refine wc_cond rfl (fun hc37 => ?_) (fun hc37 => ?_)
        · try simp only [decide_eq_true_eq, decide_eq_false_iff_not, Bool.not_eq_true', Bool.not_eq_false', Bool.not_eq_eq_eq_not, Bool.not_true, Bool.not_false, beq_iff_eq, bne_iff_ne, ne_eq, beq_eq_false_iff_ne, bne_eq_false_iff_eq, gt_iff_lt, ge_iff_le, Int.not_lt, Int.not_le] at hc37
          exact absurd rfl hc37
        · try simp only [decide_eq_true_eq, decide_eq_false_iff_not, Bool.not_eq_true', Bool.not_eq_false', Bool.not_eq_eq_eq_not, Bool.not_true, Bool.not_false, beq_iff_eq, bne_iff_ne, ne_eq, beq_eq_false_iff_ne, bne_eq_false_iff_eq, gt_iff_lt, ge_iff_le, Int.not_lt, Int.not_le] at hc37
          refine c_skip (x_then (hK18 _ _ ?_))
          clear hK18 K18
          refine forget [(0, _), (5, _), (6, _), (7, _)] ⟨rfl, rfl, rfl, rfl, trivial⟩ (fun e => ?_)
          refine c_seq (fun K20 hK20 => ?_)
          refine c_reg ?_ -- region 17 syntaxm.go:674
          refine wl (ro_move rfl) ?_
          refine wl (ro_move rfl) ?_
          refine wl (ro_conv rfl sc_3 in_117 (Go.IntWalk.u64_in _ (by omega))) ?_
          refine wl (ro_move rfl) ?_
          refine wl (ro_move rfl) ?_
          refine wl (ro_build rfl bld_148_0_5_1_7) ?_
          refine wl_call rfl en_162 (addM (x := (⟨23, rt t1 G.length, 0, 0, 0, op, []⟩, s.cur.pl)) hA3 (by omega)) ?_
          rintro _ u4 ⟨rfl, U4, hA4, hn4, F4⟩
          refine wl (ro_assign rfl) ?_
          refine wl_nil (x_then (hK20 _ _ ?_))
          clear hK20 K20
          refine c_ret ?_
          refine bp_ret Tryz.results279 rfl ?_
          cases okP_inj hR
          refine ⟨ar_trans hF hnb F4, ?_, U4, _, hA4, nob_trans hnb hF.size hn4, ?_, ?_⟩
          · show _ = i64c (G.length + ndT (Ex.un op t1) - 1)
            have : ndT (Ex.un op t1) = 1 + ndT t1 := rfl
            exact congrArg (fun z : Nat => i64c z) (by omega)
          · rw [List.map_append, hm3, List.append_assoc]
            rfl
          · rw [List.length_append]
            show _ = G.length + (1 + ndT t1)
            simp only [List.length_cons, List.length_nil]
            omega
end Go.Proofs.Qxb6500568aGreatDoor
