import Derived.Test.Qxb6500567aGreatCe
/- The model's parser: classes. -/
namespace Go.Proofs.Qxb6500567aGreat
set_option linter.unusedVariables false
set_option linter.unusedSimpArgs false

/-- What class answers. -/
def ClM (w : World) (rb : Nat) (p : List UInt8) (i n g : Nat) (T : List RE) (VN : Value) (v : Value) (w' : World) : Prop := match cls p i with
  | .error e => v = icv (-1) ∧ ME w' rb p e (p.length + 1)
  | .ok (Z, j) => AddM w rb p j n g T VN (.set Z) v w'

theorem AddM.after {w0 w w' : World} {rb : Nat} {p : List UInt8} {i n g : Nat} {T : List RE} {VN v : Value} {r : RE} {F : Nat → Prop} (h : AddM w rb p i n g T VN r v w') (hf : Fram F w0 w) : AddM w0 rb p i n g T VN r v w' := by
  rcases h with ⟨h1, h2, VN', xs', h3, h4⟩ | h
  · exact .inl ⟨h1, h2, VN', xs', h3, h4.after hf⟩
  · exact .inr h

theorem escB_one {c : UInt8} {h l : Option UInt8} {Z b k : Nat} (he : escB c h l = some (Z, true, b, k)) : Z = rng b b := by
  unfold escB at he
  by_cases h110 : c = 110
  · rw [if_pos h110] at he; cases he; rfl
  rw [if_neg h110] at he
  by_cases h116 : c = 116
  · rw [if_pos h116] at he; cases he; rfl
  rw [if_neg h116] at he
  by_cases h114 : c = 114
  · rw [if_pos h114] at he; cases he; rfl
  rw [if_neg h114] at he
  by_cases h100 : c = 100
  · rw [if_pos h100] at he; cases he
  rw [if_neg h100] at he
  by_cases h68 : c = 68
  · rw [if_pos h68] at he; cases he
  rw [if_neg h68] at he
  by_cases h119 : c = 119
  · rw [if_pos h119] at he; cases he
  rw [if_neg h119] at he
  by_cases h87 : c = 87
  · rw [if_pos h87] at he; cases he
  rw [if_neg h87] at he
  by_cases h115 : c = 115
  · rw [if_pos h115] at he; cases he
  rw [if_neg h115] at he
  by_cases h83 : c = 83
  · rw [if_pos h83] at he; cases he
  rw [if_neg h83] at he
  by_cases h120 : c = 120
  · rw [if_pos h120] at he
    cases h with
    | none => cases he
    | some h =>
      cases l with
      | none => cases he
      | some l =>
        simp only at he
        split at he
        · cases he; rfl
        · cases he
  rw [if_neg h120] at he
  split at he
  · cases he
  · cases he; rfl

theorem item_one {p : List UInt8} {i : Nat} {c : UInt8} {Z b j : Nat} (he : item p i c = .ok (Z, true, b, j)) : Z = rng b b := by
  unfold item at he
  split at he
  · unfold esc at he
    split at he
    · cases he
    · split at he
      · cases he
      · rename_i h
        cases he
        exact escB_one h
  · cases he; rfl

theorem rng_rng {a b : Nat} (h : a ≤ b) : rng a a ||| rng a b = rng a b := by
  apply Nat.eq_of_testBit_eq
  intro k
  rw [Nat.testBit_or, rng_bit, rng_bit]
  by_cases h1 : a ≤ k ∧ k ≤ a
  · simp [h1]; omega
  · simp [h1]

set_option maxHeartbeats 4000000 in
theorem class152 {w : World} {rb : Nat} {p : List UInt8} {i n g : Nat} {T : List RE} {VN : Value} {xs : List Value} (M : MV w rb p i n g T VN xs) (hi : i < p.length) :
    Ret Tryz.prog 152 [ptr rb] w (fun v w' => ClM w rb p i n g T VN v w' ∧ Fram (mfr rb VN) w w') := by
  have hF : Fram (one rb) w w := Fram.refl _ _
  have hpl := M.pl
  have hB := M.blk
  have hXe : ∀ e v w', clsR p i = .error e → v = icv (-1) → ME w' rb p e (p.length + 1) → ClM w rb p i n g T VN v w' := by intro e v w' h1 h2 h3; unfold ClM; rw [cls_eq, h1]; exact ⟨h2, h3⟩
  have hXo : ∀ Z j v w', clsR p i = .ok (Z, j) → AddM w rb p j n g T VN (.set (if clsN p i then cpl Z else Z)) v w' → ClM w rb p i n g T VN v w' := by intro Z j v w' h1 h2; unfold ClM; rw [cls_eq, h1]; exact h2
  have hRe : ∀ e, clsR p i = .error e → e.1 ≠ 0 := fun e h => clsR_er hi h
  obtain ⟨aV, cV, hVN⟩ := M.own.form
  have hIl : clsI p i ≤ p.length := by
    unfold clsI
    split
    · rename_i h; have := get_lt h; omega
    · omega
  refine ret_of Tryz.func152 rfl Tryz.ntmps152 rfl ?_
  refine c_seq (fun K1 hK1 => ?_)
  refine c_reg ?_ -- region 0 syntaxm.go:237
  refine wl (ro_assign rfl) ?_
  refine wl_nil (x_then (hK1 _ _ ?_))
  clear hK1 K1
  refine forget [(0, _)] ⟨rfl, trivial⟩ (fun e => ?_)
  refine c_seq (fun K2 hK2 => ?_)
  refine c_reg ?_ -- region 1 syntaxm.go:238
  refine wl (ro_move rfl) ?_
  refine wl (ro_nilCheck rfl) ?_
  refine wl (ro_fieldAddr (k := 1) rfl fo_187_1) ?_
  refine wl (ro_loadB rfl sc_3 (hB) (rfl)) ?_
  refine wl (ro_assign rfl) ?_
  refine wl_nil (x_then (hK2 _ _ ?_))
  clear hK2 K2
  refine forget [(0, _), (3, _)] ⟨rfl, rfl, trivial⟩ (fun e => ?_)
  refine c_seq (fun K3 hK3 => ?_)
  refine c_reg ?_ -- region 2 syntaxm.go:239
  refine wl (ro_move rfl) ?_
  refine wl (ro_nilCheck rfl) ?_
  refine wl (ro_fieldAddr (k := 1) rfl fo_187_1) ?_
  refine wl (ro_loadB rfl sc_3 (hB) (rfl)) ?_
  refine wl (ro_arith rfl rfl rfl (Go.IntWalk.i64_in _ (by omega))) ?_
  refine wl (ro_nilCheck rfl) ?_
  refine wl (ro_fieldAddr (k := 1) rfl fo_187_1) ?_
  refine wl_put rfl rfl rfl sz_3 hB ((by simp)) (rfl) (fun w1 hB F1 => ?_)
  replace hF := hF.thenDrew.thenO F1 (by first | exact .inr (by omega) | exact .inl rfl | exact .inl (by assumption))
  refine wl_nil (x_then (hK3 _ _ ?_))
  clear hK3 K3
  refine forget [(0, _), (3, _)] ⟨rfl, rfl, trivial⟩ (fun e => ?_)
  refine c_seq (fun K4 hK4 => ?_)
  refine c_reg ?_ -- region 3 syntaxm.go:240
  refine wl (ro_move rfl) ?_
  refine wl_call rfl en_115 (is115 (i := i + 1) (c := 94) hB) ?_
  rintro _ w2 ⟨rfl, F2⟩
  replace hF := hF.thenDrew.thenN F2
  replace hB := F2.blkN hB
  refine wl (ro_assign rfl) ?_
  refine wl_nil (x_then (hK4 _ _ ?_))
  clear hK4 K4
  refine c_mid (fun a' w' => Blk w'.heap rb (rc p (clsI p i) VN g 0 0) 187 ∧ Fram (one rb) w w' ∧ ∃ e, a' = Fr 169 (upds e [(0, ptr rb), (3, i64c i), (4, .bool (clsN p i))]) []) ?_ ?_
  · skip
    refine c_seq (fun K5 hK5 => ?_)
    refine c_reg ?_ -- region 4 syntaxm.go:241
    refine wl (ro_move rfl) ?_
    refine wl_nil (x_then (hK5 _ _ ?_))
    clear hK5 K5
    refine wc_cond rfl (fun hc26 => ?_) (fun hc26 => ?_)
    · try simp only [decide_eq_true_eq, decide_eq_false_iff_not, Bool.not_eq_true', Bool.not_eq_false', Bool.not_eq_eq_eq_not, Bool.not_true, Bool.not_false, beq_iff_eq, bne_iff_ne, ne_eq, beq_eq_false_iff_ne, bne_eq_false_iff_eq, gt_iff_lt, ge_iff_le, Int.not_lt, Int.not_le] at hc26
      have hN : clsN p i = true := by unfold clsN; exact decide_eq_true hc26
      have hI : clsI p i = i + 2 := by unfold clsI; rw [if_pos hc26]
      have hlt2 := get_lt hc26
      refine c_reg ?_ -- region 5 syntaxm.go:242
      refine wl (ro_move rfl) ?_
      refine wl (ro_nilCheck rfl) ?_
      refine wl (ro_fieldAddr (k := 1) rfl fo_187_1) ?_
      refine wl (ro_loadB rfl sc_3 (hB) (rfl)) ?_
      refine wl (ro_arith rfl rfl rfl (Go.IntWalk.i64_in _ (by omega))) ?_
      refine wl (ro_nilCheck rfl) ?_
      refine wl (ro_fieldAddr (k := 1) rfl fo_187_1) ?_
      refine wl_put rfl rfl rfl sz_3 hB ((by simp)) (rfl) (fun w3 hB F3 => ?_)
      replace hF := hF.thenDrew.thenO F3 (by first | exact .inr (by omega) | exact .inl rfl | exact .inl (by assumption))
      refine wl_nil (x_then ?_)
      exact ⟨by rw [hI]; exact hB, hF, kp _ ⟨rfl, rfl, rfl, trivial⟩⟩
    · try simp only [decide_eq_true_eq, decide_eq_false_iff_not, Bool.not_eq_true', Bool.not_eq_false', Bool.not_eq_eq_eq_not, Bool.not_true, Bool.not_false, beq_iff_eq, bne_iff_ne, ne_eq, beq_eq_false_iff_ne, bne_eq_false_iff_eq, gt_iff_lt, ge_iff_le, Int.not_lt, Int.not_le] at hc26
      have hN : clsN p i = false := by unfold clsN; exact decide_eq_false hc26
      have hI : clsI p i = i + 1 := by unfold clsI; rw [if_neg hc26]
      refine c_skip (x_then ?_)
      exact ⟨by rw [hI]; exact hB, hF, kp _ ⟨rfl, rfl, rfl, trivial⟩⟩
  clear hB hF
  rintro a' w2 ⟨hB, hF, e, rfl⟩
  refine c_seq (fun K6 hK6 => ?_)
  refine c_reg ?_ -- region 6 syntaxm.go:244
  refine wl_new (ze_87) (fun sb w4 hbsb hZ F4 => ?_)
  have hbssb := Nat.le_trans hF.size hbsb
  have hnerbsb : rb < sb := Nat.lt_of_lt_of_le hB.lt hbsb
  replace hF := hF.thenDrew.thenN F4
  replace hB := F4.blkN hB
  refine wl_nil (x_then (hK6 _ _ ?_))
  clear hK6 K6
  refine forget [(0, _), (3, _), (4, _), (5, _)] ⟨rfl, rfl, rfl, rfl, trivial⟩ (fun e => ?_)
  refine c_seq (fun K7 hK7 => ?_)
  refine c_block ?_
  -- loop@r7: live slots [0, 3, 4, 5]
  refine c_loopG (fun m a' w' => ∃ (j Z ec q : Nat), m = (if ec = 0 then p.length - j + 1 else 0) ∧ Blk w'.heap rb (rc p j VN g ec q) 187 ∧ Blk w'.heap sb (setC Z) 87 ∧ j ≤ p.length ∧ ((ec = 0 ∧ q = 0 ∧ ∃ ff, clsF p i ff j Z = clsR p i) ∨ (ec ≠ 0 ∧ clsR p i = .error (ec, q))) ∧ Fram (one rb) w w' ∧ ∃ e, a' = Fr 169 (upds e [(0, ptr rb), (3, i64c i), (4, .bool (clsN p i)), (5, ptr sb)]) []) (p.length - clsI p i + 1) ⟨clsI p i, 0, 0, 0, (if_pos rfl).symm, hB, by rw [setC_zero]; exact hZ, hIl, .inl ⟨rfl, rfl, p.length + 1, rfl⟩, hF, kp _ ⟨rfl, rfl, rfl, rfl, trivial⟩⟩ ?_
  clear hB hF hZ
  rintro m a' w3 ⟨j, Z, ec, q, rfl, hB, hZ, hj, hst, hF, e, rfl⟩
  refine c_seq (fun K8 hK8 => ?_)
  refine c_seq (fun K9 hK9 => ?_)
  refine c_reg ?_ -- region 7 syntaxm.go:245
  refine wl (ro_move rfl) ?_
  refine wl (ro_nilCheck rfl) ?_
  refine wl (ro_fieldAddr (k := 4) rfl fo_187_4) ?_
  refine wl (ro_loadB rfl sc_53 (hB) (rfl)) ?_
  refine wl (ro_cmp (r := decide (ec = 0)) rfl rfl (congrArg some (beqc ec 0))) ?_
  refine wl_nil (x_then (hK9 _ _ ?_))
  clear hK9 K9
  refine wc_cond rfl (fun hc38 => ?_) (fun hc38 => ?_)
  · try simp only [decide_eq_true_eq, decide_eq_false_iff_not, Bool.not_eq_true', Bool.not_eq_false', Bool.not_eq_eq_eq_not, Bool.not_true, Bool.not_false, beq_iff_eq, bne_iff_ne, ne_eq, beq_eq_false_iff_ne, bne_eq_false_iff_eq, gt_iff_lt, ge_iff_le, Int.not_lt, Int.not_le] at hc38
    obtain ⟨rfl, hcl⟩ : q = 0 ∧ ∃ ff, clsF p i ff j Z = clsR p i := by rcases hst with h | h; exact h.2; exact absurd hc38 h.1
    clear hst
    subst hc38
    obtain ⟨ff, hcl⟩ := hcl
    obtain ⟨ff, rfl⟩ : ∃ k, ff = k + 1 := by
      cases ff with
      | zero => exact absurd rfl (hRe (0, 0) hcl.symm)
      | succ k => exact ⟨k, rfl⟩
    unfold clsF at hcl
    refine c_skip (x_then (hK8 _ _ ?_))
    clear hK8 K8
    refine c_block ?_
    refine c_seq (fun K10 hK10 => ?_)
    refine c_seq (fun K11 hK11 => ?_)
    rcases hcc : p[j]? with _ | c
    · skip
      have hge : p.length ≤ j := List.getElem?_eq_none_iff.1 hcc
      rw [hcc] at hcl
      simp only at hcl
      refine c_pi [(0, false), (1, false), (2, false), (3, false), (4, false), (5, false), (6, false), (7, false), (8, false), (9, false)] (SameH _) mixed (by kernel_rfl) rfl (by kernel_rfl) (po_then (po_then (po_blk (po_then (po_blk (po_then (po_bp))))))) (sameH_now _ _) ?_ -- region 8 syntaxm.go:246
      refine pi_ro rfl (fun w hS => ro_move rfl) ?_
      refine pi_ro rfl (fun w hS => ro_nilCheck rfl) ?_
      refine pi_ro rfl (fun w hS => ro_fieldAddr (k := 1) rfl fo_187_1) ?_
      refine pi_ro rfl (fun w hS => ro_loadB rfl sc_3 (Blk.of_heap hB hS) (rfl)) ?_
      refine pi_ro rfl (fun w hS => ro_move rfl) ?_
      refine pi_ro rfl (fun w hS => ro_nilCheck rfl) ?_
      refine pi_ro rfl (fun w hS => ro_fieldAddr (k := 0) rfl fo_187_0) ?_
      refine pi_ro rfl (fun w hS => ro_loadB rfl sc_9 (Blk.of_heap hB hS) (rfl)) ?_
      refine pi_ro rfl (fun w hS => ro_lenS rfl st_9) ?_
      refine pi_ro rfl (fun w hS => ro_cmp (r := true) rfl rfl (congrArg some (decide_eq_true (by omega)))) ?_
      refine pi_nil (x_then (hK11 _ _ ?_))
      clear hK11 K11
      refine wc_condT rfl ?_
      refine c_seq (fun K12 hK12 => ?_)
      refine c_reg ?_ -- region 9 syntaxm.go:247
      refine wl (ro_move rfl) ?_
      refine wl (ro_move rfl) ?_
      refine wl_call rfl en_90 (fail90 hB) ?_
      rintro _ w9 ⟨rfl, hB, F9⟩
      replace hF := hF.thenDrew.trans F9
      have hfin : ClM w rb p i n g T VN (icv (-1)) w9 ∧ Fram (mfr rb VN) w w9 := ⟨hXe (2, i) _ _ hcl.symm rfl (by subst hVN; exact ⟨j, aV, n, cV, g, by omega, hB⟩), hF.toM⟩
      refine wl (ro_assign rfl) ?_
      refine wl_nil (x_then (hK12 _ _ ?_))
      clear hK12 K12
      refine c_ret (x_thenR (x_blkR (x_thenR (x_blkR (x_thenR ?_)))))
      refine bp_ret Tryz.results152 rfl ?_
      exact hfin
    · skip
      have hlt := get_lt hcc
      rw [hcc] at hcl
      refine c_pi [(0, false), (1, false), (2, false), (3, false), (4, false), (5, false), (6, false), (7, false), (8, false), (9, false)] (SameH _) mixed (by kernel_rfl) rfl (by kernel_rfl) (po_then (po_then (po_blk (po_then (po_blk (po_then (po_bp))))))) (sameH_now _ _) ?_ -- region 8 syntaxm.go:246
      refine pi_ro rfl (fun w hS => ro_move rfl) ?_
      refine pi_ro rfl (fun w hS => ro_nilCheck rfl) ?_
      refine pi_ro rfl (fun w hS => ro_fieldAddr (k := 1) rfl fo_187_1) ?_
      refine pi_ro rfl (fun w hS => ro_loadB rfl sc_3 (Blk.of_heap hB hS) (rfl)) ?_
      refine pi_ro rfl (fun w hS => ro_move rfl) ?_
      refine pi_ro rfl (fun w hS => ro_nilCheck rfl) ?_
      refine pi_ro rfl (fun w hS => ro_fieldAddr (k := 0) rfl fo_187_0) ?_
      refine pi_ro rfl (fun w hS => ro_loadB rfl sc_9 (Blk.of_heap hB hS) (rfl)) ?_
      refine pi_ro rfl (fun w hS => ro_lenS rfl st_9) ?_
      refine pi_ro rfl (fun w hS => ro_cmp (r := false) rfl rfl (congrArg some (decide_eq_false (by omega)))) ?_
      refine pi_nil (x_then (hK11 _ _ ?_))
      clear hK11 K11
      refine wc_condF rfl ?_
      refine c_skip (x_then (hK10 _ _ ?_))
      clear hK10 K10
      refine c_seq (fun K13 hK13 => ?_)
      refine c_seq (fun K14 hK14 => ?_)
      refine c_pi [(0, false), (1, false), (2, false), (3, false), (4, false), (5, false), (6, false), (7, false), (8, false), (9, false)] (SameH _) mixed (by kernel_rfl) rfl (by kernel_rfl) (po_then (po_then (po_blk (po_then (po_blk (po_then (po_bp))))))) (sameH_now _ _) ?_ -- region 10 syntaxm.go:249
      refine pi_ro rfl (fun w hS => ro_move rfl) ?_
      refine pi_ro rfl (fun w hS => ro_nilCheck rfl) ?_
      refine pi_ro rfl (fun w hS => ro_fieldAddr (k := 0) rfl fo_187_0) ?_
      refine pi_ro rfl (fun w hS => ro_loadB rfl sc_9 (Blk.of_heap hB hS) (rfl)) ?_
      refine pi_ro rfl (fun w hS => ro_move rfl) ?_
      refine pi_ro rfl (fun w hS => ro_nilCheck rfl) ?_
      refine pi_ro rfl (fun w hS => ro_fieldAddr (k := 1) rfl fo_187_1) ?_
      refine pi_ro rfl (fun w hS => ro_loadB rfl sc_3 (Blk.of_heap hB hS) (rfl)) ?_
      refine pi_ro rfl (fun w hS => ro_indexS rfl rfl st_9 (rfl) (hcc)) ?_
      refine pi_ro rfl (fun w hS => ro_cmp (r := decide (c = 93)) rfl rfl (congrArg some (u8eq c 93))) ?_
      refine pi_nil (x_then (hK14 _ _ ?_))
      clear hK14 K14
      refine wc_cond rfl (fun hc61 => ?_) (fun hc61 => ?_)
      · try simp only [decide_eq_true_eq, decide_eq_false_iff_not, Bool.not_eq_true', Bool.not_eq_false', Bool.not_eq_eq_eq_not, Bool.not_true, Bool.not_false, beq_iff_eq, bne_iff_ne, ne_eq, beq_eq_false_iff_ne, bne_eq_false_iff_eq, gt_iff_lt, ge_iff_le, Int.not_lt, Int.not_le] at hc61
        subst hc61
        simp only [if_true] at hcl
        refine c_exit (x_thenX (x_blkY rfl (x_thenX (x_blkX (x_then (hK7 _ _ ?_))))))
        clear hK13 K13 hK7 K7
        refine forget [(0, _), (4, _), (5, _)] ⟨rfl, rfl, rfl, trivial⟩ (fun e => ?_)
        refine c_seq (fun K15 hK15 => ?_)
        refine c_reg ?_ -- region 20 syntaxm.go:264
        refine wl (ro_move rfl) ?_
        refine wl (ro_nilCheck rfl) ?_
        refine wl (ro_fieldAddr (k := 1) rfl fo_187_1) ?_
        refine wl (ro_loadB rfl sc_3 (hB) (rfl)) ?_
        refine wl (ro_arith rfl rfl rfl (Go.IntWalk.i64_in _ (by omega))) ?_
        refine wl (ro_nilCheck rfl) ?_
        refine wl (ro_fieldAddr (k := 1) rfl fo_187_1) ?_
        refine wl_put rfl rfl rfl sz_3 hB ((by simp)) (rfl) (fun w5 hB F5 => ?_)
        replace hF := hF.thenDrew.thenO F5 (by first | exact .inr (by omega) | exact .inl rfl | exact .inl (by assumption))
        replace hZ := F5.blkO hZ (by omega)
        refine wl_nil (x_then (hK15 _ _ ?_))
        clear hK15 K15
        refine c_seq (fun K16 hK16 => ?_)
        refine c_seq (fun K17 hK17 => ?_)
        refine c_reg ?_ -- region 21 syntaxm.go:265
        refine wl (ro_move rfl) ?_
        refine wl_nil (x_then (hK17 _ _ ?_))
        clear hK17 K17
        refine wc_cond rfl (fun hc163 => ?_) (fun hc163 => ?_)
        · try simp only [decide_eq_true_eq, decide_eq_false_iff_not, Bool.not_eq_true', Bool.not_eq_false', Bool.not_eq_eq_eq_not, Bool.not_true, Bool.not_false, beq_iff_eq, bne_iff_ne, ne_eq, beq_eq_false_iff_ne, bne_eq_false_iff_eq, gt_iff_lt, ge_iff_le, Int.not_lt, Int.not_le] at hc163
          have hNN : clsN p i = true := hc163
          refine c_reg ?_ -- region 22 syntaxm.go:266
          refine wl (ro_loadAggB rfl ag_87 (hZ) rfl rfl) ?_
          refine wl_call rfl en_129 (Not129) ?_
          rintro _ w6 ⟨rfl, F6⟩
          replace hF := hF.thenDrew.thenN F6
          replace hB := F6.blkN hB
          replace hZ := F6.blkN hZ
          refine wl_puta rfl rfl (by simp [Value.oneCell', i64c, u64c, u8c, ptr]) sz_87 (rfl) hZ ((by simp)) (rfl) (fun w7 hZ F7 => ?_)
          replace hF := hF.thenDrew.thenO F7 (by first | exact .inr (by omega) | exact .inl rfl | exact .inl (by assumption))
          replace hB := F7.blkO hB (by omega)
          refine wl_nil (x_then (hK16 _ _ ?_))
          clear hK16 K16
          refine forget [(0, _), (5, _)] ⟨rfl, rfl, trivial⟩ (fun e => ?_)
          refine c_seq (fun K18 hK18 => ?_)
          refine c_reg ?_ -- region 23 syntaxm.go:268
          refine wl (ro_move rfl) ?_
          refine wl (ro_loadAggB rfl ag_87 (hZ) rfl rfl) ?_
          refine wl_call rfl en_154 (set154 (Z := cpl Z) (M.at (i' := j + 1) hB hF (by omega))) ?_
          rintro v w9 ⟨hP, F9⟩
          have hfin : ClM w rb p i n g T VN v w9 ∧ Fram (mfr rb VN) w w9 := ⟨hXo Z _ _ _ hcl.symm (by rw [hNN]; exact hP.after hF), hF.toM.mfrM F9 (nob.refl _ _)⟩
          refine wl (ro_assign rfl) ?_
          refine wl_nil (x_then (hK18 _ _ ?_))
          clear hK18 K18
          refine c_ret ?_
          refine bp_ret Tryz.results152 rfl ?_
          exact hfin
        · try simp only [decide_eq_true_eq, decide_eq_false_iff_not, Bool.not_eq_true', Bool.not_eq_false', Bool.not_eq_eq_eq_not, Bool.not_true, Bool.not_false, beq_iff_eq, bne_iff_ne, ne_eq, beq_eq_false_iff_ne, bne_eq_false_iff_eq, gt_iff_lt, ge_iff_le, Int.not_lt, Int.not_le] at hc163
          have hNN : clsN p i = false := hc163
          refine c_skip (x_then (hK16 _ _ ?_))
          clear hK16 K16
          refine forget [(0, _), (5, _)] ⟨rfl, rfl, trivial⟩ (fun e => ?_)
          refine c_seq (fun K19 hK19 => ?_)
          refine c_reg ?_ -- region 23 syntaxm.go:268
          refine wl (ro_move rfl) ?_
          refine wl (ro_loadAggB rfl ag_87 (hZ) rfl rfl) ?_
          refine wl_call rfl en_154 (set154 (Z := Z) (M.at (i' := j + 1) hB hF (by omega))) ?_
          rintro v w9 ⟨hP, F9⟩
          have hfin : ClM w rb p i n g T VN v w9 ∧ Fram (mfr rb VN) w w9 := ⟨hXo Z _ _ _ hcl.symm (by rw [hNN]; exact hP.after hF), hF.toM.mfrM F9 (nob.refl _ _)⟩
          refine wl (ro_assign rfl) ?_
          refine wl_nil (x_then (hK19 _ _ ?_))
          clear hK19 K19
          refine c_ret ?_
          refine bp_ret Tryz.results152 rfl ?_
          exact hfin
      · try simp only [decide_eq_true_eq, decide_eq_false_iff_not, Bool.not_eq_true', Bool.not_eq_false', Bool.not_eq_eq_eq_not, Bool.not_true, Bool.not_false, beq_iff_eq, bne_iff_ne, ne_eq, beq_eq_false_iff_ne, bne_eq_false_iff_eq, gt_iff_lt, ge_iff_le, Int.not_lt, Int.not_le] at hc61
        simp only [hc61, if_false] at hcl
        refine c_skip (x_then (hK13 _ _ ?_))
        clear hK13 K13
        refine forget [(0, _), (3, _), (4, _), (5, _)] ⟨rfl, rfl, rfl, rfl, trivial⟩ (fun e => ?_)
        refine c_seq (fun K20 hK20 => ?_)
        refine c_reg ?_ -- region 11 syntaxm.go:252
        refine wl (ro_move rfl) ?_
        refine wl_call rfl en_157 (item157 hB hcc hpl) ?_
        rintro r w4 ⟨⟨Z4, b4, o4, ec4, q4, k4, rfl, hB, hk4, hP4⟩, F4⟩
        replace hF := hF.thenDrew.trans F4
        replace hZ := F4.blkO hZ (by omega)
        refine wl (ro_move rfl) ?_
        refine wl (ro_extract rfl rfl) ?_
        refine wl (ro_extract rfl rfl) ?_
        refine wl (ro_extract rfl rfl) ?_
        refine wl_new (ze_87) (fun ab w8 hbab hA F8 => ?_)
        have hbsab := Nat.le_trans hF.size hbab
        have hnerbab : rb < ab := Nat.lt_of_lt_of_le hB.lt hbab
        have hnesbab : sb < ab := Nat.lt_of_lt_of_le hZ.lt hbab
        replace hF := hF.thenDrew.thenN F8
        replace hB := F8.blkN hB
        replace hZ := F8.blkN hZ
        refine wl_puta rfl rfl (by simp [Value.oneCell', i64c, u64c, u8c, ptr]) sz_87 (rfl) hA ((by simp)) (rfl) (fun w9 hA F9 => ?_)
        replace hF := hF.thenDrew.thenO F9 (by first | exact .inr (by omega) | exact .inl rfl | exact .inl (by assumption))
        replace hB := F9.blkO hB (by omega)
        replace hZ := F9.blkO hZ (by omega)
        have hcase : (ec4 ≠ 0 ∧ item p j c = .error (ec4, q4)) ∨ (ec4 = 0 ∧ q4 = 0 ∧ item p j c = .ok (Z4, o4, b4.toNat, k4) ∧ p[k4]? = some 45 ∧ ∃ c, p[k4 + 1]? = some c ∧ c ≠ 93) ∨ (ec4 = 0 ∧ q4 = 0 ∧ item p j c = .ok (Z4, o4, b4.toNat, k4) ∧ p[k4]? = some 45 ∧ p[k4 + 1]? = some 93) ∨ (ec4 = 0 ∧ q4 = 0 ∧ item p j c = .ok (Z4, o4, b4.toNat, k4) ∧ ∃ c, p[k4]? = some c ∧ c ≠ 45 ∧ k4 + 1 < p.length) ∨ (ec4 = 0 ∧ q4 = 0 ∧ item p j c = .ok (Z4, o4, b4.toNat, k4) ∧ p.length ≤ k4 + 1) := by
          rcases hP4 with ⟨h1, h2, h3⟩ | h
          · refine .inr ?_
            by_cases h4 : k4 + 1 < p.length
            · have e1 : p[k4]? = some (p[k4]'(by omega)) := List.getElem?_eq_getElem (by omega)
              have e2 : p[k4 + 1]? = some (p[k4 + 1]'h4) := List.getElem?_eq_getElem h4
              by_cases h5 : p[k4]'(by omega) = 45
              · rw [h5] at e1
                by_cases h6 : p[k4 + 1]'h4 = 93
                · rw [h6] at e2; exact .inr (.inl ⟨h1, h2, h3, e1, e2⟩)
                · exact .inl ⟨h1, h2, h3, e1, _, e2, h6⟩
              · exact .inr (.inr (.inl ⟨h1, h2, h3, _, e1, h5, h4⟩))
            · exact .inr (.inr (.inr ⟨h1, h2, h3, by omega⟩))
          · exact .inl h
        clear hP4
        refine wl (ro_assign rfl) ?_
        refine wl (ro_assign rfl) ?_
        refine wl_nil (x_then (hK20 _ _ ?_))
        clear hK20 K20
        refine c_seq (fun K21 hK21 => ?_)
        refine c_seq (fun K22 hK22 => ?_)
        rcases hcase with ⟨he4, hX4⟩ | ⟨rfl, rfl, hX4, h1, c9, h2, hc9⟩ | ⟨rfl, rfl, hX4, h1, h2⟩ | ⟨rfl, rfl, hX4, c9, h1, hc9, h2⟩ | ⟨rfl, rfl, hX4, h2⟩
        · skip
          rw [hX4] at hcl
          simp only at hcl
          refine c_pi [(0, false), (1, false), (2, false), (3, false), (4, false), (5, false), (6, false), (7, false), (8, false), (9, false), (10, false), (11, false), (12, false), (13, false), (14, false), (15, false), (16, false), (17, false), (18, false), (19, false), (20, false), (21, false), (22, false), (23, false), (24, false), (25, false), (26, false), (27, false), (28, false), (29, false), (30, false), (31, false), (32, false), (33, false), (34, false), (35, false), (36, false), (37, false), (38, false), (39, false), (40, false), (41, false), (42, false)] (SameH _) mixed (by kernel_rfl) rfl (by kernel_rfl) (po_then (po_then (po_blk (po_then (po_blk (po_then (po_bp))))))) (sameH_now _ _) ?_ -- region 12 syntaxm.go:253
          refine pi_ro rfl (fun w hS => ro_move rfl) ?_
          refine pi_ro rfl (fun w hS => ro_nilCheck rfl) ?_
          refine pi_ro rfl (fun w hS => ro_fieldAddr (k := 4) rfl fo_187_4) ?_
          refine pi_ro rfl (fun w hS => ro_loadB rfl sc_53 (Blk.of_heap hB hS) (rfl)) ?_
          refine pi_ro rfl (fun w hS => ro_cmp (r := false) rfl rfl (congrArg some ((beqc ec4 0).trans (decide_eq_false he4)))) ?_
          refine pi_ro rfl (fun w hS => ro_move rfl) ?_
          refine pi_gno rfl rfl ?_
          refine pi_gno rfl rfl ?_
          refine pi_gno rfl rfl ?_
          refine pi_gno rfl rfl ?_
          refine pi_gno rfl rfl ?_
          refine pi_gno rfl rfl ?_
          refine pi_gno rfl rfl ?_
          refine pi_gno rfl rfl ?_
          refine pi_gno rfl rfl ?_
          refine pi_gno rfl rfl ?_
          refine pi_gno rfl rfl ?_
          refine pi_ro rfl (fun w hS => ro_pick rfl rfl rfl) ?_
          refine pi_ro rfl (fun w hS => ro_move rfl) ?_
          refine pi_gno rfl rfl ?_
          refine pi_gno rfl rfl ?_
          refine pi_gno rfl rfl ?_
          refine pi_gno rfl rfl ?_
          refine pi_gno rfl rfl ?_
          refine pi_gno rfl rfl ?_
          refine pi_gno rfl rfl ?_
          refine pi_gno rfl rfl ?_
          refine pi_gno rfl rfl ?_
          refine pi_gno rfl rfl ?_
          refine pi_ro rfl (fun w hS => ro_pick rfl rfl rfl) ?_
          refine pi_ro rfl (fun w hS => ro_move rfl) ?_
          refine pi_gno rfl rfl ?_
          refine pi_gno rfl rfl ?_
          refine pi_gno rfl rfl ?_
          refine pi_gno rfl rfl ?_
          refine pi_gno rfl rfl ?_
          refine pi_gno rfl rfl ?_
          refine pi_gno rfl rfl ?_
          refine pi_gno rfl rfl ?_
          refine pi_gno rfl rfl ?_
          refine pi_gno rfl rfl ?_
          refine pi_gno rfl rfl ?_
          refine pi_ro rfl (fun w hS => ro_pick rfl rfl rfl) ?_
          refine pi_nil (x_then (hK22 _ _ ?_))
          clear hK22 K22
          refine wc_condF rfl ?_
          refine c_skip (x_then (hK21 _ _ ?_))
          clear hK21 K21
          refine c_reg ?_ -- region 19 syntaxm.go:262
          refine wl (ro_loadAggB rfl ag_87 (hZ) rfl rfl) ?_
          refine wl (ro_loadAggB rfl ag_87 (hA) rfl rfl) ?_
          refine wl_call rfl en_140 (Join140) ?_
          rintro _ w10 ⟨rfl, F10⟩
          replace hF := hF.thenDrew.thenN F10
          replace hB := F10.blkN hB
          replace hZ := F10.blkN hZ
          replace hA := F10.blkN hA
          refine wl_puta rfl rfl (by simp [Value.oneCell', i64c, u64c, u8c, ptr]) sz_87 (rfl) hZ ((by simp)) (rfl) (fun w11 hZ F11 => ?_)
          replace hF := hF.thenDrew.thenO F11 (by first | exact .inr (by omega) | exact .inl rfl | exact .inl (by assumption))
          replace hB := F11.blkO hB (by omega)
          replace hA := F11.blkO hA (by omega)
          refine wl_nil (x_blk (x_then ?_))
          exact ⟨0, by rw [if_pos rfl]; omega, k4, _, ec4, q4, (if_neg he4).symm, hB, hZ, hk4, .inr ⟨he4, hcl.symm⟩, hF, kp _ ⟨rfl, rfl, rfl, rfl, trivial⟩⟩
        · skip
          have hlt9 := get_lt h2
          have hij := (item_ok hlt hX4).2.2
          rw [hX4] at hcl
          simp only at hcl
          rw [if_pos ⟨h1, by rw [h2]; simp, by rw [h2]; simpa using hc9⟩, h2] at hcl
          simp only [Option.getD_some] at hcl
          refine c_pi [(0, false), (1, false), (2, false), (3, false), (4, false), (5, false), (6, false), (7, false), (8, false), (9, false), (10, false), (11, false), (12, false), (13, false), (14, false), (15, false), (16, false), (17, false), (18, false), (19, false), (20, false), (21, false), (22, false), (23, false), (24, false), (25, false), (26, false), (27, false), (28, false), (29, false), (30, false), (31, false), (32, false), (33, false), (34, false), (35, false), (36, false), (37, false), (38, false), (39, false), (40, false), (41, false), (42, false)] (SameH _) mixed (by kernel_rfl) rfl (by kernel_rfl) (po_then (po_then (po_blk (po_then (po_blk (po_then (po_bp))))))) (sameH_now _ _) ?_ -- region 12 syntaxm.go:253
          refine pi_ro rfl (fun w hS => ro_move rfl) ?_
          refine pi_ro rfl (fun w hS => ro_nilCheck rfl) ?_
          refine pi_ro rfl (fun w hS => ro_fieldAddr (k := 4) rfl fo_187_4) ?_
          refine pi_ro rfl (fun w hS => ro_loadB rfl sc_53 (Blk.of_heap hB hS) (rfl)) ?_
          refine pi_ro rfl (fun w hS => ro_cmp (r := true) rfl rfl rfl) ?_
          refine pi_ro rfl (fun w hS => ro_move rfl) ?_
          refine pi_gyes rfl rfl (fun w hS => ro_move rfl) ?_
          refine pi_gyes rfl rfl (fun w hS => ro_nilCheck rfl) ?_
          refine pi_gyes rfl rfl (fun w hS => ro_fieldAddr (k := 1) rfl fo_187_1) ?_
          refine pi_gyes rfl rfl (fun w hS => ro_loadB rfl sc_3 (Blk.of_heap hB hS) (rfl)) ?_
          refine pi_gyes rfl rfl (fun w hS => ro_arith rfl rfl rfl (Go.IntWalk.i64_in _ (by omega))) ?_
          refine pi_gyes rfl rfl (fun w hS => ro_move rfl) ?_
          refine pi_gyes rfl rfl (fun w hS => ro_nilCheck rfl) ?_
          refine pi_gyes rfl rfl (fun w hS => ro_fieldAddr (k := 0) rfl fo_187_0) ?_
          refine pi_gyes rfl rfl (fun w hS => ro_loadB rfl sc_9 (Blk.of_heap hB hS) (rfl)) ?_
          refine pi_gyes rfl rfl (fun w hS => ro_lenS rfl st_9) ?_
          refine pi_gyes rfl rfl (fun w hS => ro_cmp (r := true) rfl rfl (congrArg some (decide_eq_true (by omega)))) ?_
          refine pi_ro rfl (fun w hS => ro_pick rfl rfl rfl) ?_
          refine pi_ro rfl (fun w hS => ro_move rfl) ?_
          refine pi_gyes rfl rfl (fun w hS => ro_move rfl) ?_
          refine pi_gyes rfl rfl (fun w hS => ro_nilCheck rfl) ?_
          refine pi_gyes rfl rfl (fun w hS => ro_fieldAddr (k := 0) rfl fo_187_0) ?_
          refine pi_gyes rfl rfl (fun w hS => ro_loadB rfl sc_9 (Blk.of_heap hB hS) (rfl)) ?_
          refine pi_gyes rfl rfl (fun w hS => ro_move rfl) ?_
          refine pi_gyes rfl rfl (fun w hS => ro_nilCheck rfl) ?_
          refine pi_gyes rfl rfl (fun w hS => ro_fieldAddr (k := 1) rfl fo_187_1) ?_
          refine pi_gyes rfl rfl (fun w hS => ro_loadB rfl sc_3 (Blk.of_heap hB hS) (rfl)) ?_
          refine pi_gyes rfl rfl (fun w hS => ro_indexS rfl rfl st_9 (rfl) (h1)) ?_
          refine pi_gyes rfl rfl (fun w hS => ro_cmp (r := true) rfl rfl rfl) ?_
          refine pi_ro rfl (fun w hS => ro_pick rfl rfl rfl) ?_
          refine pi_ro rfl (fun w hS => ro_move rfl) ?_
          refine pi_gyes rfl rfl (fun w hS => ro_move rfl) ?_
          refine pi_gyes rfl rfl (fun w hS => ro_nilCheck rfl) ?_
          refine pi_gyes rfl rfl (fun w hS => ro_fieldAddr (k := 0) rfl fo_187_0) ?_
          refine pi_gyes rfl rfl (fun w hS => ro_loadB rfl sc_9 (Blk.of_heap hB hS) (rfl)) ?_
          refine pi_gyes rfl rfl (fun w hS => ro_move rfl) ?_
          refine pi_gyes rfl rfl (fun w hS => ro_nilCheck rfl) ?_
          refine pi_gyes rfl rfl (fun w hS => ro_fieldAddr (k := 1) rfl fo_187_1) ?_
          refine pi_gyes rfl rfl (fun w hS => ro_loadB rfl sc_3 (Blk.of_heap hB hS) (rfl)) ?_
          refine pi_gyes rfl rfl (fun w hS => ro_arith rfl rfl rfl (Go.IntWalk.i64_in _ (by omega))) ?_
          refine pi_gyes rfl rfl (fun w hS => ro_indexS rfl rfl st_9 ((show _ = ((k4 + 1 : Nat) : Int) by omega)) (h2)) ?_
          refine pi_gyes rfl rfl (fun w hS => ro_cmp (r := true) rfl rfl (congrArg some ((u8ne c9 93).trans (decide_eq_true hc9)))) ?_
          refine pi_ro rfl (fun w hS => ro_pick rfl rfl rfl) ?_
          refine pi_nil (x_then (hK22 _ _ ?_))
          clear hK22 K22
          refine wc_condT rfl ?_
          refine c_seq (fun K23 hK23 => ?_)
          refine c_reg ?_ -- region 13 syntaxm.go:254
          refine wl (ro_move rfl) ?_
          refine wl (ro_nilCheck rfl) ?_
          refine wl (ro_fieldAddr (k := 1) rfl fo_187_1) ?_
          refine wl (ro_loadB rfl sc_3 (hB) (rfl)) ?_
          refine wl (ro_assign rfl) ?_
          refine wl_nil (x_then (hK23 _ _ ?_))
          clear hK23 K23
          refine forget [(0, _), (3, _), (4, _), (5, _), (6, _), (7, _), (8, _), (9, _), (74, _), (75, _), (76, _), (77, _), (78, _), (79, _), (80, _), (81, _), (82, _), (83, _), (84, _), (87, _), (88, _), (89, _), (90, _), (91, _), (92, _), (93, _), (94, _), (95, _), (96, _), (99, _), (100, _), (101, _), (102, _), (103, _), (104, _), (105, _), (106, _), (107, _), (108, _), (109, _)] ⟨rfl, rfl, rfl, rfl, rfl, rfl, rfl, rfl, rfl, rfl, rfl, rfl, rfl, rfl, rfl, rfl, rfl, rfl, rfl, rfl, rfl, rfl, rfl, rfl, rfl, rfl, rfl, rfl, rfl, rfl, rfl, rfl, rfl, rfl, rfl, rfl, rfl, rfl, rfl, rfl, trivial⟩ (fun e => ?_)
          refine c_seq (fun K24 hK24 => ?_)
          refine c_reg ?_ -- region 14 syntaxm.go:255
          refine wl (ro_move rfl) ?_
          refine wl (ro_nilCheck rfl) ?_
          refine wl (ro_fieldAddr (k := 1) rfl fo_187_1) ?_
          refine wl (ro_loadB rfl sc_3 (hB) (rfl)) ?_
          refine wl (ro_arith rfl rfl rfl (Go.IntWalk.i64_in _ (by omega))) ?_
          refine wl (ro_nilCheck rfl) ?_
          refine wl (ro_fieldAddr (k := 1) rfl fo_187_1) ?_
          refine wl_put rfl rfl rfl sz_3 hB ((by simp)) (rfl) (fun w12 hB F12 => ?_)
          replace hF := hF.thenDrew.thenO F12 (by first | exact .inr (by omega) | exact .inl rfl | exact .inl (by assumption))
          replace hZ := F12.blkO hZ (by omega)
          replace hA := F12.blkO hA (by omega)
          refine wl_nil (x_then (hK24 _ _ ?_))
          clear hK24 K24
          refine forget [(0, _), (3, _), (4, _), (5, _), (6, _), (7, _), (8, _), (9, _), (74, _), (75, _), (76, _), (77, _), (78, _), (79, _), (80, _), (81, _), (82, _), (83, _), (84, _), (87, _), (88, _), (89, _), (90, _), (91, _), (92, _), (93, _), (94, _), (95, _), (96, _), (99, _), (100, _), (101, _), (102, _), (103, _), (104, _), (105, _), (106, _), (107, _), (108, _), (109, _)] ⟨rfl, rfl, rfl, rfl, rfl, rfl, rfl, rfl, rfl, rfl, rfl, rfl, rfl, rfl, rfl, rfl, rfl, rfl, rfl, rfl, rfl, rfl, rfl, rfl, rfl, rfl, rfl, rfl, rfl, rfl, rfl, rfl, rfl, rfl, rfl, rfl, rfl, rfl, rfl, rfl, trivial⟩ (fun e => ?_)
          refine c_seq (fun K25 hK25 => ?_)
          refine c_reg ?_ -- region 15 syntaxm.go:256
          refine wl (ro_move rfl) ?_
          refine wl_call rfl en_157 (item157 (i := k4 + 1) hB h2 hpl) ?_
          rintro r w6 ⟨⟨Z6, b6, o6, ec6, q6, k6, rfl, hB, hk6, hP6⟩, F6⟩
          replace hF := hF.thenDrew.trans F6
          replace hZ := F6.blkO hZ (by omega)
          replace hA := F6.blkO hA (by omega)
          refine wl (ro_move rfl) ?_
          refine wl (ro_extract rfl rfl) ?_
          refine wl (ro_extract rfl rfl) ?_
          refine wl (ro_extract rfl rfl) ?_
          refine wl_new (ze_87) (fun cb w13 hbcb hC F13 => ?_)
          have hbscb := Nat.le_trans hF.size hbcb
          have hnerbcb : rb < cb := Nat.lt_of_lt_of_le hB.lt hbcb
          have hnesbcb : sb < cb := Nat.lt_of_lt_of_le hZ.lt hbcb
          have hneabcb : ab < cb := Nat.lt_of_lt_of_le hA.lt hbcb
          replace hF := hF.thenDrew.thenN F13
          replace hB := F13.blkN hB
          replace hZ := F13.blkN hZ
          replace hA := F13.blkN hA
          refine wl_puta rfl rfl (by simp [Value.oneCell', i64c, u64c, u8c, ptr]) sz_87 (rfl) hC ((by simp)) (rfl) (fun w14 hC F14 => ?_)
          replace hF := hF.thenDrew.thenO F14 (by first | exact .inr (by omega) | exact .inl rfl | exact .inl (by assumption))
          replace hB := F14.blkO hB (by omega)
          replace hZ := F14.blkO hZ (by omega)
          replace hA := F14.blkO hA (by omega)
          have hq16 : (ec6 ≠ 0 ∧ item p (k4 + 1) c9 = .error (ec6, q6)) ∨ (ec6 = 0 ∧ q6 = 0 ∧ item p (k4 + 1) c9 = .ok (Z6, o6, b6.toNat, k6) ∧ o4 = false) ∨ (ec6 = 0 ∧ q6 = 0 ∧ item p (k4 + 1) c9 = .ok (Z6, o6, b6.toNat, k6) ∧ o4 = true ∧ o6 = false) ∨ (ec6 = 0 ∧ q6 = 0 ∧ item p (k4 + 1) c9 = .ok (Z6, o6, b6.toNat, k6) ∧ o4 = true ∧ o6 = true ∧ b6.toNat < b4.toNat) ∨ (ec6 = 0 ∧ q6 = 0 ∧ item p (k4 + 1) c9 = .ok (Z6, o6, b6.toNat, k6) ∧ o4 = true ∧ o6 = true ∧ b4.toNat ≤ b6.toNat) := by
            rcases hP6 with ⟨h1, h2, h3⟩ | h
            · refine .inr ?_
              cases o4 with
              | false => exact .inl ⟨h1, h2, h3, rfl⟩
              | true =>
                cases o6 with
                | false => exact .inr (.inl ⟨h1, h2, h3, rfl, rfl⟩)
                | true =>
                  by_cases h : b6.toNat < b4.toNat
                  · exact .inr (.inr (.inl ⟨h1, h2, h3, rfl, rfl, h⟩))
                  · exact .inr (.inr (.inr ⟨h1, h2, h3, rfl, rfl, by omega⟩))
            · exact .inl h
          clear hP6
          refine wl (ro_assign rfl) ?_
          refine wl (ro_assign rfl) ?_
          refine wl_nil (x_then (hK25 _ _ ?_))
          clear hK25 K25
          refine c_seq (fun K26 hK26 => ?_)
          refine c_seq (fun K27 hK27 => ?_)
          rcases hq16 with ⟨he6, hX6⟩ | ⟨rfl, rfl, hX6, rfl⟩ | ⟨rfl, rfl, hX6, rfl, rfl⟩ | ⟨rfl, rfl, hX6, rfl, rfl, hbb⟩ | ⟨rfl, rfl, hX6, rfl, rfl, hbb⟩
          · skip
            rw [hX6] at hcl
            simp only at hcl
            refine c_reg ?_ -- region 16 syntaxm.go:257
            refine wl (ro_move rfl) ?_
            refine wl (ro_nilCheck rfl) ?_
            refine wl (ro_fieldAddr (k := 4) rfl fo_187_4) ?_
            refine wl (ro_loadB rfl sc_53 (hB) (rfl)) ?_
            refine wl (ro_cmp (r := false) rfl rfl (congrArg some ((beqc ec6 0).trans (decide_eq_false he6)))) ?_
            refine wl (ro_move rfl) ?_
            refine wlg_no rfl ?_
            refine wlg_no rfl ?_
            refine wlg_no rfl ?_
            refine wlg_no rfl ?_
            refine wlg_no rfl ?_
            refine wlg_no rfl ?_
            refine wlg_no rfl ?_
            refine wlg_no rfl ?_
            refine wlg_no rfl ?_
            refine wlg_no rfl ?_
            refine wlg_no rfl ?_
            refine wl (ro_pick rfl rfl rfl) ?_
            refine wl_nil (x_then (hK27 _ _ ?_))
            clear hK27 K27
            refine wc_condF rfl ?_
            refine c_skip (x_then (hK26 _ _ ?_))
            clear hK26 K26
            refine c_reg ?_ -- region 18 syntaxm.go:260
            refine wl (ro_loadAggB rfl ag_87 (hA) rfl rfl) ?_
            refine wl (ro_move rfl) ?_
            refine wl (ro_move rfl) ?_
            refine wl_call rfl en_158 (Span158 (lo := b4) (hi := b6)) ?_
            rintro _ w15 ⟨rfl, F15⟩
            replace hF := hF.thenDrew.thenN F15
            replace hB := F15.blkN hB
            replace hZ := F15.blkN hZ
            replace hA := F15.blkN hA
            replace hC := F15.blkN hC
            refine wl_puta rfl rfl (by simp [Value.oneCell', i64c, u64c, u8c, ptr]) sz_87 (rfl) hA ((by simp)) (rfl) (fun w16 hA F16 => ?_)
            replace hF := hF.thenDrew.thenO F16 (by first | exact .inr (by omega) | exact .inl rfl | exact .inl (by assumption))
            replace hB := F16.blkO hB (by omega)
            replace hZ := F16.blkO hZ (by omega)
            replace hC := F16.blkO hC (by omega)
            refine wl_nil (x_then (hK21 _ _ ?_))
            clear hK21 K21
            refine c_reg ?_ -- region 19 syntaxm.go:262
            refine wl (ro_loadAggB rfl ag_87 (hZ) rfl rfl) ?_
            refine wl (ro_loadAggB rfl ag_87 (hA) rfl rfl) ?_
            refine wl_call rfl en_140 (Join140) ?_
            rintro _ w17 ⟨rfl, F17⟩
            replace hF := hF.thenDrew.thenN F17
            replace hB := F17.blkN hB
            replace hZ := F17.blkN hZ
            replace hA := F17.blkN hA
            replace hC := F17.blkN hC
            refine wl_puta rfl rfl (by simp [Value.oneCell', i64c, u64c, u8c, ptr]) sz_87 (rfl) hZ ((by simp)) (rfl) (fun w18 hZ F18 => ?_)
            replace hF := hF.thenDrew.thenO F18 (by first | exact .inr (by omega) | exact .inl rfl | exact .inl (by assumption))
            replace hB := F18.blkO hB (by omega)
            replace hA := F18.blkO hA (by omega)
            replace hC := F18.blkO hC (by omega)
            refine wl_nil (x_blk (x_then ?_))
            exact ⟨0, by rw [if_pos rfl]; omega, k6, _, ec6, q6, (if_neg he6).symm, hB, hZ, hk6, .inr ⟨he6, hcl.symm⟩, hF, kp _ ⟨rfl, rfl, rfl, rfl, trivial⟩⟩
          · skip
            rw [hX6] at hcl
            simp only at hcl
            rw [if_neg (by simp)] at hcl
            refine c_reg ?_ -- region 16 syntaxm.go:257
            refine wl (ro_move rfl) ?_
            refine wl (ro_nilCheck rfl) ?_
            refine wl (ro_fieldAddr (k := 4) rfl fo_187_4) ?_
            refine wl (ro_loadB rfl sc_53 (hB) (rfl)) ?_
            refine wl (ro_cmp (r := true) rfl rfl rfl) ?_
            refine wl (ro_move rfl) ?_
            refine wlg_yes rfl (ro_move rfl) ?_
            refine wlg_yes rfl (ro_not rfl) ?_
            refine wlg_yes rfl (ro_move rfl) ?_
            refine wlg_no rfl ?_
            refine wlg_no rfl ?_
            refine wlg_yes rfl (ro_pick rfl rfl rfl) ?_
            refine wlg_yes rfl (ro_move rfl) ?_
            refine wlg_no rfl ?_
            refine wlg_no rfl ?_
            refine wlg_no rfl ?_
            refine wlg_yes rfl (ro_pick rfl rfl rfl) ?_
            refine wl (ro_pick rfl rfl rfl) ?_
            refine wl_nil (x_then (hK27 _ _ ?_))
            clear hK27 K27
            refine wc_condT rfl ?_
            refine c_seq (fun K28 hK28 => ?_)
            refine c_reg ?_ -- region 17 syntaxm.go:258
            refine wl (ro_move rfl) ?_
            refine wl (ro_move rfl) ?_
            refine wl_call rfl en_90 (fail90 hB) ?_
            rintro _ w9 ⟨rfl, hB, F9⟩
            replace hF := hF.thenDrew.trans F9
            have hfin : ClM w rb p i n g T VN (icv (-1)) w9 ∧ Fram (mfr rb VN) w w9 := ⟨hXe (2, k4) _ _ hcl.symm rfl (by subst hVN; exact ⟨k6, aV, n, cV, g, by omega, hB⟩), hF.toM⟩
            refine wl (ro_assign rfl) ?_
            refine wl_nil (x_then (hK28 _ _ ?_))
            clear hK28 K28
            refine c_ret (x_thenR (x_thenR (x_blkR (x_thenR (x_blkR (x_thenR ?_))))))
            refine bp_ret Tryz.results152 rfl ?_
            exact hfin
          · skip
            rw [hX6] at hcl
            simp only at hcl
            rw [if_neg (by simp)] at hcl
            refine c_reg ?_ -- region 16 syntaxm.go:257
            refine wl (ro_move rfl) ?_
            refine wl (ro_nilCheck rfl) ?_
            refine wl (ro_fieldAddr (k := 4) rfl fo_187_4) ?_
            refine wl (ro_loadB rfl sc_53 (hB) (rfl)) ?_
            refine wl (ro_cmp (r := true) rfl rfl rfl) ?_
            refine wl (ro_move rfl) ?_
            refine wlg_yes rfl (ro_move rfl) ?_
            refine wlg_yes rfl (ro_not rfl) ?_
            refine wlg_yes rfl (ro_move rfl) ?_
            refine wlg_yes rfl (ro_move rfl) ?_
            refine wlg_yes rfl (ro_not rfl) ?_
            refine wlg_yes rfl (ro_pick rfl rfl rfl) ?_
            refine wlg_yes rfl (ro_move rfl) ?_
            refine wlg_no rfl ?_
            refine wlg_no rfl ?_
            refine wlg_no rfl ?_
            refine wlg_yes rfl (ro_pick rfl rfl rfl) ?_
            refine wl (ro_pick rfl rfl rfl) ?_
            refine wl_nil (x_then (hK27 _ _ ?_))
            clear hK27 K27
            refine wc_condT rfl ?_
            refine c_seq (fun K29 hK29 => ?_)
            refine c_reg ?_ -- region 17 syntaxm.go:258
            refine wl (ro_move rfl) ?_
            refine wl (ro_move rfl) ?_
            refine wl_call rfl en_90 (fail90 hB) ?_
            rintro _ w9 ⟨rfl, hB, F9⟩
            replace hF := hF.thenDrew.trans F9
            have hfin : ClM w rb p i n g T VN (icv (-1)) w9 ∧ Fram (mfr rb VN) w w9 := ⟨hXe (2, k4) _ _ hcl.symm rfl (by subst hVN; exact ⟨k6, aV, n, cV, g, by omega, hB⟩), hF.toM⟩
            refine wl (ro_assign rfl) ?_
            refine wl_nil (x_then (hK29 _ _ ?_))
            clear hK29 K29
            refine c_ret (x_thenR (x_thenR (x_blkR (x_thenR (x_blkR (x_thenR ?_))))))
            refine bp_ret Tryz.results152 rfl ?_
            exact hfin
          · skip
            rw [hX6] at hcl
            simp only at hcl
            rw [if_neg (by simp; omega)] at hcl
            refine c_reg ?_ -- region 16 syntaxm.go:257
            refine wl (ro_move rfl) ?_
            refine wl (ro_nilCheck rfl) ?_
            refine wl (ro_fieldAddr (k := 4) rfl fo_187_4) ?_
            refine wl (ro_loadB rfl sc_53 (hB) (rfl)) ?_
            refine wl (ro_cmp (r := true) rfl rfl rfl) ?_
            refine wl (ro_move rfl) ?_
            refine wlg_yes rfl (ro_move rfl) ?_
            refine wlg_yes rfl (ro_not rfl) ?_
            refine wlg_yes rfl (ro_move rfl) ?_
            refine wlg_yes rfl (ro_move rfl) ?_
            refine wlg_yes rfl (ro_not rfl) ?_
            refine wlg_yes rfl (ro_pick rfl rfl rfl) ?_
            refine wlg_yes rfl (ro_move rfl) ?_
            refine wlg_yes rfl (ro_move rfl) ?_
            refine wlg_yes rfl (ro_move rfl) ?_
            refine wlg_yes rfl (ro_cmp (r := true) rfl rfl (congrArg some (decide_eq_true (by omega)))) ?_
            refine wlg_yes rfl (ro_pick rfl rfl rfl) ?_
            refine wl (ro_pick rfl rfl rfl) ?_
            refine wl_nil (x_then (hK27 _ _ ?_))
            clear hK27 K27
            refine wc_condT rfl ?_
            refine c_seq (fun K30 hK30 => ?_)
            refine c_reg ?_ -- region 17 syntaxm.go:258
            refine wl (ro_move rfl) ?_
            refine wl (ro_move rfl) ?_
            refine wl_call rfl en_90 (fail90 hB) ?_
            rintro _ w9 ⟨rfl, hB, F9⟩
            replace hF := hF.thenDrew.trans F9
            have hfin : ClM w rb p i n g T VN (icv (-1)) w9 ∧ Fram (mfr rb VN) w w9 := ⟨hXe (2, k4) _ _ hcl.symm rfl (by subst hVN; exact ⟨k6, aV, n, cV, g, by omega, hB⟩), hF.toM⟩
            refine wl (ro_assign rfl) ?_
            refine wl_nil (x_then (hK30 _ _ ?_))
            clear hK30 K30
            refine c_ret (x_thenR (x_thenR (x_blkR (x_thenR (x_blkR (x_thenR ?_))))))
            refine bp_ret Tryz.results152 rfl ?_
            exact hfin
          · skip
            have hij6 := (item_ok hlt9 hX6).2.2
            rw [hX6] at hcl
            simp only at hcl
            rw [if_pos ⟨by trivial, by trivial, hbb⟩] at hcl
            refine c_reg ?_ -- region 16 syntaxm.go:257
            refine wl (ro_move rfl) ?_
            refine wl (ro_nilCheck rfl) ?_
            refine wl (ro_fieldAddr (k := 4) rfl fo_187_4) ?_
            refine wl (ro_loadB rfl sc_53 (hB) (rfl)) ?_
            refine wl (ro_cmp (r := true) rfl rfl rfl) ?_
            refine wl (ro_move rfl) ?_
            refine wlg_yes rfl (ro_move rfl) ?_
            refine wlg_yes rfl (ro_not rfl) ?_
            refine wlg_yes rfl (ro_move rfl) ?_
            refine wlg_yes rfl (ro_move rfl) ?_
            refine wlg_yes rfl (ro_not rfl) ?_
            refine wlg_yes rfl (ro_pick rfl rfl rfl) ?_
            refine wlg_yes rfl (ro_move rfl) ?_
            refine wlg_yes rfl (ro_move rfl) ?_
            refine wlg_yes rfl (ro_move rfl) ?_
            refine wlg_yes rfl (ro_cmp (r := false) rfl rfl (congrArg some (decide_eq_false (by omega)))) ?_
            refine wlg_yes rfl (ro_pick rfl rfl rfl) ?_
            refine wl (ro_pick rfl rfl rfl) ?_
            refine wl_nil (x_then (hK27 _ _ ?_))
            clear hK27 K27
            refine wc_condF rfl ?_
            refine c_skip (x_then (hK26 _ _ ?_))
            clear hK26 K26
            refine c_reg ?_ -- region 18 syntaxm.go:260
            refine wl (ro_loadAggB rfl ag_87 (hA) rfl rfl) ?_
            refine wl (ro_move rfl) ?_
            refine wl (ro_move rfl) ?_
            refine wl_call rfl en_158 (Span158 (lo := b4) (hi := b6)) ?_
            rintro _ w19 ⟨rfl, F19⟩
            replace hF := hF.thenDrew.thenN F19
            replace hB := F19.blkN hB
            replace hZ := F19.blkN hZ
            replace hA := F19.blkN hA
            replace hC := F19.blkN hC
            refine wl_puta rfl rfl (by simp [Value.oneCell', i64c, u64c, u8c, ptr]) sz_87 (rfl) hA ((by simp)) (rfl) (fun w20 hA F20 => ?_)
            replace hF := hF.thenDrew.thenO F20 (by first | exact .inr (by omega) | exact .inl rfl | exact .inl (by assumption))
            replace hB := F20.blkO hB (by omega)
            replace hZ := F20.blkO hZ (by omega)
            replace hC := F20.blkO hC (by omega)
            refine wl_nil (x_then (hK21 _ _ ?_))
            clear hK21 K21
            refine c_reg ?_ -- region 19 syntaxm.go:262
            refine wl (ro_loadAggB rfl ag_87 (hZ) rfl rfl) ?_
            refine wl (ro_loadAggB rfl ag_87 (hA) rfl rfl) ?_
            refine wl_call rfl en_140 (Join140) ?_
            rintro _ w21 ⟨rfl, F21⟩
            replace hF := hF.thenDrew.thenN F21
            replace hB := F21.blkN hB
            replace hZ := F21.blkN hZ
            replace hA := F21.blkN hA
            replace hC := F21.blkN hC
            refine wl_puta rfl rfl (by simp [Value.oneCell', i64c, u64c, u8c, ptr]) sz_87 (rfl) hZ ((by simp)) (rfl) (fun w22 hZ F22 => ?_)
            replace hF := hF.thenDrew.thenO F22 (by first | exact .inr (by omega) | exact .inl rfl | exact .inl (by assumption))
            replace hB := F22.blkO hB (by omega)
            replace hA := F22.blkO hA (by omega)
            replace hC := F22.blkO hC (by omega)
            refine wl_nil (x_blk (x_then ?_))
            exact ⟨p.length - k6 + 1, by rw [if_pos rfl]; omega, k6, _, 0, 0, (if_pos rfl).symm, hB, hZ, hk6, .inl ⟨rfl, rfl, ff, by rw [item_one hX4, rng_rng hbb]; exact hcl⟩, hF, kp _ ⟨rfl, rfl, rfl, rfl, trivial⟩⟩
        · skip
          have hlt9 := get_lt h2
          have hij := (item_ok hlt hX4).2.2
          rw [hX4] at hcl
          simp only at hcl
          rw [if_neg (by rw [h2]; simp)] at hcl
          refine c_pi [(0, false), (1, false), (2, false), (3, false), (4, false), (5, false), (6, false), (7, false), (8, false), (9, false), (10, false), (11, false), (12, false), (13, false), (14, false), (15, false), (16, false), (17, false), (18, false), (19, false), (20, false), (21, false), (22, false), (23, false), (24, false), (25, false), (26, false), (27, false), (28, false), (29, false), (30, false), (31, false), (32, false), (33, false), (34, false), (35, false), (36, false), (37, false), (38, false), (39, false), (40, false), (41, false), (42, false)] (SameH _) mixed (by kernel_rfl) rfl (by kernel_rfl) (po_then (po_then (po_blk (po_then (po_blk (po_then (po_bp))))))) (sameH_now _ _) ?_ -- region 12 syntaxm.go:253
          refine pi_ro rfl (fun w hS => ro_move rfl) ?_
          refine pi_ro rfl (fun w hS => ro_nilCheck rfl) ?_
          refine pi_ro rfl (fun w hS => ro_fieldAddr (k := 4) rfl fo_187_4) ?_
          refine pi_ro rfl (fun w hS => ro_loadB rfl sc_53 (Blk.of_heap hB hS) (rfl)) ?_
          refine pi_ro rfl (fun w hS => ro_cmp (r := true) rfl rfl rfl) ?_
          refine pi_ro rfl (fun w hS => ro_move rfl) ?_
          refine pi_gyes rfl rfl (fun w hS => ro_move rfl) ?_
          refine pi_gyes rfl rfl (fun w hS => ro_nilCheck rfl) ?_
          refine pi_gyes rfl rfl (fun w hS => ro_fieldAddr (k := 1) rfl fo_187_1) ?_
          refine pi_gyes rfl rfl (fun w hS => ro_loadB rfl sc_3 (Blk.of_heap hB hS) (rfl)) ?_
          refine pi_gyes rfl rfl (fun w hS => ro_arith rfl rfl rfl (Go.IntWalk.i64_in _ (by omega))) ?_
          refine pi_gyes rfl rfl (fun w hS => ro_move rfl) ?_
          refine pi_gyes rfl rfl (fun w hS => ro_nilCheck rfl) ?_
          refine pi_gyes rfl rfl (fun w hS => ro_fieldAddr (k := 0) rfl fo_187_0) ?_
          refine pi_gyes rfl rfl (fun w hS => ro_loadB rfl sc_9 (Blk.of_heap hB hS) (rfl)) ?_
          refine pi_gyes rfl rfl (fun w hS => ro_lenS rfl st_9) ?_
          refine pi_gyes rfl rfl (fun w hS => ro_cmp (r := true) rfl rfl (congrArg some (decide_eq_true (by omega)))) ?_
          refine pi_ro rfl (fun w hS => ro_pick rfl rfl rfl) ?_
          refine pi_ro rfl (fun w hS => ro_move rfl) ?_
          refine pi_gyes rfl rfl (fun w hS => ro_move rfl) ?_
          refine pi_gyes rfl rfl (fun w hS => ro_nilCheck rfl) ?_
          refine pi_gyes rfl rfl (fun w hS => ro_fieldAddr (k := 0) rfl fo_187_0) ?_
          refine pi_gyes rfl rfl (fun w hS => ro_loadB rfl sc_9 (Blk.of_heap hB hS) (rfl)) ?_
          refine pi_gyes rfl rfl (fun w hS => ro_move rfl) ?_
          refine pi_gyes rfl rfl (fun w hS => ro_nilCheck rfl) ?_
          refine pi_gyes rfl rfl (fun w hS => ro_fieldAddr (k := 1) rfl fo_187_1) ?_
          refine pi_gyes rfl rfl (fun w hS => ro_loadB rfl sc_3 (Blk.of_heap hB hS) (rfl)) ?_
          refine pi_gyes rfl rfl (fun w hS => ro_indexS rfl rfl st_9 (rfl) (h1)) ?_
          refine pi_gyes rfl rfl (fun w hS => ro_cmp (r := true) rfl rfl rfl) ?_
          refine pi_ro rfl (fun w hS => ro_pick rfl rfl rfl) ?_
          refine pi_ro rfl (fun w hS => ro_move rfl) ?_
          refine pi_gyes rfl rfl (fun w hS => ro_move rfl) ?_
          refine pi_gyes rfl rfl (fun w hS => ro_nilCheck rfl) ?_
          refine pi_gyes rfl rfl (fun w hS => ro_fieldAddr (k := 0) rfl fo_187_0) ?_
          refine pi_gyes rfl rfl (fun w hS => ro_loadB rfl sc_9 (Blk.of_heap hB hS) (rfl)) ?_
          refine pi_gyes rfl rfl (fun w hS => ro_move rfl) ?_
          refine pi_gyes rfl rfl (fun w hS => ro_nilCheck rfl) ?_
          refine pi_gyes rfl rfl (fun w hS => ro_fieldAddr (k := 1) rfl fo_187_1) ?_
          refine pi_gyes rfl rfl (fun w hS => ro_loadB rfl sc_3 (Blk.of_heap hB hS) (rfl)) ?_
          refine pi_gyes rfl rfl (fun w hS => ro_arith rfl rfl rfl (Go.IntWalk.i64_in _ (by omega))) ?_
          refine pi_gyes rfl rfl (fun w hS => ro_indexS rfl rfl st_9 ((show _ = ((k4 + 1 : Nat) : Int) by omega)) (h2)) ?_
          refine pi_gyes rfl rfl (fun w hS => ro_cmp (r := false) rfl rfl rfl) ?_
          refine pi_ro rfl (fun w hS => ro_pick rfl rfl rfl) ?_
          refine pi_nil (x_then (hK22 _ _ ?_))
          clear hK22 K22
          refine wc_condF rfl ?_
          refine c_skip (x_then (hK21 _ _ ?_))
          clear hK21 K21
          refine c_reg ?_ -- region 19 syntaxm.go:262
          refine wl (ro_loadAggB rfl ag_87 (hZ) rfl rfl) ?_
          refine wl (ro_loadAggB rfl ag_87 (hA) rfl rfl) ?_
          refine wl_call rfl en_140 (Join140) ?_
          rintro _ w23 ⟨rfl, F23⟩
          replace hF := hF.thenDrew.thenN F23
          replace hB := F23.blkN hB
          replace hZ := F23.blkN hZ
          replace hA := F23.blkN hA
          refine wl_puta rfl rfl (by simp [Value.oneCell', i64c, u64c, u8c, ptr]) sz_87 (rfl) hZ ((by simp)) (rfl) (fun w24 hZ F24 => ?_)
          replace hF := hF.thenDrew.thenO F24 (by first | exact .inr (by omega) | exact .inl rfl | exact .inl (by assumption))
          replace hB := F24.blkO hB (by omega)
          replace hA := F24.blkO hA (by omega)
          refine wl_nil (x_blk (x_then ?_))
          exact ⟨p.length - k4 + 1, by rw [if_pos rfl]; omega, k4, _, 0, 0, (if_pos rfl).symm, hB, hZ, hk4, .inl ⟨rfl, rfl, ff, hcl⟩, hF, kp _ ⟨rfl, rfl, rfl, rfl, trivial⟩⟩
        · skip
          have hij := (item_ok hlt hX4).2.2
          rw [hX4] at hcl
          simp only at hcl
          rw [if_neg (by rw [h1]; simp [hc9])] at hcl
          refine c_pi [(0, false), (1, false), (2, false), (3, false), (4, false), (5, false), (6, false), (7, false), (8, false), (9, false), (10, false), (11, false), (12, false), (13, false), (14, false), (15, false), (16, false), (17, false), (18, false), (19, false), (20, false), (21, false), (22, false), (23, false), (24, false), (25, false), (26, false), (27, false), (28, false), (29, false), (30, false), (31, false), (32, false), (33, false), (34, false), (35, false), (36, false), (37, false), (38, false), (39, false), (40, false), (41, false), (42, false)] (SameH _) mixed (by kernel_rfl) rfl (by kernel_rfl) (po_then (po_then (po_blk (po_then (po_blk (po_then (po_bp))))))) (sameH_now _ _) ?_ -- region 12 syntaxm.go:253
          refine pi_ro rfl (fun w hS => ro_move rfl) ?_
          refine pi_ro rfl (fun w hS => ro_nilCheck rfl) ?_
          refine pi_ro rfl (fun w hS => ro_fieldAddr (k := 4) rfl fo_187_4) ?_
          refine pi_ro rfl (fun w hS => ro_loadB rfl sc_53 (Blk.of_heap hB hS) (rfl)) ?_
          refine pi_ro rfl (fun w hS => ro_cmp (r := true) rfl rfl rfl) ?_
          refine pi_ro rfl (fun w hS => ro_move rfl) ?_
          refine pi_gyes rfl rfl (fun w hS => ro_move rfl) ?_
          refine pi_gyes rfl rfl (fun w hS => ro_nilCheck rfl) ?_
          refine pi_gyes rfl rfl (fun w hS => ro_fieldAddr (k := 1) rfl fo_187_1) ?_
          refine pi_gyes rfl rfl (fun w hS => ro_loadB rfl sc_3 (Blk.of_heap hB hS) (rfl)) ?_
          refine pi_gyes rfl rfl (fun w hS => ro_arith rfl rfl rfl (Go.IntWalk.i64_in _ (by omega))) ?_
          refine pi_gyes rfl rfl (fun w hS => ro_move rfl) ?_
          refine pi_gyes rfl rfl (fun w hS => ro_nilCheck rfl) ?_
          refine pi_gyes rfl rfl (fun w hS => ro_fieldAddr (k := 0) rfl fo_187_0) ?_
          refine pi_gyes rfl rfl (fun w hS => ro_loadB rfl sc_9 (Blk.of_heap hB hS) (rfl)) ?_
          refine pi_gyes rfl rfl (fun w hS => ro_lenS rfl st_9) ?_
          refine pi_gyes rfl rfl (fun w hS => ro_cmp (r := true) rfl rfl (congrArg some (decide_eq_true (by omega)))) ?_
          refine pi_ro rfl (fun w hS => ro_pick rfl rfl rfl) ?_
          refine pi_ro rfl (fun w hS => ro_move rfl) ?_
          refine pi_gyes rfl rfl (fun w hS => ro_move rfl) ?_
          refine pi_gyes rfl rfl (fun w hS => ro_nilCheck rfl) ?_
          refine pi_gyes rfl rfl (fun w hS => ro_fieldAddr (k := 0) rfl fo_187_0) ?_
          refine pi_gyes rfl rfl (fun w hS => ro_loadB rfl sc_9 (Blk.of_heap hB hS) (rfl)) ?_
          refine pi_gyes rfl rfl (fun w hS => ro_move rfl) ?_
          refine pi_gyes rfl rfl (fun w hS => ro_nilCheck rfl) ?_
          refine pi_gyes rfl rfl (fun w hS => ro_fieldAddr (k := 1) rfl fo_187_1) ?_
          refine pi_gyes rfl rfl (fun w hS => ro_loadB rfl sc_3 (Blk.of_heap hB hS) (rfl)) ?_
          refine pi_gyes rfl rfl (fun w hS => ro_indexS rfl rfl st_9 (rfl) (h1)) ?_
          refine pi_gyes rfl rfl (fun w hS => ro_cmp (r := false) rfl rfl (congrArg some ((u8eq c9 45).trans (decide_eq_false hc9)))) ?_
          refine pi_ro rfl (fun w hS => ro_pick rfl rfl rfl) ?_
          refine pi_ro rfl (fun w hS => ro_move rfl) ?_
          refine pi_gno rfl rfl ?_
          refine pi_gno rfl rfl ?_
          refine pi_gno rfl rfl ?_
          refine pi_gno rfl rfl ?_
          refine pi_gno rfl rfl ?_
          refine pi_gno rfl rfl ?_
          refine pi_gno rfl rfl ?_
          refine pi_gno rfl rfl ?_
          refine pi_gno rfl rfl ?_
          refine pi_gno rfl rfl ?_
          refine pi_gno rfl rfl ?_
          refine pi_ro rfl (fun w hS => ro_pick rfl rfl rfl) ?_
          refine pi_nil (x_then (hK22 _ _ ?_))
          clear hK22 K22
          refine wc_condF rfl ?_
          refine c_skip (x_then (hK21 _ _ ?_))
          clear hK21 K21
          refine c_reg ?_ -- region 19 syntaxm.go:262
          refine wl (ro_loadAggB rfl ag_87 (hZ) rfl rfl) ?_
          refine wl (ro_loadAggB rfl ag_87 (hA) rfl rfl) ?_
          refine wl_call rfl en_140 (Join140) ?_
          rintro _ w25 ⟨rfl, F25⟩
          replace hF := hF.thenDrew.thenN F25
          replace hB := F25.blkN hB
          replace hZ := F25.blkN hZ
          replace hA := F25.blkN hA
          refine wl_puta rfl rfl (by simp [Value.oneCell', i64c, u64c, u8c, ptr]) sz_87 (rfl) hZ ((by simp)) (rfl) (fun w26 hZ F26 => ?_)
          replace hF := hF.thenDrew.thenO F26 (by first | exact .inr (by omega) | exact .inl rfl | exact .inl (by assumption))
          replace hB := F26.blkO hB (by omega)
          replace hA := F26.blkO hA (by omega)
          refine wl_nil (x_blk (x_then ?_))
          exact ⟨p.length - k4 + 1, by rw [if_pos rfl]; omega, k4, _, 0, 0, (if_pos rfl).symm, hB, hZ, hk4, .inl ⟨rfl, rfl, ff, hcl⟩, hF, kp _ ⟨rfl, rfl, rfl, rfl, trivial⟩⟩
        · skip
          have hn9 : p[k4 + 1]? = none := List.getElem?_eq_none h2
          have hij := (item_ok hlt hX4).2.2
          rw [hX4] at hcl
          simp only at hcl
          rw [if_neg (by rw [hn9]; simp)] at hcl
          refine c_pi [(0, false), (1, false), (2, false), (3, false), (4, false), (5, false), (6, false), (7, false), (8, false), (9, false), (10, false), (11, false), (12, false), (13, false), (14, false), (15, false), (16, false), (17, false), (18, false), (19, false), (20, false), (21, false), (22, false), (23, false), (24, false), (25, false), (26, false), (27, false), (28, false), (29, false), (30, false), (31, false), (32, false), (33, false), (34, false), (35, false), (36, false), (37, false), (38, false), (39, false), (40, false), (41, false), (42, false)] (SameH _) mixed (by kernel_rfl) rfl (by kernel_rfl) (po_then (po_then (po_blk (po_then (po_blk (po_then (po_bp))))))) (sameH_now _ _) ?_ -- region 12 syntaxm.go:253
          refine pi_ro rfl (fun w hS => ro_move rfl) ?_
          refine pi_ro rfl (fun w hS => ro_nilCheck rfl) ?_
          refine pi_ro rfl (fun w hS => ro_fieldAddr (k := 4) rfl fo_187_4) ?_
          refine pi_ro rfl (fun w hS => ro_loadB rfl sc_53 (Blk.of_heap hB hS) (rfl)) ?_
          refine pi_ro rfl (fun w hS => ro_cmp (r := true) rfl rfl rfl) ?_
          refine pi_ro rfl (fun w hS => ro_move rfl) ?_
          refine pi_gyes rfl rfl (fun w hS => ro_move rfl) ?_
          refine pi_gyes rfl rfl (fun w hS => ro_nilCheck rfl) ?_
          refine pi_gyes rfl rfl (fun w hS => ro_fieldAddr (k := 1) rfl fo_187_1) ?_
          refine pi_gyes rfl rfl (fun w hS => ro_loadB rfl sc_3 (Blk.of_heap hB hS) (rfl)) ?_
          refine pi_gyes rfl rfl (fun w hS => ro_arith rfl rfl rfl (Go.IntWalk.i64_in _ (by omega))) ?_
          refine pi_gyes rfl rfl (fun w hS => ro_move rfl) ?_
          refine pi_gyes rfl rfl (fun w hS => ro_nilCheck rfl) ?_
          refine pi_gyes rfl rfl (fun w hS => ro_fieldAddr (k := 0) rfl fo_187_0) ?_
          refine pi_gyes rfl rfl (fun w hS => ro_loadB rfl sc_9 (Blk.of_heap hB hS) (rfl)) ?_
          refine pi_gyes rfl rfl (fun w hS => ro_lenS rfl st_9) ?_
          refine pi_gyes rfl rfl (fun w hS => ro_cmp (r := false) rfl rfl (congrArg some (decide_eq_false (by omega)))) ?_
          refine pi_ro rfl (fun w hS => ro_pick rfl rfl rfl) ?_
          refine pi_ro rfl (fun w hS => ro_move rfl) ?_
          refine pi_gno rfl rfl ?_
          refine pi_gno rfl rfl ?_
          refine pi_gno rfl rfl ?_
          refine pi_gno rfl rfl ?_
          refine pi_gno rfl rfl ?_
          refine pi_gno rfl rfl ?_
          refine pi_gno rfl rfl ?_
          refine pi_gno rfl rfl ?_
          refine pi_gno rfl rfl ?_
          refine pi_gno rfl rfl ?_
          refine pi_ro rfl (fun w hS => ro_pick rfl rfl rfl) ?_
          refine pi_ro rfl (fun w hS => ro_move rfl) ?_
          refine pi_gno rfl rfl ?_
          refine pi_gno rfl rfl ?_
          refine pi_gno rfl rfl ?_
          refine pi_gno rfl rfl ?_
          refine pi_gno rfl rfl ?_
          refine pi_gno rfl rfl ?_
          refine pi_gno rfl rfl ?_
          refine pi_gno rfl rfl ?_
          refine pi_gno rfl rfl ?_
          refine pi_gno rfl rfl ?_
          refine pi_gno rfl rfl ?_
          refine pi_ro rfl (fun w hS => ro_pick rfl rfl rfl) ?_
          refine pi_nil (x_then (hK22 _ _ ?_))
          clear hK22 K22
          refine wc_condF rfl ?_
          refine c_skip (x_then (hK21 _ _ ?_))
          clear hK21 K21
          refine c_reg ?_ -- region 19 syntaxm.go:262
          refine wl (ro_loadAggB rfl ag_87 (hZ) rfl rfl) ?_
          refine wl (ro_loadAggB rfl ag_87 (hA) rfl rfl) ?_
          refine wl_call rfl en_140 (Join140) ?_
          rintro _ w27 ⟨rfl, F27⟩
          replace hF := hF.thenDrew.thenN F27
          replace hB := F27.blkN hB
          replace hZ := F27.blkN hZ
          replace hA := F27.blkN hA
          refine wl_puta rfl rfl (by simp [Value.oneCell', i64c, u64c, u8c, ptr]) sz_87 (rfl) hZ ((by simp)) (rfl) (fun w28 hZ F28 => ?_)
          replace hF := hF.thenDrew.thenO F28 (by first | exact .inr (by omega) | exact .inl rfl | exact .inl (by assumption))
          replace hB := F28.blkO hB (by omega)
          replace hA := F28.blkO hA (by omega)
          refine wl_nil (x_blk (x_then ?_))
          exact ⟨p.length - k4 + 1, by rw [if_pos rfl]; omega, k4, _, 0, 0, (if_pos rfl).symm, hB, hZ, hk4, .inl ⟨rfl, rfl, ff, hcl⟩, hF, kp _ ⟨rfl, rfl, rfl, rfl, trivial⟩⟩
  · try simp only [decide_eq_true_eq, decide_eq_false_iff_not, Bool.not_eq_true', Bool.not_eq_false', Bool.not_eq_eq_eq_not, Bool.not_true, Bool.not_false, beq_iff_eq, bne_iff_ne, ne_eq, beq_eq_false_iff_ne, bne_eq_false_iff_eq, gt_iff_lt, ge_iff_le, Int.not_lt, Int.not_le] at hc38
    have hcl : clsR p i = .error (ec, q) := by rcases hst with h | h; exact absurd h.1 hc38; exact h.2
    refine c_exit (x_thenX (x_thenX (x_blkX (x_then (hK7 _ _ ?_)))))
    clear hK8 K8 hK7 K7
    refine forget [(0, _), (4, _), (5, _)] ⟨rfl, rfl, rfl, trivial⟩ (fun e => ?_)
    refine c_seq (fun K31 hK31 => ?_)
    refine c_reg ?_ -- region 20 syntaxm.go:264
    refine wl (ro_move rfl) ?_
    refine wl (ro_nilCheck rfl) ?_
    refine wl (ro_fieldAddr (k := 1) rfl fo_187_1) ?_
    refine wl (ro_loadB rfl sc_3 (hB) (rfl)) ?_
    refine wl (ro_arith rfl rfl rfl (Go.IntWalk.i64_in _ (by omega))) ?_
    refine wl (ro_nilCheck rfl) ?_
    refine wl (ro_fieldAddr (k := 1) rfl fo_187_1) ?_
    refine wl_put rfl rfl rfl sz_3 hB ((by simp)) (rfl) (fun w29 hB F29 => ?_)
    replace hF := hF.thenDrew.thenO F29 (by first | exact .inr (by omega) | exact .inl rfl | exact .inl (by assumption))
    replace hZ := F29.blkO hZ (by omega)
    refine wl_nil (x_then (hK31 _ _ ?_))
    clear hK31 K31
    refine c_seq (fun K32 hK32 => ?_)
    refine c_seq (fun K33 hK33 => ?_)
    refine c_reg ?_ -- region 21 syntaxm.go:265
    refine wl (ro_move rfl) ?_
    refine wl_nil (x_then (hK33 _ _ ?_))
    clear hK33 K33
    refine wc_cond rfl (fun hc163 => ?_) (fun hc163 => ?_)
    · try simp only [decide_eq_true_eq, decide_eq_false_iff_not, Bool.not_eq_true', Bool.not_eq_false', Bool.not_eq_eq_eq_not, Bool.not_true, Bool.not_false, beq_iff_eq, bne_iff_ne, ne_eq, beq_eq_false_iff_ne, bne_eq_false_iff_eq, gt_iff_lt, ge_iff_le, Int.not_lt, Int.not_le] at hc163
      have hNN : clsN p i = true := hc163
      refine c_reg ?_ -- region 22 syntaxm.go:266
      refine wl (ro_loadAggB rfl ag_87 (hZ) rfl rfl) ?_
      refine wl_call rfl en_129 (Not129) ?_
      rintro _ w30 ⟨rfl, F30⟩
      replace hF := hF.thenDrew.thenN F30
      replace hB := F30.blkN hB
      replace hZ := F30.blkN hZ
      refine wl_puta rfl rfl (by simp [Value.oneCell', i64c, u64c, u8c, ptr]) sz_87 (rfl) hZ ((by simp)) (rfl) (fun w31 hZ F31 => ?_)
      replace hF := hF.thenDrew.thenO F31 (by first | exact .inr (by omega) | exact .inl rfl | exact .inl (by assumption))
      replace hB := F31.blkO hB (by omega)
      refine wl_nil (x_then (hK32 _ _ ?_))
      clear hK32 K32
      refine forget [(0, _), (5, _)] ⟨rfl, rfl, trivial⟩ (fun e => ?_)
      refine c_seq (fun K34 hK34 => ?_)
      refine c_reg ?_ -- region 23 syntaxm.go:268
      refine wl (ro_move rfl) ?_
      refine wl (ro_loadAggB rfl ag_87 (hZ) rfl rfl) ?_
      refine wl_call rfl en_154 (set154e (Z := cpl Z) (e := (ec, q)) (B := p.length + 1) (by subst hVN; exact ⟨j + 1, aV, n, cV, g, by omega, hB⟩) hc38) ?_
      rintro _ w9 ⟨rfl, hP, F9⟩
      have hfin : ClM w rb p i n g T VN (icv (-1)) w9 ∧ Fram (mfr rb VN) w w9 := ⟨hXe _ _ _ hcl rfl hP, hF.toM.mfrN F9⟩
      refine wl (ro_assign rfl) ?_
      refine wl_nil (x_then (hK34 _ _ ?_))
      clear hK34 K34
      refine c_ret ?_
      refine bp_ret Tryz.results152 rfl ?_
      exact hfin
    · try simp only [decide_eq_true_eq, decide_eq_false_iff_not, Bool.not_eq_true', Bool.not_eq_false', Bool.not_eq_eq_eq_not, Bool.not_true, Bool.not_false, beq_iff_eq, bne_iff_ne, ne_eq, beq_eq_false_iff_ne, bne_eq_false_iff_eq, gt_iff_lt, ge_iff_le, Int.not_lt, Int.not_le] at hc163
      have hNN : clsN p i = false := hc163
      refine c_skip (x_then (hK32 _ _ ?_))
      clear hK32 K32
      refine forget [(0, _), (5, _)] ⟨rfl, rfl, trivial⟩ (fun e => ?_)
      refine c_seq (fun K35 hK35 => ?_)
      refine c_reg ?_ -- region 23 syntaxm.go:268
      refine wl (ro_move rfl) ?_
      refine wl (ro_loadAggB rfl ag_87 (hZ) rfl rfl) ?_
      refine wl_call rfl en_154 (set154e (Z := Z) (e := (ec, q)) (B := p.length + 1) (by subst hVN; exact ⟨j + 1, aV, n, cV, g, by omega, hB⟩) hc38) ?_
      rintro _ w9 ⟨rfl, hP, F9⟩
      have hfin : ClM w rb p i n g T VN (icv (-1)) w9 ∧ Fram (mfr rb VN) w w9 := ⟨hXe _ _ _ hcl rfl hP, hF.toM.mfrN F9⟩
      refine wl (ro_assign rfl) ?_
      refine wl_nil (x_then (hK35 _ _ ?_))
      clear hK35 K35
      refine c_ret ?_
      refine bp_ret Tryz.results152 rfl ?_
      exact hfin

end Go.Proofs.Qxb6500567aGreat
