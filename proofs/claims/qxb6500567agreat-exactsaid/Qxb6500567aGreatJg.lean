import Derived.Test.Qxb6500567aGreatJf
import Derived.Test.Qxb6500567aGreatIe
/- The automaton: run, Any, New. -/
namespace Go.Proofs.Qxb6500567aGreat
set_option linter.unusedVariables false
set_option linter.unusedSimpArgs false

theorem and_ne {a b : Nat} : a &&& b ≠ 0 ↔ ∃ q, a.testBit q = true ∧ b.testBit q = true := by
  constructor
  · intro h
    obtain ⟨q, hq⟩ := Nat.exists_testBit_of_ne_zero h
    rw [Nat.testBit_and, Bool.and_eq_true] at hq
    exact ⟨q, hq⟩
  · rintro ⟨q, h1, h2⟩ h
    have : (a &&& b).testBit q = true := by rw [Nat.testBit_and, h1, h2]; rfl
    rw [h] at this
    simp at this

theorem and_ze {a b : Nat} (h : a &&& b = 0) : ∀ q, a.testBit q = true → ¬ b.testBit q = true := fun q h1 h2 => and_ne.2 ⟨q, h1, h2⟩ h

set_option maxHeartbeats 4000000 in
theorem run63 {w : World} {D : DF} {kb cn c i : Nat} {p : List Ins} {N : DN} {g : Nat → Value} {s : List UInt8} (V : DV w D kb p N g cn) (hcn : cn ≤ 90000000000000000) (hc : c < N.u) (hs : s.length ≤ 256) (hi : i ≤ s.length) :
    Ret Tryz.prog 63 [ptr D.db, i64c c, S s, i64c i] w (fun v w' => (∃ b, v = .bool b ∧ RunD p s (s.length - i) i (N.K c) b) ∧ (∃ N' g', DV w' D kb p N' g' (cn + 300)) ∧ Fram (dset D) w w') := by
  have hF : Fram (dset D) w w := Fram.refl _ _
  refine ret_of Tryz.func63 rfl Tryz.ntmps63 rfl ?_
  refine c_seq (fun K1 hK1 => ?_)
  refine c_reg ?_ -- region 0 dfa.go:69
  refine wl (ro_assign rfl) ?_
  refine wl_nil (x_then (hK1 _ _ ?_))
  clear hK1 K1
  refine c_seq (fun K2 hK2 => ?_)
  refine c_seq (fun K3 hK3 => ?_)
  refine c_reg ?_ -- region 1 dfa.go:70
  refine wl (ro_move rfl) ?_
  refine wl (ro_assign rfl) ?_
  refine wl_nil (x_then (hK3 _ _ ?_))
  clear hK3 K3
  refine c_block ?_
  -- loop@r2: live slots [0, 1, 2, 9]
  refine c_loopG (fun m a' w' => ∃ (j c1 : Nat) (N1 : DN) (g1 : Nat → Value), m = s.length - j ∧ i ≤ j ∧ j ≤ s.length ∧ c1 < N1.u ∧ (∀ r, RunD p s (s.length - j) j (N1.K c1) r → RunD p s (s.length - i) i (N.K c) r) ∧ DV w' D kb p N1 g1 (cn + (j - i)) ∧ Fram (dset D) w w' ∧ ∃ e, a' = Fr 78 (upds e [(0, ptr D.db), (1, i64c c1), (2, S s), (9, i64c j)]) []) (s.length - i) ⟨i, c, N, g, rfl, by omega, hi, hc, fun r h ↦ h, by rw [Nat.sub_self]; exact V, hF, kp _ ⟨rfl, rfl, rfl, rfl, trivial⟩⟩ ?_
  clear hF V
  rintro m a' w1 ⟨j, c1, N1, g1, rfl, hij, hj, hc1, hrun, V1, hF, e, rfl⟩
  obtain ⟨hB, hN, ⟨gs, hK⟩, hG, hp, hso, hmk, hci, hkl, hu, hbu, hfl, hwo, ⟨o1, o2⟩⟩ := V1
  have hK64 := hkl c1 (by omega)
  refine c_seq (fun K4 hK4 => ?_)
  refine c_seq (fun K5 hK5 => ?_)
  refine c_reg ?_ -- region 2 dfa.go:70
  refine wl (ro_move rfl) ?_
  refine wl (ro_move rfl) ?_
  refine wl (ro_lenS rfl st_9) ?_
  refine wl (ro_cmp (r := decide (j < s.length)) rfl rfl (congrArg some (decide_eq_decide.2 (by omega)))) ?_
  refine wl_nil (x_then (hK5 _ _ ?_))
  clear hK5 K5
  refine wc_cond rfl (fun hc15 => ?_) (fun hc15 => ?_)
  · try simp only [decide_eq_true_eq, decide_eq_false_iff_not, Bool.not_eq_true', Bool.not_eq_false', Bool.not_eq_eq_eq_not, Bool.not_true, Bool.not_false, beq_iff_eq, bne_iff_ne, ne_eq, beq_eq_false_iff_ne, bne_eq_false_iff_eq, gt_iff_lt, ge_iff_le, Int.not_lt, Int.not_le] at hc15
    obtain ⟨bb, hbb⟩ : ∃ b, s[j]? = some b := ⟨_, List.getElem?_eq_getElem hc15⟩
    have hm1 : s.length - j = s.length - (j + 1) + 1 := by omega
    rw [hm1] at hrun
    refine c_skip (x_then (hK4 _ _ ?_))
    clear hK4 K4
    refine forget [(0, _), (1, _), (2, _), (9, _)] ⟨rfl, rfl, rfl, rfl, trivial⟩ (fun e => ?_)
    refine c_seq (fun K6 hK6 => ?_)
    refine c_block ?_
    refine c_seq (fun K7 hK7 => ?_)
    refine c_seq (fun K8 hK8 => ?_)
    refine c_pi [(0, false), (1, false), (2, false), (3, false), (4, false), (5, false), (6, false), (7, false), (8, false), (9, false), (10, false), (11, false)] (SameH _) mixed (by kernel_rfl) rfl (by kernel_rfl) (po_then (po_then (po_blk (po_then (po_then (po_blk (po_then (po_bp)))))))) (sameH_now _ _) ?_ -- region 4 dfa.go:71
    refine pi_ro rfl (fun w hS => ro_move rfl) ?_
    refine pi_ro rfl (fun w hS => ro_move rfl) ?_
    refine pi_ro rfl (fun w hS => ro_nilCheck rfl) ?_
    refine pi_ro rfl (fun w hS => ro_fieldAddr (k := 4) rfl fo_112_4) ?_
    refine pi_ro rfl (fun w hS => ro_indexAddrA (et := 85) (k := 1) rfl rfl ar_110 (rfl) ((by omega : c1 < 6))) ?_
    refine pi_ro rfl (fun w hS => ro_loadB rfl sc_85 (Blk.of_heap hB hS) (key_get (by omega))) ?_
    refine pi_ro rfl (fun w hS => ro_move rfl) ?_
    refine pi_ro rfl (fun w hS => ro_nilCheck rfl) ?_
    refine pi_ro rfl (fun w hS => ro_fieldAddr (k := 3) rfl fo_112_3) ?_
    refine pi_ro rfl (fun w hS => ro_loadB rfl sc_85 (Blk.of_heap hB hS) (rfl)) ?_
    refine pi_ro rfl (fun w hS => ro_andU (a := N1.K c1) (b := N1.hi) rfl rfl hK64 hmk.h64) ?_
    refine pi_ro rfl (fun w hS => ro_cmp (r := decide (N1.K c1 &&& N1.hi ≠ 0)) rfl rfl (congrArg some (bnec (N1.K c1 &&& N1.hi) 0))) ?_
    refine pi_nil (x_then (hK8 _ _ ?_))
    clear hK8 K8
    refine wc_cond rfl (fun hc29 => ?_) (fun hc29 => ?_)
    · try simp only [decide_eq_true_eq, decide_eq_false_iff_not, Bool.not_eq_true', Bool.not_eq_false', Bool.not_eq_eq_eq_not, Bool.not_true, Bool.not_false, beq_iff_eq, bne_iff_ne, ne_eq, beq_eq_false_iff_ne, bne_eq_false_iff_eq, gt_iff_lt, ge_iff_le, Int.not_lt, Int.not_le] at hc29
      replace hF := hF.trans (Fram.drew (dset D) w1 (w1.drawn + 1))
      have hit : ∃ pc, (N1.K c1).testBit pc = true ∧ p[pc]? = some .mat := by
        obtain ⟨q, h1, h2⟩ := and_ne.1 hc29
        exact ⟨q, h1, (hmk.hi q).1 h2⟩
      refine c_seq (fun K9 hK9 => ?_)
      refine c_reg ?_ -- region 5 dfa.go:72
      refine wl (ro_assign rfl) ?_
      refine wl_nil (x_then (hK9 _ _ ?_))
      clear hK9 K9
      refine c_ret (x_thenR (x_blkR (x_thenR (x_thenR (x_blkR (x_thenR ?_))))))
      refine bp_ret Tryz.results63 rfl ?_
      exact ⟨⟨true, rfl, hrun _ (.inl ⟨hit, rfl⟩)⟩, ⟨N1, g1, hB, hN, ⟨_, hK⟩, hG, hp, hso, hmk, hci, hkl, hu, by omega, by omega, by omega, ⟨o1, o2⟩⟩, hF⟩
    · try simp only [decide_eq_true_eq, decide_eq_false_iff_not, Bool.not_eq_true', Bool.not_eq_false', Bool.not_eq_eq_eq_not, Bool.not_true, Bool.not_false, beq_iff_eq, bne_iff_ne, ne_eq, beq_eq_false_iff_ne, bne_eq_false_iff_eq, gt_iff_lt, ge_iff_le, Int.not_lt, Int.not_le] at hc29
      replace hF := hF.trans (Fram.drew (dset D) w1 (w1.drawn + 1))
      have hno : ∀ pc, (N1.K c1).testBit pc = true → p[pc]? ≠ some .mat := fun q h1 h2 => and_ze (by omega) q h1 ((hmk.hi q).2 h2)
      refine c_skip (x_then (hK7 _ _ ?_))
      clear hK7 K7
      have V2 : DV { w1 with drawn := w1.drawn + 1 } D kb p N1 g1 (cn + (j - i)) := ⟨hB, hN, ⟨_, hK⟩, hG, hp, hso, hmk, hci, hkl, hu, hbu, hfl, hwo, ⟨o1, o2⟩⟩
      refine c_reg ?_ -- region 6 dfa.go:74
      refine wl (ro_move rfl) ?_
      refine wl (ro_move rfl) ?_
      refine wl (ro_move rfl) ?_
      refine wl (ro_move rfl) ?_
      refine wl (ro_indexS rfl rfl st_9 rfl (hbb)) ?_
      refine wl_call rfl en_84 (step84 (b := bb) V2 (by omega) hc1) ?_
      rintro _ w3 ⟨⟨N3, g3, t, rfl, ht, ⟨M, hmov, hclo⟩, V3⟩, F3⟩
      rw [UInt8.ofNat_toNat] at hmov
      replace hF := hF.trans F3
      refine wl (ro_assign rfl) ?_
      refine wl_nil (x_blk (x_then (hK6 _ _ ?_)))
      clear hK6 K6
      refine c_reg ?_ -- region 3 dfa.go:70
      refine wl (ro_move rfl) ?_
      refine wl (ro_arith rfl rfl rfl (Go.IntWalk.i64_in _ (by omega))) ?_
      refine wl (ro_assign rfl) ?_
      refine wl_nil (x_then ?_)
      exact ⟨s.length - (j + 1), by omega, j + 1, t, N3, g3, rfl, by omega, by omega, ht, fun r h ↦ hrun r (.inr ⟨hno, bb, M, _, hbb, hmov, hclo, h⟩), by rw [show cn + (j + 1 - i) = cn + (j - i) + 1 by omega]; exact V3, hF, kp _ ⟨rfl, rfl, rfl, rfl, trivial⟩⟩
  · try simp only [decide_eq_true_eq, decide_eq_false_iff_not, Bool.not_eq_true', Bool.not_eq_false', Bool.not_eq_eq_eq_not, Bool.not_true, Bool.not_false, beq_iff_eq, bne_iff_ne, ne_eq, beq_eq_false_iff_ne, bne_eq_false_iff_eq, gt_iff_lt, ge_iff_le, Int.not_lt, Int.not_le] at hc15
    have hm0 : s.length - j = 0 := by omega
    rw [hm0] at hrun
    refine c_exit (x_thenX (x_thenX (x_blkX (x_then (hK2 _ _ ?_)))))
    clear hK4 K4 hK2 K2
    refine c_seq (fun K10 hK10 => ?_)
    refine c_seq (fun K11 hK11 => ?_)
    refine c_pi [(0, false), (1, false), (2, false), (3, false), (4, false), (5, false), (6, false), (7, false), (8, false), (9, false), (10, false), (11, false)] (SameH _) mixed (by kernel_rfl) rfl (by kernel_rfl) (po_then (po_then (po_bp))) (sameH_now _ _) ?_ -- region 7 dfa.go:76
    refine pi_ro rfl (fun w hS => ro_move rfl) ?_
    refine pi_ro rfl (fun w hS => ro_move rfl) ?_
    refine pi_ro rfl (fun w hS => ro_nilCheck rfl) ?_
    refine pi_ro rfl (fun w hS => ro_fieldAddr (k := 4) rfl fo_112_4) ?_
    refine pi_ro rfl (fun w hS => ro_indexAddrA (et := 85) (k := 1) rfl rfl ar_110 (rfl) ((by omega : c1 < 6))) ?_
    refine pi_ro rfl (fun w hS => ro_loadB rfl sc_85 (Blk.of_heap hB hS) (key_get (by omega))) ?_
    refine pi_ro rfl (fun w hS => ro_move rfl) ?_
    refine pi_ro rfl (fun w hS => ro_nilCheck rfl) ?_
    refine pi_ro rfl (fun w hS => ro_fieldAddr (k := 3) rfl fo_112_3) ?_
    refine pi_ro rfl (fun w hS => ro_loadB rfl sc_85 (Blk.of_heap hB hS) (rfl)) ?_
    refine pi_ro rfl (fun w hS => ro_andU (a := N1.K c1) (b := N1.hi) rfl rfl hK64 hmk.h64) ?_
    refine pi_ro rfl (fun w hS => ro_cmp (r := decide (N1.K c1 &&& N1.hi ≠ 0)) rfl rfl (congrArg some (bnec (N1.K c1 &&& N1.hi) 0))) ?_
    refine pi_nil (x_then (hK11 _ _ ?_))
    clear hK11 K11
    refine wc_cond rfl (fun hc47 => ?_) (fun hc47 => ?_)
    · try simp only [decide_eq_true_eq, decide_eq_false_iff_not, Bool.not_eq_true', Bool.not_eq_false', Bool.not_eq_eq_eq_not, Bool.not_true, Bool.not_false, beq_iff_eq, bne_iff_ne, ne_eq, beq_eq_false_iff_ne, bne_eq_false_iff_eq, gt_iff_lt, ge_iff_le, Int.not_lt, Int.not_le] at hc47
      replace hF := hF.trans (Fram.drew (dset D) w1 (w1.drawn + 1))
      have hit : ∃ pc, (N1.K c1).testBit pc = true ∧ p[pc]? = some .mat := by
        obtain ⟨q, h1, h2⟩ := and_ne.1 hc47
        exact ⟨q, h1, (hmk.hi q).1 h2⟩
      refine c_seq (fun K12 hK12 => ?_)
      refine c_reg ?_ -- region 8 dfa.go:77
      refine wl (ro_assign rfl) ?_
      refine wl_nil (x_then (hK12 _ _ ?_))
      clear hK12 K12
      refine c_ret (x_thenR ?_)
      refine bp_ret Tryz.results63 rfl ?_
      exact ⟨⟨true, rfl, hrun _ (.inl ⟨hit, rfl⟩)⟩, ⟨N1, g1, hB, hN, ⟨_, hK⟩, hG, hp, hso, hmk, hci, hkl, hu, by omega, by omega, by omega, ⟨o1, o2⟩⟩, hF⟩
    · try simp only [decide_eq_true_eq, decide_eq_false_iff_not, Bool.not_eq_true', Bool.not_eq_false', Bool.not_eq_eq_eq_not, Bool.not_true, Bool.not_false, beq_iff_eq, bne_iff_ne, ne_eq, beq_eq_false_iff_ne, bne_eq_false_iff_eq, gt_iff_lt, ge_iff_le, Int.not_lt, Int.not_le] at hc47
      replace hF := hF.trans (Fram.drew (dset D) w1 (w1.drawn + 1))
      have hno : ∀ pc, (N1.K c1).testBit pc = true → p[pc]? ≠ some .mat := fun q h1 h2 => and_ze (by omega) q h1 ((hmk.hi q).2 h2)
      refine c_skip (x_then (hK10 _ _ ?_))
      clear hK10 K10
      refine c_seq (fun K13 hK13 => ?_)
      refine c_seq (fun K14 hK14 => ?_)
      refine c_pi [(0, false), (1, false), (2, false), (3, false), (4, false), (5, false), (6, false), (7, false), (8, false), (9, false), (10, false), (11, false)] (SameH _) mixed (by kernel_rfl) rfl (by kernel_rfl) (po_then (po_then (po_bp))) (sameH_now _ _) ?_ -- region 9 dfa.go:79
      refine pi_ro rfl (fun w hS => ro_move rfl) ?_
      refine pi_ro rfl (fun w hS => ro_move rfl) ?_
      refine pi_ro rfl (fun w hS => ro_nilCheck rfl) ?_
      refine pi_ro rfl (fun w hS => ro_fieldAddr (k := 4) rfl fo_112_4) ?_
      refine pi_ro rfl (fun w hS => ro_indexAddrA (et := 85) (k := 1) rfl rfl ar_110 (rfl) ((by omega : c1 < 6))) ?_
      refine pi_ro rfl (fun w hS => ro_loadB rfl sc_85 (Blk.of_heap hB hS) (key_get (by omega))) ?_
      refine pi_ro rfl (fun w hS => ro_move rfl) ?_
      refine pi_ro rfl (fun w hS => ro_nilCheck rfl) ?_
      refine pi_ro rfl (fun w hS => ro_fieldAddr (k := 2) rfl fo_112_2) ?_
      refine pi_ro rfl (fun w hS => ro_loadB rfl sc_85 (Blk.of_heap hB hS) (rfl)) ?_
      refine pi_ro rfl (fun w hS => ro_andU (a := N1.K c1) (b := N1.en) rfl rfl hK64 hmk.e64) ?_
      refine pi_ro rfl (fun w hS => ro_cmp (r := decide (N1.K c1 &&& N1.en = 0)) rfl rfl (congrArg some (beqc (N1.K c1 &&& N1.en) 0))) ?_
      refine pi_nil (x_then (hK14 _ _ ?_))
      clear hK14 K14
      refine wc_cond rfl (fun hc59 => ?_) (fun hc59 => ?_)
      · try simp only [decide_eq_true_eq, decide_eq_false_iff_not, Bool.not_eq_true', Bool.not_eq_false', Bool.not_eq_eq_eq_not, Bool.not_true, Bool.not_false, beq_iff_eq, bne_iff_ne, ne_eq, beq_eq_false_iff_ne, bne_eq_false_iff_eq, gt_iff_lt, ge_iff_le, Int.not_lt, Int.not_le] at hc59
        replace hF := hF.trans (Fram.drew (dset D) { w1 with drawn := w1.drawn + 1 } (w1.drawn + 1 + 1))
        refine c_seq (fun K15 hK15 => ?_)
        refine c_reg ?_ -- region 10 dfa.go:80
        refine wl (ro_assign rfl) ?_
        refine wl_nil (x_then (hK15 _ _ ?_))
        clear hK15 K15
        refine c_ret (x_thenR ?_)
        refine bp_ret Tryz.results63 rfl ?_
        exact ⟨⟨false, rfl, hrun _ (.inr ⟨hno, .inl ⟨fun q h1 h2 => and_ze hc59 q h1 ((hmk.en q).2 h2), rfl⟩⟩)⟩, ⟨N1, g1, hB, hN, ⟨_, hK⟩, hG, hp, hso, hmk, hci, hkl, hu, by omega, by omega, by omega, ⟨o1, o2⟩⟩, hF⟩
      · try simp only [decide_eq_true_eq, decide_eq_false_iff_not, Bool.not_eq_true', Bool.not_eq_false', Bool.not_eq_eq_eq_not, Bool.not_true, Bool.not_false, beq_iff_eq, bne_iff_ne, ne_eq, beq_eq_false_iff_ne, bne_eq_false_iff_eq, gt_iff_lt, ge_iff_le, Int.not_lt, Int.not_le] at hc59
        replace hF := hF.trans (Fram.drew (dset D) { w1 with drawn := w1.drawn + 1 } (w1.drawn + 1 + 1))
        refine c_skip (x_then (hK13 _ _ ?_))
        clear hK13 K13
        refine forget [(0, _), (1, _), (2, _)] ⟨rfl, rfl, rfl, trivial⟩ (fun e => ?_)
        refine c_seq (fun K16 hK16 => ?_)
        obtain ⟨hkd, hkn, hks⟩ : kb ≠ D.db ∧ kb ≠ D.nx ∧ kb ≠ D.sk := DV.ne (w := _) (cn := cn + (j - i)) ⟨hB, hN, ⟨_, hK⟩, hG, hp, hso, hmk, hci, hkl, hu, hbu, hfl, hwo, ⟨o1, o2⟩⟩
        refine c_reg ?_ -- region 11 dfa.go:82
        refine wl (ro_move rfl) ?_
        refine wl (ro_move rfl) ?_
        refine wl (ro_move rfl) ?_
        refine wl (ro_nilCheck rfl) ?_
        refine wl (ro_fieldAddr (k := 4) rfl fo_112_4) ?_
        refine wl (ro_indexAddrA (et := 85) (k := 1) rfl rfl ar_110 (rfl) ((by omega : c1 < 6))) ?_
        refine wl (ro_loadB rfl sc_85 (hB) (key_get (by omega))) ?_
        refine wl (ro_move rfl) ?_
        refine wl (ro_lenS rfl st_9) ?_
        refine wl (ro_cmp (r := decide (s.length = 0)) rfl rfl (congrArg some (beqc s.length 0))) ?_
        refine wl_call rfl en_61 (closure61 hB hK hG (by omega) hkd hks hp hK64 (by omega)) ?_
        rintro _ w4 ⟨⟨R, rfl, hR64, hclo⟩, hB, ⟨g4, hK⟩, hG, F4⟩
        replace hF := hF.transG F4 (by intro k hk h; simp only [one, two, none', dset] at h ⊢ <;> omega)
        replace hN := F4.blkF hN (by intro h; simp only [one, two, none', dset] at h <;> omega)
        refine wl (ro_assign rfl) ?_
        refine wl_nil (x_then (hK16 _ _ ?_))
        clear hK16 K16
        refine forget [(0, _), (10, _)] ⟨rfl, rfl, trivial⟩ (fun e => ?_)
        refine c_seq (fun K17 hK17 => ?_)
        refine c_reg ?_ -- region 12 dfa.go:83
        refine wl (ro_move rfl) ?_
        refine wl (ro_move rfl) ?_
        refine wl (ro_nilCheck rfl) ?_
        refine wl (ro_fieldAddr (k := 3) rfl fo_112_3) ?_
        refine wl (ro_loadB rfl sc_85 (hB) (rfl)) ?_
        refine wl (ro_andU (a := R) (b := N1.hi) rfl rfl hR64 hmk.h64) ?_
        refine wl (ro_cmp (r := decide (R &&& N1.hi ≠ 0)) rfl rfl (congrArg some (bnec (R &&& N1.hi) 0))) ?_
        refine wl (ro_assign rfl) ?_
        refine wl_nil (x_then (hK17 _ _ ?_))
        clear hK17 K17
        refine c_ret ?_
        refine bp_ret Tryz.results63 rfl ?_
        refine ⟨⟨_, rfl, hrun _ (.inr ⟨hno, .inr ⟨R, hclo, ?_⟩⟩)⟩, ⟨{ N1 with wo := N1.wo + 1 }, g1, hB, hN, ⟨_, hK⟩, hG, hp, hso, ⟨hmk.ch, hmk.en, hmk.hi, hmk.c64, hmk.e64, hmk.h64⟩, hci, hkl, hu, by show N1.bu ≤ _; omega, by show N1.fl ≤ _; omega, by show N1.wo + 1 ≤ _; omega, ⟨o1, o2⟩⟩, hF⟩
        rw [decide_eq_true_eq, and_ne]
        constructor
        · rintro ⟨q, h1, h2⟩; exact ⟨q, h1, (hmk.hi q).1 h2⟩
        · rintro ⟨q, h1, h2⟩; exact ⟨q, h1, (hmk.hi q).2 h2⟩

end Go.Proofs.Qxb6500567aGreat
