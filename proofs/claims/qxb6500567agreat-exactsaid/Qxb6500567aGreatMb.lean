import Derived.Test.Qxb6500567aGreatMa
/- The finder: compile. -/
namespace Go.Proofs.Qxb6500567aGreat
set_option linter.unusedVariables false
set_option linter.unusedSimpArgs false

theorem cmp_skip {t : List UInt8} {i : Nat} {P : List PC} {b : UInt8} (hb : t[i]? = some b) (h : b.toNat ≠ 36) : cmpP (t.drop i) i P = cmpP (t.drop (i + 1)) (i + 1) (litP P i (i + 1)) := by
  rw [drop_consA hb]
  cases hr : t.drop (i + 1) with
  | nil => simp [cmpP, h]
  | cons d u => simp [cmpP, h]
theorem cmp_end {t : List UInt8} {i : Nat} {P : List PC} {b : UInt8} (hb : t[i]? = some b) (h : b.toNat = 36) (hl : t.length ≤ i + 1) : cmpP (t.drop i) i P = (P, some i) := by
  rw [drop_consA hb, List.drop_of_length_le hl]
  simp [cmpP, h]
theorem cmp_two {t : List UInt8} {i : Nat} {P : List PC} {b d : UInt8} (hb : t[i]? = some b) (h : b.toNat = 36) (hd : t[i + 1]? = some d) : cmpP (t.drop i) i P = if d.toNat = 36 then cmpP (t.drop (i + 2)) (i + 2) (litP P (i + 1) (i + 2)) else if isD d then cmpP (t.drop (i + 2)) (i + 2) (P ++ [⟨0, 0, ((d.toNat - 48 : Nat) : Int)⟩]) else (P, some i) := by
  rw [drop_consA hb, drop_consA hd]
  simp only [cmpP]
  rw [if_pos h]

set_option maxHeartbeats 4000000 in
theorem compile40 {w : World} {fb ps eb xs n : Nat} {t : List UInt8} {P0 : List PC} {pf : Nat → Value} (hB : Blk w.heap fb [ptr eb, sl xs 257, i64c n, sl ps 32, i64c P0.length] 120) (hP : FB w.heap ps 96 pf 146) (hlt : fb < ps) (ht : t.length ≤ 32) :
    Ret Tryz.prog 40 [ptr fb, S t] w (fun v w' => v = badV (cmpP t 0 []).2 ∧ Blk w'.heap fb [ptr eb, sl xs 257, i64c n, sl ps 32, i64c (cmpP t 0 []).1.length] 120 ∧ (∃ pf', FB w'.heap ps 96 pf' 146 ∧ PcV pf' (cmpP t 0 []).1) ∧ PcF (cmpP t 0 []).1 ∧ (cmpP t 0 []).1.length ≤ 32 ∧ Fram (two fb ps) w w') := by
  have hF : Fram (two fb ps) w w := Fram.refl _ _
  have hm1 : two fb ps fb := .inl rfl
  have hm2 : two fb ps ps := .inr rfl
  refine ret_of Tryz.func40 rfl Tryz.ntmps40 rfl ?_
  refine c_seq (fun K1 hK1 => ?_)
  refine c_reg ?_ -- region 0 tmpl.go:23
  refine wl (ro_assign rfl) ?_
  refine wl_nil (x_then (hK1 _ _ ?_))
  clear hK1 K1
  refine forget [(0, _), (1, _)] ⟨rfl, rfl, trivial⟩ (fun e => ?_)
  refine c_seq (fun K2 hK2 => ?_)
  refine c_reg ?_ -- region 1 tmpl.go:24
  refine wl (ro_move rfl) ?_
  refine wl (ro_nilCheck rfl) ?_
  refine wl (ro_fieldAddr (k := 4) rfl fo_120_4) ?_
  refine wl_put rfl rfl rfl sz_3 hB ((by simp)) ((show _ = [ptr eb, sl xs 257, i64c n, sl ps 32, i64c ([] : List PC).length] from rfl)) (fun w1 hB F1 => ?_)
  replace hF := hF.thenDrew.thenO F1 (by first | exact .inr (by omega) | exact .inl rfl | exact .inl (by assumption))
  replace hP := F1.blkO hP (by omega)
  refine wl_nil (x_then (hK2 _ _ ?_))
  clear hK2 K2
  refine forget [(0, _), (1, _)] ⟨rfl, rfl, trivial⟩ (fun e => ?_)
  refine c_seq (fun K3 hK3 => ?_)
  refine c_reg ?_ -- region 2 tmpl.go:25
  refine wl (ro_assign rfl) ?_
  refine wl_nil (x_then (hK3 _ _ ?_))
  clear hK3 K3
  refine forget [(0, _), (1, _), (5, _)] ⟨rfl, rfl, rfl, trivial⟩ (fun e => ?_)
  refine c_seq (fun K4 hK4 => ?_)
  refine c_block ?_
  -- loop@r3: live slots [0, 1, 5]
  refine c_loopG (fun m a' w' => ∃ (i : Nat) (P : List PC) (pf : Nat → Value), m = t.length - i ∧ i ≤ t.length ∧ P.length ≤ i ∧ PcF P ∧ PcV pf P ∧ cmpP (t.drop i) i P = cmpP t 0 [] ∧ Blk w'.heap fb [ptr eb, sl xs 257, i64c n, sl ps 32, i64c P.length] 120 ∧ FB w'.heap ps 96 pf 146 ∧ Fram (two fb ps) w w' ∧ ∃ e, a' = Fr 72 (upds e [(0, ptr fb), (1, S t), (5, i64c i)]) []) t.length ⟨0, [], pf, rfl, by omega, by simp, PcF.nil, PcV.nil _, rfl, hB, hP, hF, kp _ ⟨rfl, rfl, rfl, trivial⟩⟩ ?_
  clear hB hP hF
  rintro m a' w1 ⟨i, P, pf, rfl, hi, hPi, hpf, hV, hres, hB, hP, hF, e, rfl⟩
  refine c_seq (fun K5 hK5 => ?_)
  refine c_seq (fun K6 hK6 => ?_)
  refine c_reg ?_ -- region 3 tmpl.go:26
  refine wl (ro_move rfl) ?_
  refine wl (ro_move rfl) ?_
  refine wl (ro_lenS rfl st_9) ?_
  refine wl (ro_cmp (r := decide (i < t.length)) rfl rfl (congrArg some (decide_eq_decide.2 (by omega)))) ?_
  refine wl_nil (x_then (hK6 _ _ ?_))
  clear hK6 K6
  refine wc_cond rfl (fun hc13 => ?_) (fun hc13 => ?_)
  · try simp only [decide_eq_true_eq, decide_eq_false_iff_not, Bool.not_eq_true', Bool.not_eq_false', Bool.not_eq_eq_eq_not, Bool.not_true, Bool.not_false, beq_iff_eq, bne_iff_ne, ne_eq, beq_eq_false_iff_ne, bne_eq_false_iff_eq, gt_iff_lt, ge_iff_le, Int.not_lt, Int.not_le] at hc13
    obtain ⟨b, hb⟩ := byte_get hc13
    refine c_skip (x_then (hK5 _ _ ?_))
    clear hK5 K5
    refine c_block ?_
    refine c_seq (fun K7 hK7 => ?_)
    refine c_seq (fun K8 hK8 => ?_)
    refine c_reg ?_ -- region 4 tmpl.go:27
    refine wl (ro_move rfl) ?_
    refine wl (ro_move rfl) ?_
    refine wl (ro_indexS rfl rfl st_9 rfl (hb)) ?_
    refine wl (ro_cmp (r := decide (b.toNat ≠ 36)) rfl rfl (congrArg some (bnec b.toNat 36))) ?_
    refine wl_nil (x_then (hK8 _ _ ?_))
    clear hK8 K8
    refine wc_cond rfl (fun hc17 => ?_) (fun hc17 => ?_)
    · try simp only [decide_eq_true_eq, decide_eq_false_iff_not, Bool.not_eq_true', Bool.not_eq_false', Bool.not_eq_eq_eq_not, Bool.not_true, Bool.not_false, beq_iff_eq, bne_iff_ne, ne_eq, beq_eq_false_iff_ne, bne_eq_false_iff_eq, gt_iff_lt, ge_iff_le, Int.not_lt, Int.not_le] at hc17
      refine c_seq (fun K9 hK9 => ?_)
      refine c_reg ?_ -- region 5 tmpl.go:28
      refine wl (ro_move rfl) ?_
      refine wl (ro_move rfl) ?_
      refine wl (ro_move rfl) ?_
      refine wl (ro_arith (r := ((i + 1 : Nat) : Int)) rfl rfl rfl (Go.IntWalk.i64_in _ (by omega))) ?_
      refine wl_call rfl en_53 (literal53 (lo := i) (hi := i + 1) hB hP hV hlt (by omega)) ?_
      rintro _ w3 ⟨rfl, hB, ⟨pf3, hP, hV3⟩, F3⟩
      replace hF := hF.trans F3
      have hll := lit_len P i (i + 1)
      have hpf3 := hpf.lit (lo := i) (hi := i + 1) (by omega) (by omega)
      rw [cmp_skip hb hc17] at hres
      refine wl_nil (x_then (hK9 _ _ ?_))
      clear hK9 K9
      refine forget [(0, _), (1, _), (5, _)] ⟨rfl, rfl, rfl, trivial⟩ (fun e => ?_)
      refine c_seq (fun K10 hK10 => ?_)
      refine c_reg ?_ -- region 6 tmpl.go:29
      refine wl (ro_move rfl) ?_
      refine wl (ro_arith (r := ((i + 1 : Nat) : Int)) rfl rfl rfl (Go.IntWalk.i64_in _ (by omega))) ?_
      refine wl (ro_assign rfl) ?_
      refine wl_nil (x_then (hK10 _ _ ?_))
      clear hK10 K10
      refine c_exit (x_thenX (x_blkX (x_then ?_)))
      exact ⟨t.length - (i + 1), by omega, i + 1, litP P i (i + 1), pf3, rfl, by omega, by omega, hpf3, hV3, hres, hB, hP, hF, kp _ ⟨rfl, rfl, rfl, trivial⟩⟩
    · try simp only [decide_eq_true_eq, decide_eq_false_iff_not, Bool.not_eq_true', Bool.not_eq_false', Bool.not_eq_eq_eq_not, Bool.not_true, Bool.not_false, beq_iff_eq, bne_iff_ne, ne_eq, beq_eq_false_iff_ne, bne_eq_false_iff_eq, gt_iff_lt, ge_iff_le, Int.not_lt, Int.not_le] at hc17
      refine c_skip (x_then (hK7 _ _ ?_))
      clear hK7 K7
      refine c_seq (fun K11 hK11 => ?_)
      refine c_seq (fun K12 hK12 => ?_)
      have hb36 : b.toNat = 36 := by omega
      have hqs : t.length ≤ i + 1 ∨ ∃ d, t[i + 1]? = some d ∧ (d.toNat = 36 ∨ (d.toNat ≠ 36 ∧ d.toNat < 48) ∨ (d.toNat ≠ 36 ∧ 51 < d.toNat) ∨ (d.toNat ≠ 36 ∧ 48 ≤ d.toNat ∧ d.toNat ≤ 51)) := by
        by_cases h : t.length ≤ i + 1
        · exact .inl h
        · obtain ⟨d, hd⟩ := byte_get (t := t) (i := i + 1) (by omega)
          exact .inr ⟨d, hd, by omega⟩
      rcases hqs with q | ⟨d, hd, q | q | q | q⟩
      · skip
        rw [cmp_end hb hb36 q] at hres
        refine c_reg ?_ -- region 7 tmpl.go:32
        refine wl (ro_move rfl) ?_
        refine wl (ro_arith (r := ((i + 1 : Nat) : Int)) rfl rfl rfl (Go.IntWalk.i64_in _ (by omega))) ?_
        refine wl (ro_move rfl) ?_
        refine wl (ro_lenS rfl st_9) ?_
        refine wl (ro_cmp (r := true) rfl rfl (congrArg some (decide_eq_true (by omega)))) ?_
        refine wl_nil (x_then (hK12 _ _ ?_))
        clear hK12 K12
        refine wc_condT rfl ?_
        refine c_seq (fun K13 hK13 => ?_)
        refine c_reg ?_ -- region 8 tmpl.go:33
        refine wl (ro_move rfl) ?_
        refine wl (ro_assign rfl) ?_
        refine wl_nil (x_then (hK13 _ _ ?_))
        clear hK13 K13
        refine c_ret (x_thenR (x_blkR (x_thenR (x_blkR (x_thenR ?_)))))
        refine bp_ret Tryz.results40 rfl ?_
        rw [← hres]; exact ⟨rfl, hB, ⟨_, hP, hV⟩, hpf, by show P.length ≤ 32; omega, hF⟩
      · skip
        have hil := (List.getElem?_eq_some_iff.1 hd).1
        rw [cmp_two hb hb36 hd, if_pos q] at hres
        refine c_reg ?_ -- region 7 tmpl.go:32
        refine wl (ro_move rfl) ?_
        refine wl (ro_arith (r := ((i + 1 : Nat) : Int)) rfl rfl rfl (Go.IntWalk.i64_in _ (by omega))) ?_
        refine wl (ro_move rfl) ?_
        refine wl (ro_lenS rfl st_9) ?_
        refine wl (ro_cmp (r := false) rfl rfl (congrArg some (decide_eq_false (by omega)))) ?_
        refine wl_nil (x_then (hK12 _ _ ?_))
        clear hK12 K12
        refine wc_condF rfl ?_
        refine c_skip (x_then (hK11 _ _ ?_))
        clear hK11 K11
        refine forget [(0, _), (1, _), (5, _)] ⟨rfl, rfl, rfl, trivial⟩ (fun e => ?_)
        refine c_seq (fun K14 hK14 => ?_)
        refine c_reg ?_ -- region 9 tmpl.go:35
        refine wl (ro_move rfl) ?_
        refine wl (ro_move rfl) ?_
        refine wl (ro_arith (r := ((i + 1 : Nat) : Int)) rfl rfl rfl (Go.IntWalk.i64_in _ (by omega))) ?_
        refine wl (ro_indexS rfl rfl st_9 rfl (hd)) ?_
        refine wl (ro_assign rfl) ?_
        refine wl_nil (x_then (hK14 _ _ ?_))
        clear hK14 K14
        refine c_seq (fun K15 hK15 => ?_)
        refine c_seq (fun K16 hK16 => ?_)
        refine c_reg ?_ -- region 10 tmpl.go:36
        refine wl (ro_move rfl) ?_
        refine wl (ro_cmp (r := true) rfl rfl (congrArg some ((beqc d.toNat 36).trans (decide_eq_true q)))) ?_
        refine wl_nil (x_then (hK16 _ _ ?_))
        clear hK16 K16
        refine wc_condT rfl ?_
        refine c_reg ?_ -- region 11 tmpl.go:37
        refine wl (ro_move rfl) ?_
        refine wl (ro_move rfl) ?_
        refine wl (ro_arith (r := ((i + 1 : Nat) : Int)) rfl rfl rfl (Go.IntWalk.i64_in _ (by omega))) ?_
        refine wl (ro_move rfl) ?_
        refine wl (ro_arith (r := ((i + 2 : Nat) : Int)) rfl rfl rfl (Go.IntWalk.i64_in _ (by omega))) ?_
        refine wl_call rfl en_53 (literal53 (lo := i + 1) (hi := i + 2) hB hP hV hlt (by omega)) ?_
        rintro _ w3 ⟨rfl, hB, ⟨pf3, hP, hV3⟩, F3⟩
        replace hF := hF.trans F3
        have hll := lit_len P (i + 1) (i + 2)
        have hpf3 := hpf.lit (lo := i + 1) (hi := i + 2) (by omega) (by omega)
        refine wl_nil (x_then (hK15 _ _ ?_))
        clear hK15 K15
        refine c_reg ?_ -- region 16 tmpl.go:44
        refine wl (ro_move rfl) ?_
        refine wl (ro_arith (r := ((i + 2 : Nat) : Int)) rfl rfl rfl (Go.IntWalk.i64_in _ (by omega))) ?_
        refine wl (ro_assign rfl) ?_
        refine wl_nil (x_blk (x_then ?_))
        exact ⟨t.length - (i + 2), by omega, i + 2, litP P (i + 1) (i + 2), pf3, rfl, by omega, by omega, hpf3, hV3, hres, hB, hP, hF, kp _ ⟨rfl, rfl, rfl, trivial⟩⟩
      · skip
        have hil := (List.getElem?_eq_some_iff.1 hd).1
        rw [cmp_two hb hb36 hd, if_neg q.1, if_neg (by unfold isD; omega)] at hres
        refine c_reg ?_ -- region 7 tmpl.go:32
        refine wl (ro_move rfl) ?_
        refine wl (ro_arith (r := ((i + 1 : Nat) : Int)) rfl rfl rfl (Go.IntWalk.i64_in _ (by omega))) ?_
        refine wl (ro_move rfl) ?_
        refine wl (ro_lenS rfl st_9) ?_
        refine wl (ro_cmp (r := false) rfl rfl (congrArg some (decide_eq_false (by omega)))) ?_
        refine wl_nil (x_then (hK12 _ _ ?_))
        clear hK12 K12
        refine wc_condF rfl ?_
        refine c_skip (x_then (hK11 _ _ ?_))
        clear hK11 K11
        refine forget [(0, _), (1, _), (5, _)] ⟨rfl, rfl, rfl, trivial⟩ (fun e => ?_)
        refine c_seq (fun K17 hK17 => ?_)
        refine c_reg ?_ -- region 9 tmpl.go:35
        refine wl (ro_move rfl) ?_
        refine wl (ro_move rfl) ?_
        refine wl (ro_arith (r := ((i + 1 : Nat) : Int)) rfl rfl rfl (Go.IntWalk.i64_in _ (by omega))) ?_
        refine wl (ro_indexS rfl rfl st_9 rfl (hd)) ?_
        refine wl (ro_assign rfl) ?_
        refine wl_nil (x_then (hK17 _ _ ?_))
        clear hK17 K17
        refine c_seq (fun K18 hK18 => ?_)
        refine c_seq (fun K19 hK19 => ?_)
        refine c_reg ?_ -- region 10 tmpl.go:36
        refine wl (ro_move rfl) ?_
        refine wl (ro_cmp (r := false) rfl rfl (congrArg some ((beqc d.toNat 36).trans (decide_eq_false (by omega))))) ?_
        refine wl_nil (x_then (hK19 _ _ ?_))
        clear hK19 K19
        refine wc_condF rfl ?_
        refine c_seq (fun K20 hK20 => ?_)
        refine c_reg ?_ -- region 12 tmpl.go:38
        refine wl (ro_move rfl) ?_
        refine wl (ro_cmp (r := false) rfl rfl (congrArg some (decide_eq_false (by omega)))) ?_
        refine wl (ro_move rfl) ?_
        refine wlg_no rfl ?_
        refine wlg_no rfl ?_
        refine wl (ro_pick rfl rfl rfl) ?_
        refine wl_nil (x_then (hK20 _ _ ?_))
        clear hK20 K20
        refine wc_condF rfl ?_
        refine c_seq (fun K21 hK21 => ?_)
        refine c_reg ?_ -- region 15 tmpl.go:42
        refine wl (ro_move rfl) ?_
        refine wl (ro_assign rfl) ?_
        refine wl_nil (x_then (hK21 _ _ ?_))
        clear hK21 K21
        refine c_ret (x_thenR (x_blkR (x_thenR (x_blkR (x_thenR ?_)))))
        refine bp_ret Tryz.results40 rfl ?_
        rw [← hres]; exact ⟨rfl, hB, ⟨_, hP, hV⟩, hpf, by show P.length ≤ 32; omega, hF⟩
      · skip
        have hil := (List.getElem?_eq_some_iff.1 hd).1
        rw [cmp_two hb hb36 hd, if_neg q.1, if_neg (by unfold isD; omega)] at hres
        refine c_reg ?_ -- region 7 tmpl.go:32
        refine wl (ro_move rfl) ?_
        refine wl (ro_arith (r := ((i + 1 : Nat) : Int)) rfl rfl rfl (Go.IntWalk.i64_in _ (by omega))) ?_
        refine wl (ro_move rfl) ?_
        refine wl (ro_lenS rfl st_9) ?_
        refine wl (ro_cmp (r := false) rfl rfl (congrArg some (decide_eq_false (by omega)))) ?_
        refine wl_nil (x_then (hK12 _ _ ?_))
        clear hK12 K12
        refine wc_condF rfl ?_
        refine c_skip (x_then (hK11 _ _ ?_))
        clear hK11 K11
        refine forget [(0, _), (1, _), (5, _)] ⟨rfl, rfl, rfl, trivial⟩ (fun e => ?_)
        refine c_seq (fun K22 hK22 => ?_)
        refine c_reg ?_ -- region 9 tmpl.go:35
        refine wl (ro_move rfl) ?_
        refine wl (ro_move rfl) ?_
        refine wl (ro_arith (r := ((i + 1 : Nat) : Int)) rfl rfl rfl (Go.IntWalk.i64_in _ (by omega))) ?_
        refine wl (ro_indexS rfl rfl st_9 rfl (hd)) ?_
        refine wl (ro_assign rfl) ?_
        refine wl_nil (x_then (hK22 _ _ ?_))
        clear hK22 K22
        refine c_seq (fun K23 hK23 => ?_)
        refine c_seq (fun K24 hK24 => ?_)
        refine c_reg ?_ -- region 10 tmpl.go:36
        refine wl (ro_move rfl) ?_
        refine wl (ro_cmp (r := false) rfl rfl (congrArg some ((beqc d.toNat 36).trans (decide_eq_false (by omega))))) ?_
        refine wl_nil (x_then (hK24 _ _ ?_))
        clear hK24 K24
        refine wc_condF rfl ?_
        refine c_seq (fun K25 hK25 => ?_)
        refine c_reg ?_ -- region 12 tmpl.go:38
        refine wl (ro_move rfl) ?_
        refine wl (ro_cmp (r := true) rfl rfl (congrArg some (decide_eq_true (by omega)))) ?_
        refine wl (ro_move rfl) ?_
        refine wlg_yes rfl (ro_move rfl) ?_
        refine wlg_yes rfl (ro_cmp (r := false) rfl rfl (congrArg some (decide_eq_false (by omega)))) ?_
        refine wl (ro_pick rfl rfl rfl) ?_
        refine wl_nil (x_then (hK25 _ _ ?_))
        clear hK25 K25
        refine wc_condF rfl ?_
        refine c_seq (fun K26 hK26 => ?_)
        refine c_reg ?_ -- region 15 tmpl.go:42
        refine wl (ro_move rfl) ?_
        refine wl (ro_assign rfl) ?_
        refine wl_nil (x_then (hK26 _ _ ?_))
        clear hK26 K26
        refine c_ret (x_thenR (x_blkR (x_thenR (x_blkR (x_thenR ?_)))))
        refine bp_ret Tryz.results40 rfl ?_
        rw [← hres]; exact ⟨rfl, hB, ⟨_, hP, hV⟩, hpf, by show P.length ≤ 32; omega, hF⟩
      · skip
        have hil := (List.getElem?_eq_some_iff.1 hd).1
        rw [cmp_two hb hb36 hd, if_neg q.1, if_pos (by unfold isD; omega)] at hres
        refine c_reg ?_ -- region 7 tmpl.go:32
        refine wl (ro_move rfl) ?_
        refine wl (ro_arith (r := ((i + 1 : Nat) : Int)) rfl rfl rfl (Go.IntWalk.i64_in _ (by omega))) ?_
        refine wl (ro_move rfl) ?_
        refine wl (ro_lenS rfl st_9) ?_
        refine wl (ro_cmp (r := false) rfl rfl (congrArg some (decide_eq_false (by omega)))) ?_
        refine wl_nil (x_then (hK12 _ _ ?_))
        clear hK12 K12
        refine wc_condF rfl ?_
        refine c_skip (x_then (hK11 _ _ ?_))
        clear hK11 K11
        refine forget [(0, _), (1, _), (5, _)] ⟨rfl, rfl, rfl, trivial⟩ (fun e => ?_)
        refine c_seq (fun K27 hK27 => ?_)
        refine c_reg ?_ -- region 9 tmpl.go:35
        refine wl (ro_move rfl) ?_
        refine wl (ro_move rfl) ?_
        refine wl (ro_arith (r := ((i + 1 : Nat) : Int)) rfl rfl rfl (Go.IntWalk.i64_in _ (by omega))) ?_
        refine wl (ro_indexS rfl rfl st_9 rfl (hd)) ?_
        refine wl (ro_assign rfl) ?_
        refine wl_nil (x_then (hK27 _ _ ?_))
        clear hK27 K27
        refine c_seq (fun K28 hK28 => ?_)
        refine c_seq (fun K29 hK29 => ?_)
        refine c_reg ?_ -- region 10 tmpl.go:36
        refine wl (ro_move rfl) ?_
        refine wl (ro_cmp (r := false) rfl rfl (congrArg some ((beqc d.toNat 36).trans (decide_eq_false (by omega))))) ?_
        refine wl_nil (x_then (hK29 _ _ ?_))
        clear hK29 K29
        refine wc_condF rfl ?_
        refine c_seq (fun K30 hK30 => ?_)
        refine c_reg ?_ -- region 12 tmpl.go:38
        refine wl (ro_move rfl) ?_
        refine wl (ro_cmp (r := true) rfl rfl (congrArg some (decide_eq_true (by omega)))) ?_
        refine wl (ro_move rfl) ?_
        refine wlg_yes rfl (ro_move rfl) ?_
        refine wlg_yes rfl (ro_cmp (r := true) rfl rfl (congrArg some (decide_eq_true (by omega)))) ?_
        refine wl (ro_pick rfl rfl rfl) ?_
        refine wl_nil (x_then (hK30 _ _ ?_))
        clear hK30 K30
        refine wc_condT rfl ?_
        refine c_seq (fun K31 hK31 => ?_)
        refine c_piL 13 [(0, false), (1, false), (2, false), (3, false), (4, false), (5, false), (6, false), (7, false), (8, false), (9, false), (10, false), (11, false), (12, false)] (SameH _) mixed (by kernel_rfl) rfl (by kernel_rfl) (po_then (po_then (po_blk (po_then (po_blk (po_then (po_bp))))))) (sameH_now _ _) ?_ -- region 13 tmpl.go:39
        refine ql_ro rfl (fun w hS => ro_move rfl) ?_
        refine ql_ro rfl (fun w hS => ro_nilCheck rfl) ?_
        refine ql_ro rfl (fun w hS => ro_fieldAddr (k := 3) rfl fo_120_3) ?_
        refine ql_ro rfl (fun w hS => ro_loadB rfl sc_118 (Blk.of_heap hB hS) (rfl)) ?_
        refine ql_ro rfl (fun w hS => ro_move rfl) ?_
        refine ql_ro rfl (fun w hS => ro_nilCheck rfl) ?_
        refine ql_ro rfl (fun w hS => ro_fieldAddr (k := 4) rfl fo_120_4) ?_
        refine ql_ro rfl (fun w hS => ro_loadB rfl sc_3 (Blk.of_heap hB hS) (rfl)) ?_
        refine ql_ro rfl (fun w hS => ro_move rfl) ?_
        refine ql_ro rfl (fun w hS => ro_arith (r := ((d.toNat - 48 : Nat) : Int)) rfl rfl (congrArg some (by show ((d.toNat : Nat) : Int) - 48 = _; omega)) (Go.IntWalk.u8_in _ (by omega))) ?_
        refine ql_ro rfl (fun w hS => ro_conv rfl sc_5 in_3 (Go.IntWalk.i64_in _ (by omega))) ?_
        refine ql_ro rfl (fun w hS => ro_build rfl bld_146_2) ?_
        refine ql_ro rfl (fun w hS => ro_indexAddr (et := 146) (k := 3) rfl rfl se_118 (rfl) ((by omega : P.length < 32))) ?_
        refine ql_puta rfl rfl rfl (by simp [Value.oneCell', i64c, u64c, u8c, ptr]) sz_146 (rfl) hP ((by rw [cel_len]; show _ + 3 ≤ _; omega)) ((cel_puts (P.length * 3) (by omega) rfl (by show _ + 3 ≤ _; omega))) (fun w2 hP F2 => ?_)
        replace hF := hF.thenDrew.thenO F2 (by first | exact .inr (by omega) | exact .inl rfl | exact .inl (by assumption))
        replace hB := F2.blkO hB (by omega)
        refine x_then (hK31 _ _ ?_)
        clear hK31 K31
        refine c_reg ?_ -- region 14 tmpl.go:40
        refine wl (ro_move rfl) ?_
        refine wl (ro_nilCheck rfl) ?_
        refine wl (ro_fieldAddr (k := 4) rfl fo_120_4) ?_
        refine wl (ro_loadB rfl sc_3 (hB) (rfl)) ?_
        refine wl (ro_arith (r := ((P.length + 1 : Nat) : Int)) rfl rfl rfl (Go.IntWalk.i64_in _ (by omega))) ?_
        refine wl (ro_nilCheck rfl) ?_
        refine wl (ro_fieldAddr (k := 4) rfl fo_120_4) ?_
        refine wl_put rfl rfl rfl sz_3 hB ((by simp)) (rfl) (fun w3 hB F3 => ?_)
        replace hF := hF.thenDrew.thenO F3 (by first | exact .inr (by omega) | exact .inl rfl | exact .inl (by assumption))
        replace hP := F3.blkO hP (by omega)
        refine wl_nil (x_then (hK28 _ _ ?_))
        clear hK28 K28
        refine c_reg ?_ -- region 16 tmpl.go:44
        refine wl (ro_move rfl) ?_
        refine wl (ro_arith (r := ((i + 2 : Nat) : Int)) rfl rfl rfl (Go.IntWalk.i64_in _ (by omega))) ?_
        refine wl (ro_assign rfl) ?_
        refine wl_nil (x_blk (x_then ?_))
        exact ⟨t.length - (i + 2), by omega, i + 2, P ++ [⟨0, 0, ((d.toNat - 48 : Nat) : Int)⟩], _, rfl, by omega, by rw [List.length_append]; show P.length + 1 ≤ _; omega, hpf.app (.inr ⟨by show (0 : Int) ≤ ((d.toNat - 48 : Nat) : Int); omega, by show ((d.toNat - 48 : Nat) : Int) ≤ 3; omega, rfl, rfl⟩) (fun Q p _ h ↦ by have h2 : ((d.toNat - 48 : Nat) : Int) < 0 := h.2.1; omega), hV.app ⟨0, 0, ((d.toNat - 48 : Nat) : Int)⟩, hres, by rw [List.length_append]; exact hB, hP, hF, kp _ ⟨rfl, rfl, rfl, trivial⟩⟩
  · try simp only [decide_eq_true_eq, decide_eq_false_iff_not, Bool.not_eq_true', Bool.not_eq_false', Bool.not_eq_eq_eq_not, Bool.not_true, Bool.not_false, beq_iff_eq, bne_iff_ne, ne_eq, beq_eq_false_iff_ne, bne_eq_false_iff_eq, gt_iff_lt, ge_iff_le, Int.not_lt, Int.not_le] at hc13
    refine c_exit (x_thenX (x_thenX (x_blkX (x_then (hK4 _ _ ?_)))))
    clear hK5 K5 hK4 K4
    refine forget [] trivial (fun e => ?_)
    refine c_seq (fun K32 hK32 => ?_)
    refine c_reg ?_ -- region 17 tmpl.go:46
    refine wl (ro_assign rfl) ?_
    refine wl_nil (x_then (hK32 _ _ ?_))
    clear hK32 K32
    refine c_ret ?_
    refine bp_ret Tryz.results40 rfl ?_
    have hie : i = t.length := by omega
    subst hie
    rw [List.drop_length] at hres
    rw [← hres]
    exact ⟨rfl, hB, ⟨_, hP, hV⟩, hpf, by show P.length ≤ 32; omega, hF⟩

end Go.Proofs.Qxb6500567aGreat
