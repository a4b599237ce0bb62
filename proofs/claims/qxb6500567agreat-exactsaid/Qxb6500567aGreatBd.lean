import Derived.Test.Qxb6500567aGreatBc
/- The real parser: numbers, braces, signs. -/
namespace Go.Proofs.Qxb6500567aGreat
set_option linter.unusedVariables false
set_option linter.unusedSimpArgs false

def cap4 (v : Int) : Int := if 3 < v then 4 else v

theorem drop_cons {p : List UInt8} {i : Nat} {b : UInt8} (h : p[i]? = some b) : p.drop i = b :: p.drop (i + 1) := by
  obtain ⟨h1, h2⟩ := List.getElem?_eq_some_iff.1 h
  rw [List.drop_eq_getElem_cons h1, h2]

theorem numF_stop {p : List UInt8} {i : Nat} {v : Int} (h : ∀ b, p[i]? = some b → isDig b = false) : numF (p.drop i) v = (v, 0) := by
  cases hb : p[i]? with
  | none =>
    have : p.drop i = [] := by
      rw [List.drop_eq_nil_iff]
      exact List.getElem?_eq_none_iff.1 hb
    rw [this]; rfl
  | some b =>
    rw [drop_cons hb]
    unfold numF
    rw [h b hb]
    simp

theorem numF_step {p : List UInt8} {i : Nat} {b : UInt8} {v : Int} (h : p[i]? = some b) (hd : isDig b = true) : numF (p.drop i) v = ((numF (p.drop (i + 1)) (digS v b)).1, (numF (p.drop (i + 1)) (digS v b)).2 + 1) := by
  rw [drop_cons h]
  conv => lhs; unfold numF
  rw [if_pos hd]

theorem isDig_iff {b : UInt8} : isDig b = true ↔ 48 ≤ b.toNat ∧ b.toNat ≤ 57 := by simp [isDig]
theorem isDig_not {b : UInt8} : isDig b = false ↔ b.toNat < 48 ∨ 57 < b.toNat := by
  cases h : isDig b with
  | false =>
    have h1 : ¬ (48 ≤ b.toNat ∧ b.toNat ≤ 57) := fun h1 => by rw [isDig_iff.2 h1] at h; cases h
    simp
    omega
  | true => have := isDig_iff.1 h; simp; omega

set_option maxHeartbeats 1000000 in
theorem number147 {w : World} {xb : Nat} {f : Nat → Value} {p : List UInt8} {σ : RS} {T : List RE} (hB : FB w.heap xb 325 f 96) (V : PV f p σ T) :
    Ret Tryz.prog 147 [ptr xb] w (fun r w' => r = icv (num p σ.i).1 ∧ (∃ f', FB w'.heap xb 325 f' 96 ∧ PV f' p { σ with i := (num p σ.i).2 } T) ∧ Fram (one xb) w w') := by
  have hF : Fram (one xb) w w := Fram.refl _ _
  have hpl := V.pl
  have hN : num p σ.i = ((numF (p.drop σ.i) (-1)).1, σ.i + (numF (p.drop σ.i) (-1)).2) := rfl
  refine ret_of Tryz.func147 rfl Tryz.ntmps147 rfl ?_
  refine c_seq (fun K1 hK1 => ?_)
  refine c_reg ?_ -- region 0 sign.go:6
  refine wl (ro_assign rfl) ?_
  refine wl_nil (x_then (hK1 _ _ ?_))
  clear hK1 K1
  refine forget [(0, _)] ⟨rfl, trivial⟩ (fun e => ?_)
  refine c_seq (fun K2 hK2 => ?_)
  refine c_reg ?_ -- region 1 sign.go:7
  refine wl (ro_assign rfl) ?_
  refine wl_nil (x_then (hK2 _ _ ?_))
  clear hK2 K2
  refine forget [(0, _), (3, _)] ⟨rfl, rfl, trivial⟩ (fun e => ?_)
  refine c_seq (fun K3 hK3 => ?_)
  refine c_block ?_
  -- loop@r2: live slots [0, 3]
  refine c_loopG (fun m a' w' => ∃ (i : Nat) (v : Int) (f1 : Nat → Value), m = p.length - i ∧ -1 ≤ v ∧ v ≤ 39 ∧ FB w'.heap xb 325 f1 96 ∧ PV f1 p { σ with i := i } T ∧ (numF (p.drop i) (cap4 v)).1 = (num p σ.i).1 ∧ i + (numF (p.drop i) (cap4 v)).2 = (num p σ.i).2 ∧ Fram (one xb) w w' ∧ ∃ e, a' = Fr 66 (upds e [(0, ptr xb), (3, icv v)]) []) (p.length - σ.i) ⟨σ.i, -1, f, rfl, by omega, by omega, hB, V, by rw [hN]; rfl, by rw [hN]; rfl, hF, kp _ ⟨rfl, rfl, trivial⟩⟩ ?_
  clear hB hF V
  rintro m a' w1 ⟨i, v, f1, rfl, hv1, hv2, hB, V, hr1, hr2, hF, e, rfl⟩
  have hi1 : f1 1 = i64c i := V.i1
  have hil : i ≤ p.length := V.il
  have hcase : (∃ b, p[i]? = some b ∧ isDig b = true) ∨ (∃ b, p[i]? = some b ∧ b.toNat < 48) ∨ (∃ b, p[i]? = some b ∧ 48 ≤ b.toNat ∧ 57 < b.toNat) ∨ p[i]? = none := by
    cases hb : p[i]? with
    | none => exact .inr (.inr (.inr rfl))
    | some b =>
      by_cases h1 : b.toNat < 48
      · exact .inr (.inl ⟨b, rfl, h1⟩)
      · by_cases h2 : 57 < b.toNat
        · exact .inr (.inr (.inl ⟨b, rfl, by omega, h2⟩))
        · exact .inl ⟨b, rfl, isDig_iff.2 ⟨by omega, by omega⟩⟩
  refine c_seq (fun K4 hK4 => ?_)
  refine c_seq (fun K5 hK5 => ?_)
  rcases hcase with ⟨b, hb, hd⟩ | ⟨b, hb, hd⟩ | ⟨b, hb, hd, hd'⟩ | hb
  · skip
    have hlt := get_lt hb
    have hdd := isDig_iff.1 hd
    refine c_pi [(0, false), (1, false), (2, false), (3, false), (4, false), (5, false), (6, false), (7, false), (8, false), (9, false), (10, false), (11, false), (12, false), (13, false), (14, false), (15, false), (16, false), (17, false), (18, false), (19, false), (20, false), (21, false), (22, false), (23, false), (24, false), (25, false), (26, false), (27, false), (28, false), (29, false), (30, false), (31, false), (32, false), (33, false)] (SameH _) mixed (by kernel_rfl) rfl (by kernel_rfl) (po_then (po_then (po_then (po_blk (po_then (po_bp)))))) (sameH_now _ _) ?_ -- region 2 sign.go:8
    refine pi_ro rfl (fun w hS => ro_move rfl) ?_
    refine pi_ro rfl (fun w hS => ro_nilCheck rfl) ?_
    refine pi_ro rfl (fun w hS => ro_fieldAddr (k := 1) rfl fo_96_1) ?_
    refine pi_ro rfl (fun w hS => ro_loadB rfl sc_3 (Blk.of_heap hB hS) (cel_get' (by omega) hi1)) ?_
    refine pi_ro rfl (fun w hS => ro_move rfl) ?_
    refine pi_ro rfl (fun w hS => ro_nilCheck rfl) ?_
    refine pi_ro rfl (fun w hS => ro_fieldAddr (k := 0) rfl fo_96_0) ?_
    refine pi_ro rfl (fun w hS => ro_loadB rfl sc_9 (Blk.of_heap hB hS) (cel_get' (by omega) V.p0)) ?_
    refine pi_ro rfl (fun w hS => ro_lenS rfl st_9) ?_
    refine pi_ro rfl (fun w hS => ro_cmp (r := true) rfl rfl (congrArg some (decide_eq_true (by omega)))) ?_
    refine pi_ro rfl (fun w hS => ro_move rfl) ?_
    refine pi_gyes rfl rfl (fun w hS => ro_move rfl) ?_
    refine pi_gyes rfl rfl (fun w hS => ro_nilCheck rfl) ?_
    refine pi_gyes rfl rfl (fun w hS => ro_fieldAddr (k := 0) rfl fo_96_0) ?_
    refine pi_gyes rfl rfl (fun w hS => ro_loadB rfl sc_9 (Blk.of_heap hB hS) (cel_get' (by omega) V.p0)) ?_
    refine pi_gyes rfl rfl (fun w hS => ro_move rfl) ?_
    refine pi_gyes rfl rfl (fun w hS => ro_nilCheck rfl) ?_
    refine pi_gyes rfl rfl (fun w hS => ro_fieldAddr (k := 1) rfl fo_96_1) ?_
    refine pi_gyes rfl rfl (fun w hS => ro_loadB rfl sc_3 (Blk.of_heap hB hS) (cel_get' (by omega) hi1)) ?_
    refine pi_gyes rfl rfl (fun w hS => ro_indexS rfl rfl st_9 (rfl) (hb)) ?_
    refine pi_gyes rfl rfl (fun w hS => ro_cmp (r := true) rfl rfl (congrArg some (decide_eq_true (by omega)))) ?_
    refine pi_ro rfl (fun w hS => ro_pick rfl rfl rfl) ?_
    refine pi_ro rfl (fun w hS => ro_move rfl) ?_
    refine pi_gyes rfl rfl (fun w hS => ro_move rfl) ?_
    refine pi_gyes rfl rfl (fun w hS => ro_nilCheck rfl) ?_
    refine pi_gyes rfl rfl (fun w hS => ro_fieldAddr (k := 0) rfl fo_96_0) ?_
    refine pi_gyes rfl rfl (fun w hS => ro_loadB rfl sc_9 (Blk.of_heap hB hS) (cel_get' (by omega) V.p0)) ?_
    refine pi_gyes rfl rfl (fun w hS => ro_move rfl) ?_
    refine pi_gyes rfl rfl (fun w hS => ro_nilCheck rfl) ?_
    refine pi_gyes rfl rfl (fun w hS => ro_fieldAddr (k := 1) rfl fo_96_1) ?_
    refine pi_gyes rfl rfl (fun w hS => ro_loadB rfl sc_3 (Blk.of_heap hB hS) (cel_get' (by omega) hi1)) ?_
    refine pi_gyes rfl rfl (fun w hS => ro_indexS rfl rfl st_9 (rfl) (hb)) ?_
    refine pi_gyes rfl rfl (fun w hS => ro_cmp (r := true) rfl rfl (congrArg some (decide_eq_true (by omega)))) ?_
    refine pi_ro rfl (fun w hS => ro_pick rfl rfl rfl) ?_
    replace hF := hF.thenDrew (k := w1.drawn + 1)
    refine pi_nil (x_then (hK5 _ _ ?_))
    clear hK5 K5
    refine wc_condT rfl ?_
    refine c_skip (x_then (hK4 _ _ ?_))
    clear hK4 K4
    refine c_block ?_
    refine c_seq (fun K6 hK6 => ?_)
    refine c_seq (fun K7 hK7 => ?_)
    refine c_reg ?_ -- region 3 sign.go:9
    refine wl (ro_move rfl) ?_
    refine wl (ro_cmp rfl rfl rfl) ?_
    refine wl_nil (x_then (hK7 _ _ ?_))
    clear hK7 K7
    refine wc_cond rfl (fun hc39 => ?_) (fun hc39 => ?_)
    · try simp only [decide_eq_true_eq, decide_eq_false_iff_not, Bool.not_eq_true', Bool.not_eq_false', Bool.not_eq_eq_eq_not, Bool.not_true, Bool.not_false, beq_iff_eq, bne_iff_ne, ne_eq, beq_eq_false_iff_ne, bne_eq_false_iff_eq, gt_iff_lt, ge_iff_le, Int.not_lt, Int.not_le] at hc39
      refine c_reg ?_ -- region 4 sign.go:10
      refine wl (ro_assign rfl) ?_
      refine wl_nil (x_then (hK6 _ _ ?_))
      clear hK6 K6
      refine c_seq (fun K8 hK8 => ?_)
      refine c_seq (fun K9 hK9 => ?_)
      refine c_reg ?_ -- region 5 sign.go:12
      refine wl (ro_move rfl) ?_
      refine wl (ro_cmp rfl rfl rfl) ?_
      refine wl_nil (x_then (hK9 _ _ ?_))
      clear hK9 K9
      refine wc_cond rfl (fun hc41 => ?_) (fun hc41 => ?_)
      · try simp only [decide_eq_true_eq, decide_eq_false_iff_not, Bool.not_eq_true', Bool.not_eq_false', Bool.not_eq_eq_eq_not, Bool.not_true, Bool.not_false, beq_iff_eq, bne_iff_ne, ne_eq, beq_eq_false_iff_ne, bne_eq_false_iff_eq, gt_iff_lt, ge_iff_le, Int.not_lt, Int.not_le] at hc41
        refine c_pi [(0, false), (1, false), (2, false), (3, false), (4, false), (5, false), (6, false), (7, false), (8, false), (9, false), (10, false), (11, false), (12, false), (13, false), (14, false)] (SameH _) mixed (by kernel_rfl) rfl (by kernel_rfl) (po_then (po_blk (po_then (po_blk (po_then (po_bp)))))) (sameH_now _ _) ?_ -- region 6 sign.go:13
        refine pi_ro rfl (fun w hS => ro_move rfl) ?_
        refine pi_ro rfl (fun w hS => ro_arith rfl rfl rfl (Go.IntWalk.i64_in _ (by omega))) ?_
        refine pi_ro rfl (fun w hS => ro_move rfl) ?_
        refine pi_ro rfl (fun w hS => ro_nilCheck rfl) ?_
        refine pi_ro rfl (fun w hS => ro_fieldAddr (k := 0) rfl fo_96_0) ?_
        refine pi_ro rfl (fun w hS => ro_loadB rfl sc_9 (Blk.of_heap hB hS) (cel_get' (by omega) V.p0)) ?_
        refine pi_ro rfl (fun w hS => ro_move rfl) ?_
        refine pi_ro rfl (fun w hS => ro_nilCheck rfl) ?_
        refine pi_ro rfl (fun w hS => ro_fieldAddr (k := 1) rfl fo_96_1) ?_
        refine pi_ro rfl (fun w hS => ro_loadB rfl sc_3 (Blk.of_heap hB hS) (cel_get' (by omega) hi1)) ?_
        refine pi_ro rfl (fun w hS => ro_indexS rfl rfl st_9 (rfl) (hb)) ?_
        refine pi_ro rfl (fun w hS => ro_arith rfl rfl rfl (Go.IntWalk.u8_in _ (by omega))) ?_
        refine pi_ro rfl (fun w hS => ro_conv rfl sc_5 in_3 (Go.IntWalk.i64_in _ (by omega))) ?_
        refine pi_ro rfl (fun w hS => ro_arith rfl rfl rfl (Go.IntWalk.i64_in _ (by omega))) ?_
        refine pi_ro rfl (fun w hS => ro_assign rfl) ?_
        replace hF := hF.thenDrew (k := w1.drawn + 1 + 1)
        refine pi_nil (x_then (hK8 _ _ ?_))
        clear hK8 K8
        refine c_reg ?_ -- region 7 sign.go:15
        refine wl (ro_move rfl) ?_
        refine wl (ro_nilCheck rfl) ?_
        refine wl (ro_fieldAddr (k := 1) rfl fo_96_1) ?_
        refine wl (ro_loadB rfl sc_3 (hB) (cel_get' (by omega) hi1)) ?_
        refine wl (ro_arith rfl rfl rfl (Go.IntWalk.i64_in _ (by omega))) ?_
        refine wl (ro_nilCheck rfl) ?_
        refine wl (ro_fieldAddr (k := 1) rfl fo_96_1) ?_
        refine wl_put rfl rfl rfl sz_3 hB ((cel_lt (by omega))) ((cel_put 1 (by omega))) (fun w1 hB F1 => ?_)
        replace hF := hF.thenDrew.thenO F1 (by first | exact .inr (by omega) | exact .inl rfl | exact .inl (by assumption))
        have hns := numF_step (v := cap4 v) hb hd
        rw [hns] at hr1 hr2
        have V' : PV (pt f1 1 (i64c (i + 1))) p { σ with i := i + 1 } T := V.setI (i := i + 1) (by omega)
        refine wl_nil (x_blk (x_then ?_))
        refine ⟨p.length - (i + 1), by omega, i + 1, _, _, rfl, ?_, ?_, hB, V', ?_, ?_, hF, kp _ ⟨rfl, rfl, trivial⟩⟩
        · omega
        · omega
        · refine (congrArg (fun u => (numF (p.drop (i + 1)) u).1) (?_ : cap4 _ = digS (cap4 v) b)).trans hr1
          unfold cap4 digS
          (repeat' split) <;> omega
        · refine (congrArg (fun u => i + 1 + (numF (p.drop (i + 1)) u).2) (?_ : cap4 _ = digS (cap4 v) b)).trans (by omega)
          unfold cap4 digS
          (repeat' split) <;> omega
      · try simp only [decide_eq_true_eq, decide_eq_false_iff_not, Bool.not_eq_true', Bool.not_eq_false', Bool.not_eq_eq_eq_not, Bool.not_true, Bool.not_false, beq_iff_eq, bne_iff_ne, ne_eq, beq_eq_false_iff_ne, bne_eq_false_iff_eq, gt_iff_lt, ge_iff_le, Int.not_lt, Int.not_le] at hc41
        refine c_skip (x_then (hK8 _ _ ?_))
        clear hK8 K8
        refine c_reg ?_ -- region 7 sign.go:15
        refine wl (ro_move rfl) ?_
        refine wl (ro_nilCheck rfl) ?_
        refine wl (ro_fieldAddr (k := 1) rfl fo_96_1) ?_
        refine wl (ro_loadB rfl sc_3 (hB) (cel_get' (by omega) hi1)) ?_
        refine wl (ro_arith rfl rfl rfl (Go.IntWalk.i64_in _ (by omega))) ?_
        refine wl (ro_nilCheck rfl) ?_
        refine wl (ro_fieldAddr (k := 1) rfl fo_96_1) ?_
        refine wl_put rfl rfl rfl sz_3 hB ((cel_lt (by omega))) ((cel_put 1 (by omega))) (fun w2 hB F2 => ?_)
        replace hF := hF.thenDrew.thenO F2 (by first | exact .inr (by omega) | exact .inl rfl | exact .inl (by assumption))
        have hns := numF_step (v := cap4 v) hb hd
        rw [hns] at hr1 hr2
        have V' : PV (pt f1 1 (i64c (i + 1))) p { σ with i := i + 1 } T := V.setI (i := i + 1) (by omega)
        refine wl_nil (x_blk (x_then ?_))
        refine ⟨p.length - (i + 1), by omega, i + 1, _, _, rfl, ?_, ?_, hB, V', ?_, ?_, hF, kp _ ⟨rfl, rfl, trivial⟩⟩
        · omega
        · omega
        · refine (congrArg (fun u => (numF (p.drop (i + 1)) u).1) (?_ : cap4 _ = digS (cap4 v) b)).trans hr1
          unfold cap4 digS
          (repeat' split) <;> omega
        · refine (congrArg (fun u => i + 1 + (numF (p.drop (i + 1)) u).2) (?_ : cap4 _ = digS (cap4 v) b)).trans (by omega)
          unfold cap4 digS
          (repeat' split) <;> omega
    · try simp only [decide_eq_true_eq, decide_eq_false_iff_not, Bool.not_eq_true', Bool.not_eq_false', Bool.not_eq_eq_eq_not, Bool.not_true, Bool.not_false, beq_iff_eq, bne_iff_ne, ne_eq, beq_eq_false_iff_ne, bne_eq_false_iff_eq, gt_iff_lt, ge_iff_le, Int.not_lt, Int.not_le] at hc39
      refine c_skip (x_then (hK6 _ _ ?_))
      clear hK6 K6
      refine c_seq (fun K10 hK10 => ?_)
      refine c_seq (fun K11 hK11 => ?_)
      refine c_reg ?_ -- region 5 sign.go:12
      refine wl (ro_move rfl) ?_
      refine wl (ro_cmp rfl rfl rfl) ?_
      refine wl_nil (x_then (hK11 _ _ ?_))
      clear hK11 K11
      refine wc_cond rfl (fun hc41 => ?_) (fun hc41 => ?_)
      · try simp only [decide_eq_true_eq, decide_eq_false_iff_not, Bool.not_eq_true', Bool.not_eq_false', Bool.not_eq_eq_eq_not, Bool.not_true, Bool.not_false, beq_iff_eq, bne_iff_ne, ne_eq, beq_eq_false_iff_ne, bne_eq_false_iff_eq, gt_iff_lt, ge_iff_le, Int.not_lt, Int.not_le] at hc41
        refine c_pi [(0, false), (1, false), (2, false), (3, false), (4, false), (5, false), (6, false), (7, false), (8, false), (9, false), (10, false), (11, false), (12, false), (13, false), (14, false)] (SameH _) mixed (by kernel_rfl) rfl (by kernel_rfl) (po_then (po_blk (po_then (po_blk (po_then (po_bp)))))) (sameH_now _ _) ?_ -- region 6 sign.go:13
        refine pi_ro rfl (fun w hS => ro_move rfl) ?_
        refine pi_ro rfl (fun w hS => ro_arith rfl rfl rfl (Go.IntWalk.i64_in _ (by omega))) ?_
        refine pi_ro rfl (fun w hS => ro_move rfl) ?_
        refine pi_ro rfl (fun w hS => ro_nilCheck rfl) ?_
        refine pi_ro rfl (fun w hS => ro_fieldAddr (k := 0) rfl fo_96_0) ?_
        refine pi_ro rfl (fun w hS => ro_loadB rfl sc_9 (Blk.of_heap hB hS) (cel_get' (by omega) V.p0)) ?_
        refine pi_ro rfl (fun w hS => ro_move rfl) ?_
        refine pi_ro rfl (fun w hS => ro_nilCheck rfl) ?_
        refine pi_ro rfl (fun w hS => ro_fieldAddr (k := 1) rfl fo_96_1) ?_
        refine pi_ro rfl (fun w hS => ro_loadB rfl sc_3 (Blk.of_heap hB hS) (cel_get' (by omega) hi1)) ?_
        refine pi_ro rfl (fun w hS => ro_indexS rfl rfl st_9 (rfl) (hb)) ?_
        refine pi_ro rfl (fun w hS => ro_arith rfl rfl rfl (Go.IntWalk.u8_in _ (by omega))) ?_
        refine pi_ro rfl (fun w hS => ro_conv rfl sc_5 in_3 (Go.IntWalk.i64_in _ (by omega))) ?_
        refine pi_ro rfl (fun w hS => ro_arith rfl rfl rfl (Go.IntWalk.i64_in _ (by omega))) ?_
        refine pi_ro rfl (fun w hS => ro_assign rfl) ?_
        replace hF := hF.thenDrew (k := w1.drawn + 1 + 1)
        refine pi_nil (x_then (hK10 _ _ ?_))
        clear hK10 K10
        refine c_reg ?_ -- region 7 sign.go:15
        refine wl (ro_move rfl) ?_
        refine wl (ro_nilCheck rfl) ?_
        refine wl (ro_fieldAddr (k := 1) rfl fo_96_1) ?_
        refine wl (ro_loadB rfl sc_3 (hB) (cel_get' (by omega) hi1)) ?_
        refine wl (ro_arith rfl rfl rfl (Go.IntWalk.i64_in _ (by omega))) ?_
        refine wl (ro_nilCheck rfl) ?_
        refine wl (ro_fieldAddr (k := 1) rfl fo_96_1) ?_
        refine wl_put rfl rfl rfl sz_3 hB ((cel_lt (by omega))) ((cel_put 1 (by omega))) (fun w3 hB F3 => ?_)
        replace hF := hF.thenDrew.thenO F3 (by first | exact .inr (by omega) | exact .inl rfl | exact .inl (by assumption))
        have hns := numF_step (v := cap4 v) hb hd
        rw [hns] at hr1 hr2
        have V' : PV (pt f1 1 (i64c (i + 1))) p { σ with i := i + 1 } T := V.setI (i := i + 1) (by omega)
        refine wl_nil (x_blk (x_then ?_))
        refine ⟨p.length - (i + 1), by omega, i + 1, _, _, rfl, ?_, ?_, hB, V', ?_, ?_, hF, kp _ ⟨rfl, rfl, trivial⟩⟩
        · omega
        · omega
        · refine (congrArg (fun u => (numF (p.drop (i + 1)) u).1) (?_ : cap4 _ = digS (cap4 v) b)).trans hr1
          unfold cap4 digS
          (repeat' split) <;> omega
        · refine (congrArg (fun u => i + 1 + (numF (p.drop (i + 1)) u).2) (?_ : cap4 _ = digS (cap4 v) b)).trans (by omega)
          unfold cap4 digS
          (repeat' split) <;> omega
      · try simp only [decide_eq_true_eq, decide_eq_false_iff_not, Bool.not_eq_true', Bool.not_eq_false', Bool.not_eq_eq_eq_not, Bool.not_true, Bool.not_false, beq_iff_eq, bne_iff_ne, ne_eq, beq_eq_false_iff_ne, bne_eq_false_iff_eq, gt_iff_lt, ge_iff_le, Int.not_lt, Int.not_le] at hc41
        refine c_skip (x_then (hK10 _ _ ?_))
        clear hK10 K10
        refine c_reg ?_ -- region 7 sign.go:15
        refine wl (ro_move rfl) ?_
        refine wl (ro_nilCheck rfl) ?_
        refine wl (ro_fieldAddr (k := 1) rfl fo_96_1) ?_
        refine wl (ro_loadB rfl sc_3 (hB) (cel_get' (by omega) hi1)) ?_
        refine wl (ro_arith rfl rfl rfl (Go.IntWalk.i64_in _ (by omega))) ?_
        refine wl (ro_nilCheck rfl) ?_
        refine wl (ro_fieldAddr (k := 1) rfl fo_96_1) ?_
        refine wl_put rfl rfl rfl sz_3 hB ((cel_lt (by omega))) ((cel_put 1 (by omega))) (fun w4 hB F4 => ?_)
        replace hF := hF.thenDrew.thenO F4 (by first | exact .inr (by omega) | exact .inl rfl | exact .inl (by assumption))
        have hns := numF_step (v := cap4 v) hb hd
        rw [hns] at hr1 hr2
        have V' : PV (pt f1 1 (i64c (i + 1))) p { σ with i := i + 1 } T := V.setI (i := i + 1) (by omega)
        refine wl_nil (x_blk (x_then ?_))
        refine ⟨p.length - (i + 1), by omega, i + 1, _, _, rfl, ?_, ?_, hB, V', ?_, ?_, hF, kp _ ⟨rfl, rfl, trivial⟩⟩
        · omega
        · omega
        · refine (congrArg (fun u => (numF (p.drop (i + 1)) u).1) (?_ : cap4 _ = digS (cap4 v) b)).trans hr1
          unfold cap4 digS
          (repeat' split) <;> omega
        · refine (congrArg (fun u => i + 1 + (numF (p.drop (i + 1)) u).2) (?_ : cap4 _ = digS (cap4 v) b)).trans (by omega)
          unfold cap4 digS
          (repeat' split) <;> omega
  · skip
    have hlt := get_lt hb
    have hst := numF_stop (p := p) (i := i) (v := cap4 v) (fun b' hb' => by rw [hb] at hb'; cases hb'; exact isDig_not.2 (.inl hd))
    refine c_pi [(0, false), (1, false), (2, false), (3, false), (4, false), (5, false), (6, false), (7, false), (8, false), (9, false), (10, false), (11, false), (12, false), (13, false), (14, false), (15, false), (16, false), (17, false), (18, false), (19, false), (20, false), (21, false), (22, false), (23, false), (24, false), (25, false), (26, false), (27, false), (28, false), (29, false), (30, false), (31, false), (32, false), (33, false)] (SameH _) mixed (by kernel_rfl) rfl (by kernel_rfl) (po_then (po_then (po_then (po_blk (po_then (po_bp)))))) (sameH_now _ _) ?_ -- region 2 sign.go:8
    refine pi_ro rfl (fun w hS => ro_move rfl) ?_
    refine pi_ro rfl (fun w hS => ro_nilCheck rfl) ?_
    refine pi_ro rfl (fun w hS => ro_fieldAddr (k := 1) rfl fo_96_1) ?_
    refine pi_ro rfl (fun w hS => ro_loadB rfl sc_3 (Blk.of_heap hB hS) (cel_get' (by omega) hi1)) ?_
    refine pi_ro rfl (fun w hS => ro_move rfl) ?_
    refine pi_ro rfl (fun w hS => ro_nilCheck rfl) ?_
    refine pi_ro rfl (fun w hS => ro_fieldAddr (k := 0) rfl fo_96_0) ?_
    refine pi_ro rfl (fun w hS => ro_loadB rfl sc_9 (Blk.of_heap hB hS) (cel_get' (by omega) V.p0)) ?_
    refine pi_ro rfl (fun w hS => ro_lenS rfl st_9) ?_
    refine pi_ro rfl (fun w hS => ro_cmp (r := true) rfl rfl (congrArg some (decide_eq_true (by omega)))) ?_
    refine pi_ro rfl (fun w hS => ro_move rfl) ?_
    refine pi_gyes rfl rfl (fun w hS => ro_move rfl) ?_
    refine pi_gyes rfl rfl (fun w hS => ro_nilCheck rfl) ?_
    refine pi_gyes rfl rfl (fun w hS => ro_fieldAddr (k := 0) rfl fo_96_0) ?_
    refine pi_gyes rfl rfl (fun w hS => ro_loadB rfl sc_9 (Blk.of_heap hB hS) (cel_get' (by omega) V.p0)) ?_
    refine pi_gyes rfl rfl (fun w hS => ro_move rfl) ?_
    refine pi_gyes rfl rfl (fun w hS => ro_nilCheck rfl) ?_
    refine pi_gyes rfl rfl (fun w hS => ro_fieldAddr (k := 1) rfl fo_96_1) ?_
    refine pi_gyes rfl rfl (fun w hS => ro_loadB rfl sc_3 (Blk.of_heap hB hS) (cel_get' (by omega) hi1)) ?_
    refine pi_gyes rfl rfl (fun w hS => ro_indexS rfl rfl st_9 (rfl) (hb)) ?_
    refine pi_gyes rfl rfl (fun w hS => ro_cmp (r := false) rfl rfl (congrArg some (decide_eq_false (by omega)))) ?_
    refine pi_ro rfl (fun w hS => ro_pick rfl rfl rfl) ?_
    refine pi_ro rfl (fun w hS => ro_move rfl) ?_
    refine pi_gno rfl rfl ?_
    refine pi_gno rfl rfl ?_
    refine pi_gno rfl rfl ?_
    refine pi_gno rfl rfl ?_
    refine pi_gno rfl rfl ?_
    refine pi_gno rfl rfl ?_
    refine pi_gno rfl rfl ?_
    refine pi_gno rfl rfl ?_
    refine pi_gno rfl rfl ?_
    refine pi_gno rfl rfl ?_
    refine pi_ro rfl (fun w hS => ro_pick rfl rfl rfl) ?_
    replace hF := hF.thenDrew (k := w1.drawn + 1)
    refine pi_nil (x_then (hK5 _ _ ?_))
    clear hK5 K5
    refine wc_condF rfl ?_
    refine c_exit (x_thenX (x_thenX (x_blkX (x_then (hK3 _ _ ?_)))))
    clear hK4 K4 hK3 K3
    refine c_seq (fun K12 hK12 => ?_)
    refine c_seq (fun K13 hK13 => ?_)
    refine c_reg ?_ -- region 8 sign.go:17
    refine wl (ro_move rfl) ?_
    refine wl (ro_cmp rfl rfl rfl) ?_
    refine wl_nil (x_then (hK13 _ _ ?_))
    clear hK13 K13
    refine wc_cond rfl (fun hc64 => ?_) (fun hc64 => ?_)
    · try simp only [decide_eq_true_eq, decide_eq_false_iff_not, Bool.not_eq_true', Bool.not_eq_false', Bool.not_eq_eq_eq_not, Bool.not_true, Bool.not_false, beq_iff_eq, bne_iff_ne, ne_eq, beq_eq_false_iff_ne, bne_eq_false_iff_eq, gt_iff_lt, ge_iff_le, Int.not_lt, Int.not_le] at hc64
      refine c_reg ?_ -- region 9 sign.go:18
      refine wl (ro_assign rfl) ?_
      refine wl_nil (x_then (hK12 _ _ ?_))
      clear hK12 K12
      refine forget [(3, _)] ⟨rfl, trivial⟩ (fun e => ?_)
      refine c_seq (fun K14 hK14 => ?_)
      refine c_reg ?_ -- region 10 sign.go:20
      refine wl (ro_move rfl) ?_
      refine wl (ro_assign rfl) ?_
      refine wl_nil (x_then (hK14 _ _ ?_))
      clear hK14 K14
      refine c_ret ?_
      refine bp_ret Tryz.results147 rfl ?_
      rw [hst] at hr1 hr2
      have hi2 : i = (num p σ.i).2 := by simpa using hr2
      rw [← hi2]
      refine ⟨?_, ⟨f1, hB, V⟩, hF⟩
      rw [← hr1]
      unfold cap4
      split
      · first | rfl | (exfalso; omega)
      · first | rfl | (exfalso; omega)
    · try simp only [decide_eq_true_eq, decide_eq_false_iff_not, Bool.not_eq_true', Bool.not_eq_false', Bool.not_eq_eq_eq_not, Bool.not_true, Bool.not_false, beq_iff_eq, bne_iff_ne, ne_eq, beq_eq_false_iff_ne, bne_eq_false_iff_eq, gt_iff_lt, ge_iff_le, Int.not_lt, Int.not_le] at hc64
      refine c_skip (x_then (hK12 _ _ ?_))
      clear hK12 K12
      refine forget [(3, _)] ⟨rfl, trivial⟩ (fun e => ?_)
      refine c_seq (fun K15 hK15 => ?_)
      refine c_reg ?_ -- region 10 sign.go:20
      refine wl (ro_move rfl) ?_
      refine wl (ro_assign rfl) ?_
      refine wl_nil (x_then (hK15 _ _ ?_))
      clear hK15 K15
      refine c_ret ?_
      refine bp_ret Tryz.results147 rfl ?_
      rw [hst] at hr1 hr2
      have hi2 : i = (num p σ.i).2 := by simpa using hr2
      rw [← hi2]
      refine ⟨?_, ⟨f1, hB, V⟩, hF⟩
      rw [← hr1]
      unfold cap4
      split
      · first | rfl | (exfalso; omega)
      · first | rfl | (exfalso; omega)
  · skip
    have hlt := get_lt hb
    have hst := numF_stop (p := p) (i := i) (v := cap4 v) (fun b' hb' => by rw [hb] at hb'; cases hb'; exact isDig_not.2 (.inr hd'))
    refine c_pi [(0, false), (1, false), (2, false), (3, false), (4, false), (5, false), (6, false), (7, false), (8, false), (9, false), (10, false), (11, false), (12, false), (13, false), (14, false), (15, false), (16, false), (17, false), (18, false), (19, false), (20, false), (21, false), (22, false), (23, false), (24, false), (25, false), (26, false), (27, false), (28, false), (29, false), (30, false), (31, false), (32, false), (33, false)] (SameH _) mixed (by kernel_rfl) rfl (by kernel_rfl) (po_then (po_then (po_then (po_blk (po_then (po_bp)))))) (sameH_now _ _) ?_ -- region 2 sign.go:8
    refine pi_ro rfl (fun w hS => ro_move rfl) ?_
    refine pi_ro rfl (fun w hS => ro_nilCheck rfl) ?_
    refine pi_ro rfl (fun w hS => ro_fieldAddr (k := 1) rfl fo_96_1) ?_
    refine pi_ro rfl (fun w hS => ro_loadB rfl sc_3 (Blk.of_heap hB hS) (cel_get' (by omega) hi1)) ?_
    refine pi_ro rfl (fun w hS => ro_move rfl) ?_
    refine pi_ro rfl (fun w hS => ro_nilCheck rfl) ?_
    refine pi_ro rfl (fun w hS => ro_fieldAddr (k := 0) rfl fo_96_0) ?_
    refine pi_ro rfl (fun w hS => ro_loadB rfl sc_9 (Blk.of_heap hB hS) (cel_get' (by omega) V.p0)) ?_
    refine pi_ro rfl (fun w hS => ro_lenS rfl st_9) ?_
    refine pi_ro rfl (fun w hS => ro_cmp (r := true) rfl rfl (congrArg some (decide_eq_true (by omega)))) ?_
    refine pi_ro rfl (fun w hS => ro_move rfl) ?_
    refine pi_gyes rfl rfl (fun w hS => ro_move rfl) ?_
    refine pi_gyes rfl rfl (fun w hS => ro_nilCheck rfl) ?_
    refine pi_gyes rfl rfl (fun w hS => ro_fieldAddr (k := 0) rfl fo_96_0) ?_
    refine pi_gyes rfl rfl (fun w hS => ro_loadB rfl sc_9 (Blk.of_heap hB hS) (cel_get' (by omega) V.p0)) ?_
    refine pi_gyes rfl rfl (fun w hS => ro_move rfl) ?_
    refine pi_gyes rfl rfl (fun w hS => ro_nilCheck rfl) ?_
    refine pi_gyes rfl rfl (fun w hS => ro_fieldAddr (k := 1) rfl fo_96_1) ?_
    refine pi_gyes rfl rfl (fun w hS => ro_loadB rfl sc_3 (Blk.of_heap hB hS) (cel_get' (by omega) hi1)) ?_
    refine pi_gyes rfl rfl (fun w hS => ro_indexS rfl rfl st_9 (rfl) (hb)) ?_
    refine pi_gyes rfl rfl (fun w hS => ro_cmp (r := true) rfl rfl (congrArg some (decide_eq_true (by omega)))) ?_
    refine pi_ro rfl (fun w hS => ro_pick rfl rfl rfl) ?_
    refine pi_ro rfl (fun w hS => ro_move rfl) ?_
    refine pi_gyes rfl rfl (fun w hS => ro_move rfl) ?_
    refine pi_gyes rfl rfl (fun w hS => ro_nilCheck rfl) ?_
    refine pi_gyes rfl rfl (fun w hS => ro_fieldAddr (k := 0) rfl fo_96_0) ?_
    refine pi_gyes rfl rfl (fun w hS => ro_loadB rfl sc_9 (Blk.of_heap hB hS) (cel_get' (by omega) V.p0)) ?_
    refine pi_gyes rfl rfl (fun w hS => ro_move rfl) ?_
    refine pi_gyes rfl rfl (fun w hS => ro_nilCheck rfl) ?_
    refine pi_gyes rfl rfl (fun w hS => ro_fieldAddr (k := 1) rfl fo_96_1) ?_
    refine pi_gyes rfl rfl (fun w hS => ro_loadB rfl sc_3 (Blk.of_heap hB hS) (cel_get' (by omega) hi1)) ?_
    refine pi_gyes rfl rfl (fun w hS => ro_indexS rfl rfl st_9 (rfl) (hb)) ?_
    refine pi_gyes rfl rfl (fun w hS => ro_cmp (r := false) rfl rfl (congrArg some (decide_eq_false (by omega)))) ?_
    refine pi_ro rfl (fun w hS => ro_pick rfl rfl rfl) ?_
    replace hF := hF.thenDrew (k := w1.drawn + 1)
    refine pi_nil (x_then (hK5 _ _ ?_))
    clear hK5 K5
    refine wc_condF rfl ?_
    refine c_exit (x_thenX (x_thenX (x_blkX (x_then (hK3 _ _ ?_)))))
    clear hK4 K4 hK3 K3
    refine c_seq (fun K16 hK16 => ?_)
    refine c_seq (fun K17 hK17 => ?_)
    refine c_reg ?_ -- region 8 sign.go:17
    refine wl (ro_move rfl) ?_
    refine wl (ro_cmp rfl rfl rfl) ?_
    refine wl_nil (x_then (hK17 _ _ ?_))
    clear hK17 K17
    refine wc_cond rfl (fun hc64 => ?_) (fun hc64 => ?_)
    · try simp only [decide_eq_true_eq, decide_eq_false_iff_not, Bool.not_eq_true', Bool.not_eq_false', Bool.not_eq_eq_eq_not, Bool.not_true, Bool.not_false, beq_iff_eq, bne_iff_ne, ne_eq, beq_eq_false_iff_ne, bne_eq_false_iff_eq, gt_iff_lt, ge_iff_le, Int.not_lt, Int.not_le] at hc64
      refine c_reg ?_ -- region 9 sign.go:18
      refine wl (ro_assign rfl) ?_
      refine wl_nil (x_then (hK16 _ _ ?_))
      clear hK16 K16
      refine forget [(3, _)] ⟨rfl, trivial⟩ (fun e => ?_)
      refine c_seq (fun K18 hK18 => ?_)
      refine c_reg ?_ -- region 10 sign.go:20
      refine wl (ro_move rfl) ?_
      refine wl (ro_assign rfl) ?_
      refine wl_nil (x_then (hK18 _ _ ?_))
      clear hK18 K18
      refine c_ret ?_
      refine bp_ret Tryz.results147 rfl ?_
      rw [hst] at hr1 hr2
      have hi2 : i = (num p σ.i).2 := by simpa using hr2
      rw [← hi2]
      refine ⟨?_, ⟨f1, hB, V⟩, hF⟩
      rw [← hr1]
      unfold cap4
      split
      · first | rfl | (exfalso; omega)
      · first | rfl | (exfalso; omega)
    · try simp only [decide_eq_true_eq, decide_eq_false_iff_not, Bool.not_eq_true', Bool.not_eq_false', Bool.not_eq_eq_eq_not, Bool.not_true, Bool.not_false, beq_iff_eq, bne_iff_ne, ne_eq, beq_eq_false_iff_ne, bne_eq_false_iff_eq, gt_iff_lt, ge_iff_le, Int.not_lt, Int.not_le] at hc64
      refine c_skip (x_then (hK16 _ _ ?_))
      clear hK16 K16
      refine forget [(3, _)] ⟨rfl, trivial⟩ (fun e => ?_)
      refine c_seq (fun K19 hK19 => ?_)
      refine c_reg ?_ -- region 10 sign.go:20
      refine wl (ro_move rfl) ?_
      refine wl (ro_assign rfl) ?_
      refine wl_nil (x_then (hK19 _ _ ?_))
      clear hK19 K19
      refine c_ret ?_
      refine bp_ret Tryz.results147 rfl ?_
      rw [hst] at hr1 hr2
      have hi2 : i = (num p σ.i).2 := by simpa using hr2
      rw [← hi2]
      refine ⟨?_, ⟨f1, hB, V⟩, hF⟩
      rw [← hr1]
      unfold cap4
      split
      · first | rfl | (exfalso; omega)
      · first | rfl | (exfalso; omega)
  · skip
    have hge : p.length ≤ i := List.getElem?_eq_none_iff.1 hb
    have hst := numF_stop (p := p) (i := i) (v := cap4 v) (fun b' hb' => by rw [hb] at hb'; cases hb')
    refine c_pi [(0, false), (1, false), (2, false), (3, false), (4, false), (5, false), (6, false), (7, false), (8, false), (9, false), (10, false), (11, false), (12, false), (13, false), (14, false), (15, false), (16, false), (17, false), (18, false), (19, false), (20, false), (21, false), (22, false), (23, false), (24, false), (25, false), (26, false), (27, false), (28, false), (29, false), (30, false), (31, false), (32, false), (33, false)] (SameH _) mixed (by kernel_rfl) rfl (by kernel_rfl) (po_then (po_then (po_then (po_blk (po_then (po_bp)))))) (sameH_now _ _) ?_ -- region 2 sign.go:8
    refine pi_ro rfl (fun w hS => ro_move rfl) ?_
    refine pi_ro rfl (fun w hS => ro_nilCheck rfl) ?_
    refine pi_ro rfl (fun w hS => ro_fieldAddr (k := 1) rfl fo_96_1) ?_
    refine pi_ro rfl (fun w hS => ro_loadB rfl sc_3 (Blk.of_heap hB hS) (cel_get' (by omega) hi1)) ?_
    refine pi_ro rfl (fun w hS => ro_move rfl) ?_
    refine pi_ro rfl (fun w hS => ro_nilCheck rfl) ?_
    refine pi_ro rfl (fun w hS => ro_fieldAddr (k := 0) rfl fo_96_0) ?_
    refine pi_ro rfl (fun w hS => ro_loadB rfl sc_9 (Blk.of_heap hB hS) (cel_get' (by omega) V.p0)) ?_
    refine pi_ro rfl (fun w hS => ro_lenS rfl st_9) ?_
    refine pi_ro rfl (fun w hS => ro_cmp (r := false) rfl rfl (congrArg some (decide_eq_false (by omega)))) ?_
    refine pi_ro rfl (fun w hS => ro_move rfl) ?_
    refine pi_gno rfl rfl ?_
    refine pi_gno rfl rfl ?_
    refine pi_gno rfl rfl ?_
    refine pi_gno rfl rfl ?_
    refine pi_gno rfl rfl ?_
    refine pi_gno rfl rfl ?_
    refine pi_gno rfl rfl ?_
    refine pi_gno rfl rfl ?_
    refine pi_gno rfl rfl ?_
    refine pi_gno rfl rfl ?_
    refine pi_ro rfl (fun w hS => ro_pick rfl rfl rfl) ?_
    refine pi_ro rfl (fun w hS => ro_move rfl) ?_
    refine pi_gno rfl rfl ?_
    refine pi_gno rfl rfl ?_
    refine pi_gno rfl rfl ?_
    refine pi_gno rfl rfl ?_
    refine pi_gno rfl rfl ?_
    refine pi_gno rfl rfl ?_
    refine pi_gno rfl rfl ?_
    refine pi_gno rfl rfl ?_
    refine pi_gno rfl rfl ?_
    refine pi_gno rfl rfl ?_
    refine pi_ro rfl (fun w hS => ro_pick rfl rfl rfl) ?_
    replace hF := hF.thenDrew (k := w1.drawn + 1)
    refine pi_nil (x_then (hK5 _ _ ?_))
    clear hK5 K5
    refine wc_condF rfl ?_
    refine c_exit (x_thenX (x_thenX (x_blkX (x_then (hK3 _ _ ?_)))))
    clear hK4 K4 hK3 K3
    refine c_seq (fun K20 hK20 => ?_)
    refine c_seq (fun K21 hK21 => ?_)
    refine c_reg ?_ -- region 8 sign.go:17
    refine wl (ro_move rfl) ?_
    refine wl (ro_cmp rfl rfl rfl) ?_
    refine wl_nil (x_then (hK21 _ _ ?_))
    clear hK21 K21
    refine wc_cond rfl (fun hc64 => ?_) (fun hc64 => ?_)
    · try simp only [decide_eq_true_eq, decide_eq_false_iff_not, Bool.not_eq_true', Bool.not_eq_false', Bool.not_eq_eq_eq_not, Bool.not_true, Bool.not_false, beq_iff_eq, bne_iff_ne, ne_eq, beq_eq_false_iff_ne, bne_eq_false_iff_eq, gt_iff_lt, ge_iff_le, Int.not_lt, Int.not_le] at hc64
      refine c_reg ?_ -- region 9 sign.go:18
      refine wl (ro_assign rfl) ?_
      refine wl_nil (x_then (hK20 _ _ ?_))
      clear hK20 K20
      refine forget [(3, _)] ⟨rfl, trivial⟩ (fun e => ?_)
      refine c_seq (fun K22 hK22 => ?_)
      refine c_reg ?_ -- region 10 sign.go:20
      refine wl (ro_move rfl) ?_
      refine wl (ro_assign rfl) ?_
      refine wl_nil (x_then (hK22 _ _ ?_))
      clear hK22 K22
      refine c_ret ?_
      refine bp_ret Tryz.results147 rfl ?_
      rw [hst] at hr1 hr2
      have hi2 : i = (num p σ.i).2 := by simpa using hr2
      rw [← hi2]
      refine ⟨?_, ⟨f1, hB, V⟩, hF⟩
      rw [← hr1]
      unfold cap4
      split
      · first | rfl | (exfalso; omega)
      · first | rfl | (exfalso; omega)
    · try simp only [decide_eq_true_eq, decide_eq_false_iff_not, Bool.not_eq_true', Bool.not_eq_false', Bool.not_eq_eq_eq_not, Bool.not_true, Bool.not_false, beq_iff_eq, bne_iff_ne, ne_eq, beq_eq_false_iff_ne, bne_eq_false_iff_eq, gt_iff_lt, ge_iff_le, Int.not_lt, Int.not_le] at hc64
      refine c_skip (x_then (hK20 _ _ ?_))
      clear hK20 K20
      refine forget [(3, _)] ⟨rfl, trivial⟩ (fun e => ?_)
      refine c_seq (fun K23 hK23 => ?_)
      refine c_reg ?_ -- region 10 sign.go:20
      refine wl (ro_move rfl) ?_
      refine wl (ro_assign rfl) ?_
      refine wl_nil (x_then (hK23 _ _ ?_))
      clear hK23 K23
      refine c_ret ?_
      refine bp_ret Tryz.results147 rfl ?_
      rw [hst] at hr1 hr2
      have hi2 : i = (num p σ.i).2 := by simpa using hr2
      rw [← hi2]
      refine ⟨?_, ⟨f1, hB, V⟩, hF⟩
      rw [← hr1]
      unfold cap4
      split
      · first | rfl | (exfalso; omega)
      · first | rfl | (exfalso; omega)

theorem brcB_ok {p : List UInt8} {a : Int × Nat} (h1 : -1 ≤ a.1) (h2 : a.1 ≤ 4) : -1 ≤ (brcB p a).1 ∧ (brcB p a).1 ≤ 4 := by
  unfold brcB
  split
  · rename_i h
    have := get_lt h
    have := num_ok (p := p) (i := a.2 + 1) (by omega)
    omega
  · omega

/-- What braces leaves. -/
def BrP (xb : Nat) (p : List UInt8) (σ : RS) (T : List RE) (r : Value) (w' : World) : Prop :=
  match brc p σ.i with
  | some (lo, hi, j) => r = .tuple #[i64c lo, icv (mxI hi)] ∧ ∃ f', FB w'.heap xb 325 f' 96 ∧ PV f' p { σ with i := j } T
  | none => r = .tuple #[icv 0, icv 0] ∧ ∃ f', FB w'.heap xb 325 f' 96 ∧ ERR f' (3, σ.i)

theorem brP_no {xb : Nat} {p : List UInt8} {σ : RS} {T : List RE} {f' : Nat → Value} {w' : World} (h : ¬ (p[(brcB p (num p (σ.i + 1))).2]? = some 125 ∧ 0 ≤ (num p (σ.i + 1)).1 ∧ (num p (σ.i + 1)).1 ≤ 3 ∧ (brcB p (num p (σ.i + 1))).1 ≤ 3 ∧ (0 ≤ (brcB p (num p (σ.i + 1))).1 → (num p (σ.i + 1)).1 ≤ (brcB p (num p (σ.i + 1))).1))) (hB : FB w'.heap xb 325 f' 96) (hE : ERR f' (3, σ.i)) : BrP xb p σ T (.tuple #[icv 0, icv 0]) w' := by
  unfold BrP brc
  rw [if_neg h]
  exact ⟨rfl, f', hB, hE⟩

theorem brP_ok {xb : Nat} {p : List UInt8} {σ : RS} {T : List RE} {f' : Nat → Value} {w' : World} (h : (p[(brcB p (num p (σ.i + 1))).2]? = some 125 ∧ 0 ≤ (num p (σ.i + 1)).1 ∧ (num p (σ.i + 1)).1 ≤ 3 ∧ (brcB p (num p (σ.i + 1))).1 ≤ 3 ∧ (0 ≤ (brcB p (num p (σ.i + 1))).1 → (num p (σ.i + 1)).1 ≤ (brcB p (num p (σ.i + 1))).1))) (hm : -1 ≤ (brcB p (num p (σ.i + 1))).1) (hB : FB w'.heap xb 325 f' 96) (hV : PV f' p { σ with i := (brcB p (num p (σ.i + 1))).2 + 1 } T) : BrP xb p σ T (.tuple #[icv (num p (σ.i + 1)).1, icv (brcB p (num p (σ.i + 1))).1]) w' := by
  unfold BrP brc
  rw [if_pos h]
  refine ⟨?_, f', hB, hV⟩
  have h1 : icv (num p (σ.i + 1)).1 = i64c (num p (σ.i + 1)).1.toNat := by unfold i64c icv; congr 1; omega
  have h2 : icv (brcB p (num p (σ.i + 1))).1 = icv (mxI (mxO (brcB p (num p (σ.i + 1))).1)) := by
    unfold mxO
    split
    · simp only [mxI]; congr 1; omega
    · simp only [mxI]; congr 1; omega
  rw [h1, h2]

set_option maxHeartbeats 2000000 in
theorem braces138 {w : World} {xb : Nat} {f : Nat → Value} {p : List UInt8} {σ : RS} {T : List RE} (hB : FB w.heap xb 325 f 96) (V : PV f p σ T) (hi : σ.i < p.length) :
    Ret Tryz.prog 138 [ptr xb] w (fun r w' => BrP xb p σ T r w' ∧ Fram (one xb) w w') := by
  have hF : Fram (one xb) w w := Fram.refl _ _
  have hpl := V.pl
  have V1 : PV (pt f 1 (i64c (σ.i + 1))) p { σ with i := σ.i + 1 } T := V.setI hi
  have hA := num_ok (p := p) (i := σ.i + 1) (by omega)
  refine ret_of Tryz.func138 rfl Tryz.ntmps138 rfl ?_
  refine c_seq (fun K1 hK1 => ?_)
  refine c_reg ?_ -- region 0 sign.go:24
  refine wl (ro_assign rfl) ?_
  refine wl (ro_assign rfl) ?_
  refine wl_nil (x_then (hK1 _ _ ?_))
  clear hK1 K1
  refine forget [(0, _)] ⟨rfl, trivial⟩ (fun e => ?_)
  refine c_seq (fun K2 hK2 => ?_)
  refine c_reg ?_ -- region 1 sign.go:25
  refine wl (ro_move rfl) ?_
  refine wl (ro_nilCheck rfl) ?_
  refine wl (ro_fieldAddr (k := 1) rfl fo_96_1) ?_
  refine wl (ro_loadB rfl sc_3 (hB) (cel_get' (by omega) V.i1)) ?_
  refine wl (ro_assign rfl) ?_
  refine wl_nil (x_then (hK2 _ _ ?_))
  clear hK2 K2
  refine forget [(0, _), (4, _)] ⟨rfl, rfl, trivial⟩ (fun e => ?_)
  refine c_seq (fun K3 hK3 => ?_)
  refine c_reg ?_ -- region 2 sign.go:26
  refine wl (ro_move rfl) ?_
  refine wl (ro_move rfl) ?_
  refine wl (ro_arith rfl rfl rfl (Go.IntWalk.i64_in _ (by omega))) ?_
  refine wl (ro_nilCheck rfl) ?_
  refine wl (ro_fieldAddr (k := 1) rfl fo_96_1) ?_
  refine wl_put rfl rfl rfl sz_3 hB ((cel_lt (by omega))) ((cel_put 1 (by omega))) (fun w1 hB F1 => ?_)
  replace hF := hF.thenDrew.thenO F1 (by first | exact .inr (by omega) | exact .inl rfl | exact .inl (by assumption))
  refine wl_nil (x_then (hK3 _ _ ?_))
  clear hK3 K3
  refine forget [(0, _), (4, _)] ⟨rfl, rfl, trivial⟩ (fun e => ?_)
  refine c_seq (fun K4 hK4 => ?_)
  refine c_reg ?_ -- region 3 sign.go:27
  refine wl (ro_move rfl) ?_
  refine wl_call rfl en_147 (number147 hB V1) ?_
  rintro _ w2 ⟨rfl, ⟨f2, hB, V2⟩, F2⟩
  replace hF := hF.trans F2
  have V2' : PV f2 p { σ with i := (num p (σ.i + 1)).2 } T := V2
  clear V2 V1
  have hi2 : f2 1 = i64c (num p (σ.i + 1)).2 := V2'.i1
  have hp2 := V2'.p0
  refine wl (ro_assign rfl) ?_
  refine wl_nil (x_then (hK4 _ _ ?_))
  clear hK4 K4
  refine forget [(0, _), (4, _), (5, _)] ⟨rfl, rfl, rfl, trivial⟩ (fun e => ?_)
  refine c_seq (fun K5 hK5 => ?_)
  refine c_reg ?_ -- region 4 sign.go:28
  refine wl (ro_move rfl) ?_
  refine wl (ro_assign rfl) ?_
  refine wl_nil (x_then (hK5 _ _ ?_))
  clear hK5 K5
  refine c_mid (fun a' w' => ∃ (f3 : Nat → Value), FB w'.heap xb 325 f3 96 ∧ PV f3 p { σ with i := (brcB p (num p (σ.i + 1))).2 } T ∧ Fram (one xb) w w' ∧ ∃ e, a' = Fr 108 (upds e [(0, ptr xb), (4, i64c σ.i), (5, icv (num p (σ.i + 1)).1), (6, icv (brcB p (num p (σ.i + 1))).1)]) []) ?_ ?_
  · skip
    refine c_seq (fun K6 hK6 => ?_)
    rcases hcc : p[(num p (σ.i + 1)).2]? with _ | c
    · skip
      have hge : p.length ≤ (num p (σ.i + 1)).2 := List.getElem?_eq_none_iff.1 hcc
      refine c_pi [(0, false), (1, false), (2, false), (3, false), (4, false), (5, false), (6, false), (7, false), (8, false), (9, false), (10, false), (11, false), (12, false), (13, false), (14, false), (15, false), (16, false), (17, false), (18, false), (19, false), (20, false), (21, false)] (SameH _) mixed (by kernel_rfl) rfl (by kernel_rfl) (po_then (po_then (po_bp))) (sameH_now _ _) ?_ -- region 5 sign.go:29
      refine pi_ro rfl (fun w hS => ro_move rfl) ?_
      refine pi_ro rfl (fun w hS => ro_nilCheck rfl) ?_
      refine pi_ro rfl (fun w hS => ro_fieldAddr (k := 1) rfl fo_96_1) ?_
      refine pi_ro rfl (fun w hS => ro_loadB rfl sc_3 (Blk.of_heap hB hS) (cel_get' (by omega) hi2)) ?_
      refine pi_ro rfl (fun w hS => ro_move rfl) ?_
      refine pi_ro rfl (fun w hS => ro_nilCheck rfl) ?_
      refine pi_ro rfl (fun w hS => ro_fieldAddr (k := 0) rfl fo_96_0) ?_
      refine pi_ro rfl (fun w hS => ro_loadB rfl sc_9 (Blk.of_heap hB hS) (cel_get' (by omega) hp2)) ?_
      refine pi_ro rfl (fun w hS => ro_lenS rfl st_9) ?_
      refine pi_ro rfl (fun w hS => ro_cmp (r := false) rfl rfl (congrArg some (decide_eq_false (by omega)))) ?_
      refine pi_ro rfl (fun w hS => ro_move rfl) ?_
      refine pi_gno rfl rfl ?_
      refine pi_gno rfl rfl ?_
      refine pi_gno rfl rfl ?_
      refine pi_gno rfl rfl ?_
      refine pi_gno rfl rfl ?_
      refine pi_gno rfl rfl ?_
      refine pi_gno rfl rfl ?_
      refine pi_gno rfl rfl ?_
      refine pi_gno rfl rfl ?_
      refine pi_gno rfl rfl ?_
      refine pi_ro rfl (fun w hS => ro_pick rfl rfl rfl) ?_
      replace hF := hF.thenDrew (k := w2.drawn + 1)
      refine pi_nil (x_then (hK6 _ _ ?_))
      clear hK6 K6
      refine wc_cond rfl (fun hc41 => ?_) (fun hc41 => ?_)
      · try simp only [decide_eq_true_eq, decide_eq_false_iff_not, Bool.not_eq_true', Bool.not_eq_false', Bool.not_eq_eq_eq_not, Bool.not_true, Bool.not_false, beq_iff_eq, bne_iff_ne, ne_eq, beq_eq_false_iff_ne, bne_eq_false_iff_eq, gt_iff_lt, ge_iff_le, Int.not_lt, Int.not_le] at hc41
        cases hc41
      · try simp only [decide_eq_true_eq, decide_eq_false_iff_not, Bool.not_eq_true', Bool.not_eq_false', Bool.not_eq_eq_eq_not, Bool.not_true, Bool.not_false, beq_iff_eq, bne_iff_ne, ne_eq, beq_eq_false_iff_ne, bne_eq_false_iff_eq, gt_iff_lt, ge_iff_le, Int.not_lt, Int.not_le] at hc41
        refine c_skip (x_then ?_)
        have hBB : brcB p (num p (σ.i + 1)) = num p (σ.i + 1) := by unfold brcB; rw [hcc]; rfl
        exact ⟨f2, hB, by rw [hBB]; exact V2', hF, kp _ ⟨rfl, rfl, rfl, by rw [hBB]; rfl, trivial⟩⟩
    · skip
      have hlt := get_lt hcc
      refine c_pi [(0, false), (1, false), (2, false), (3, false), (4, false), (5, false), (6, false), (7, false), (8, false), (9, false), (10, false), (11, false), (12, false), (13, false), (14, false), (15, false), (16, false), (17, false), (18, false), (19, false), (20, false), (21, false)] (SameH _) mixed (by kernel_rfl) rfl (by kernel_rfl) (po_then (po_then (po_bp))) (sameH_now _ _) ?_ -- region 5 sign.go:29
      refine pi_ro rfl (fun w hS => ro_move rfl) ?_
      refine pi_ro rfl (fun w hS => ro_nilCheck rfl) ?_
      refine pi_ro rfl (fun w hS => ro_fieldAddr (k := 1) rfl fo_96_1) ?_
      refine pi_ro rfl (fun w hS => ro_loadB rfl sc_3 (Blk.of_heap hB hS) (cel_get' (by omega) hi2)) ?_
      refine pi_ro rfl (fun w hS => ro_move rfl) ?_
      refine pi_ro rfl (fun w hS => ro_nilCheck rfl) ?_
      refine pi_ro rfl (fun w hS => ro_fieldAddr (k := 0) rfl fo_96_0) ?_
      refine pi_ro rfl (fun w hS => ro_loadB rfl sc_9 (Blk.of_heap hB hS) (cel_get' (by omega) hp2)) ?_
      refine pi_ro rfl (fun w hS => ro_lenS rfl st_9) ?_
      refine pi_ro rfl (fun w hS => ro_cmp (r := true) rfl rfl (congrArg some (decide_eq_true (by omega)))) ?_
      refine pi_ro rfl (fun w hS => ro_move rfl) ?_
      refine pi_gyes rfl rfl (fun w hS => ro_move rfl) ?_
      refine pi_gyes rfl rfl (fun w hS => ro_nilCheck rfl) ?_
      refine pi_gyes rfl rfl (fun w hS => ro_fieldAddr (k := 0) rfl fo_96_0) ?_
      refine pi_gyes rfl rfl (fun w hS => ro_loadB rfl sc_9 (Blk.of_heap hB hS) (cel_get' (by omega) hp2)) ?_
      refine pi_gyes rfl rfl (fun w hS => ro_move rfl) ?_
      refine pi_gyes rfl rfl (fun w hS => ro_nilCheck rfl) ?_
      refine pi_gyes rfl rfl (fun w hS => ro_fieldAddr (k := 1) rfl fo_96_1) ?_
      refine pi_gyes rfl rfl (fun w hS => ro_loadB rfl sc_3 (Blk.of_heap hB hS) (cel_get' (by omega) hi2)) ?_
      refine pi_gyes rfl rfl (fun w hS => ro_indexS rfl rfl st_9 (rfl) (hcc)) ?_
      refine pi_gyes rfl rfl (fun w hS => ro_cmp (r := decide (c = 44)) rfl rfl (congrArg some (u8eq c 44))) ?_
      refine pi_ro rfl (fun w hS => ro_pick rfl rfl rfl) ?_
      replace hF := hF.thenDrew (k := w2.drawn + 1)
      refine pi_nil (x_then (hK6 _ _ ?_))
      clear hK6 K6
      refine wc_cond rfl (fun hc41 => ?_) (fun hc41 => ?_)
      · try simp only [decide_eq_true_eq, decide_eq_false_iff_not, Bool.not_eq_true', Bool.not_eq_false', Bool.not_eq_eq_eq_not, Bool.not_true, Bool.not_false, beq_iff_eq, bne_iff_ne, ne_eq, beq_eq_false_iff_ne, bne_eq_false_iff_eq, gt_iff_lt, ge_iff_le, Int.not_lt, Int.not_le] at hc41
        have h44 : c = 44 := by simpa using hc41
        subst h44
        have hBB : brcB p (num p (σ.i + 1)) = num p ((num p (σ.i + 1)).2 + 1) := by unfold brcB; rw [if_pos hcc]
        refine c_seq (fun K7 hK7 => ?_)
        refine c_reg ?_ -- region 6 sign.go:30
        refine wl (ro_move rfl) ?_
        refine wl (ro_nilCheck rfl) ?_
        refine wl (ro_fieldAddr (k := 1) rfl fo_96_1) ?_
        refine wl (ro_loadB rfl sc_3 (hB) (cel_get' (by omega) hi2)) ?_
        refine wl (ro_arith rfl rfl rfl (Go.IntWalk.i64_in _ (by omega))) ?_
        refine wl (ro_nilCheck rfl) ?_
        refine wl (ro_fieldAddr (k := 1) rfl fo_96_1) ?_
        refine wl_put rfl rfl rfl sz_3 hB ((cel_lt (by omega))) ((cel_put 1 (by omega))) (fun w2 hB F2 => ?_)
        replace hF := hF.thenDrew.thenO F2 (by first | exact .inr (by omega) | exact .inl rfl | exact .inl (by assumption))
        have V3 : PV (pt f2 1 (i64c ((num p (σ.i + 1)).2 + 1))) p { σ with i := (num p (σ.i + 1)).2 + 1 } T := V2'.setI (i := (num p (σ.i + 1)).2 + 1) (by omega)
        refine wl_nil (x_then (hK7 _ _ ?_))
        clear hK7 K7
        refine c_reg ?_ -- region 7 sign.go:31
        refine wl (ro_move rfl) ?_
        refine wl_call rfl en_147 (number147 hB V3) ?_
        rintro _ w4 ⟨rfl, ⟨f4, hB, V4⟩, F4⟩
        replace hF := hF.trans F4
        have V4' : PV f4 p { σ with i := (brcB p (num p (σ.i + 1))).2 } T := by rw [hBB]; exact V4
        refine wl (ro_assign rfl) ?_
        refine wl_nil (x_then ?_)
        exact ⟨f4, hB, V4', hF, kp _ ⟨rfl, rfl, rfl, by rw [hBB]; rfl, trivial⟩⟩
      · try simp only [decide_eq_true_eq, decide_eq_false_iff_not, Bool.not_eq_true', Bool.not_eq_false', Bool.not_eq_eq_eq_not, Bool.not_true, Bool.not_false, beq_iff_eq, bne_iff_ne, ne_eq, beq_eq_false_iff_ne, bne_eq_false_iff_eq, gt_iff_lt, ge_iff_le, Int.not_lt, Int.not_le] at hc41
        refine c_skip (x_then ?_)
        have h44 : c ≠ 44 := by simpa using hc41
        have hBB : brcB p (num p (σ.i + 1)) = num p (σ.i + 1) := by unfold brcB; rw [hcc, if_neg (by simpa using h44)]
        exact ⟨f2, hB, by rw [hBB]; exact V2', hF, kp _ ⟨rfl, rfl, rfl, by rw [hBB]; rfl, trivial⟩⟩
  clear hB hF V V2' hi2 hp2
  rintro a' w3 ⟨f3, hB, V3, hF, e, rfl⟩
  have hi3 : f3 1 = i64c (brcB p (num p (σ.i + 1))).2 := V3.i1
  have hp3 : f3 0 = S p := V3.p0
  have hil3 : (brcB p (num p (σ.i + 1))).2 ≤ p.length := V3.il
  have hB1 := brcB_ok (p := p) (a := num p (σ.i + 1)) hA.1 hA.2.1
  refine c_seq (fun K8 hK8 => ?_)
  rcases hcc : p[(brcB p (num p (σ.i + 1))).2]? with _ | c
  rotate_left
  by_cases h125 : c = 125
  · skip
    have hlt := get_lt hcc
    subst h125
    have hq : (num p (σ.i + 1)).1 < 0 ∨ (0 ≤ (num p (σ.i + 1)).1 ∧ 3 < (num p (σ.i + 1)).1) ∨ (0 ≤ (num p (σ.i + 1)).1 ∧ (num p (σ.i + 1)).1 ≤ 3 ∧ 3 < (brcB p (num p (σ.i + 1))).1) ∨ (0 ≤ (num p (σ.i + 1)).1 ∧ (num p (σ.i + 1)).1 ≤ 3 ∧ (brcB p (num p (σ.i + 1))).1 ≤ 3 ∧ 0 ≤ (brcB p (num p (σ.i + 1))).1 ∧ (brcB p (num p (σ.i + 1))).1 < (num p (σ.i + 1)).1) ∨ (0 ≤ (num p (σ.i + 1)).1 ∧ (num p (σ.i + 1)).1 ≤ 3 ∧ (brcB p (num p (σ.i + 1))).1 ≤ 3 ∧ 0 ≤ (brcB p (num p (σ.i + 1))).1 ∧ (num p (σ.i + 1)).1 ≤ (brcB p (num p (σ.i + 1))).1) ∨ (0 ≤ (num p (σ.i + 1)).1 ∧ (num p (σ.i + 1)).1 ≤ 3 ∧ (brcB p (num p (σ.i + 1))).1 < 0) := by omega
    refine c_pi [(0, false), (1, false), (2, false), (3, false), (4, false), (5, false), (6, false), (7, false), (8, false), (9, false), (10, false), (11, false), (12, false), (13, false), (14, false), (15, false), (16, false), (17, false), (18, false), (19, false), (20, false), (21, false), (22, false)] (SameH _) mixed (by kernel_rfl) rfl (by kernel_rfl) (po_then (po_bp)) (sameH_now _ _) ?_ -- region 8 sign.go:33
    refine pi_ro rfl (fun w hS => ro_move rfl) ?_
    refine pi_ro rfl (fun w hS => ro_nilCheck rfl) ?_
    refine pi_ro rfl (fun w hS => ro_fieldAddr (k := 1) rfl fo_96_1) ?_
    refine pi_ro rfl (fun w hS => ro_loadB rfl sc_3 (Blk.of_heap hB hS) (cel_get' (by omega) hi3)) ?_
    refine pi_ro rfl (fun w hS => ro_move rfl) ?_
    refine pi_ro rfl (fun w hS => ro_nilCheck rfl) ?_
    refine pi_ro rfl (fun w hS => ro_fieldAddr (k := 0) rfl fo_96_0) ?_
    refine pi_ro rfl (fun w hS => ro_loadB rfl sc_9 (Blk.of_heap hB hS) (cel_get' (by omega) hp3)) ?_
    refine pi_ro rfl (fun w hS => ro_lenS rfl st_9) ?_
    refine pi_ro rfl (fun w hS => ro_cmp (r := true) rfl rfl (congrArg some (decide_eq_true (by omega)))) ?_
    refine pi_ro rfl (fun w hS => ro_move rfl) ?_
    refine pi_gyes rfl rfl (fun w hS => ro_move rfl) ?_
    refine pi_gyes rfl rfl (fun w hS => ro_nilCheck rfl) ?_
    refine pi_gyes rfl rfl (fun w hS => ro_fieldAddr (k := 0) rfl fo_96_0) ?_
    refine pi_gyes rfl rfl (fun w hS => ro_loadB rfl sc_9 (Blk.of_heap hB hS) (cel_get' (by omega) hp3)) ?_
    refine pi_gyes rfl rfl (fun w hS => ro_move rfl) ?_
    refine pi_gyes rfl rfl (fun w hS => ro_nilCheck rfl) ?_
    refine pi_gyes rfl rfl (fun w hS => ro_fieldAddr (k := 1) rfl fo_96_1) ?_
    refine pi_gyes rfl rfl (fun w hS => ro_loadB rfl sc_3 (Blk.of_heap hB hS) (cel_get' (by omega) hi3)) ?_
    refine pi_gyes rfl rfl (fun w hS => ro_indexS rfl rfl st_9 (rfl) (hcc)) ?_
    refine pi_gyes rfl rfl (fun w hS => ro_cmp (r := true) rfl rfl rfl) ?_
    refine pi_ro rfl (fun w hS => ro_pick rfl rfl rfl) ?_
    refine pi_ro rfl (fun w hS => ro_assign rfl) ?_
    replace hF := hF.thenDrew (k := w3.drawn + 1)
    refine pi_nil (x_then (hK8 _ _ ?_))
    clear hK8 K8
    refine c_seq (fun K9 hK9 => ?_)
    refine c_seq (fun K10 hK10 => ?_)
    rcases hq with q | q | q | q | q | q
    · skip
      refine c_reg ?_ -- region 9 sign.go:34
      refine wl (ro_move rfl) ?_
      refine wl (ro_not rfl) ?_
      refine wl (ro_move rfl) ?_
      refine wlg_yes rfl (ro_move rfl) ?_
      refine wlg_yes rfl (ro_cmp (r := true) rfl rfl (congrArg some (decide_eq_true (by omega)))) ?_
      refine wl (ro_pick rfl rfl rfl) ?_
      refine wl (ro_move rfl) ?_
      refine wlg_no rfl ?_
      refine wlg_no rfl ?_
      refine wl (ro_pick rfl rfl rfl) ?_
      refine wl (ro_move rfl) ?_
      refine wlg_no rfl ?_
      refine wlg_no rfl ?_
      refine wl (ro_pick rfl rfl rfl) ?_
      refine wl (ro_move rfl) ?_
      refine wlg_no rfl ?_
      refine wlg_no rfl ?_
      refine wlg_no rfl ?_
      refine wlg_no rfl ?_
      refine wlg_no rfl ?_
      refine wlg_no rfl ?_
      refine wlg_no rfl ?_
      refine wl (ro_pick rfl rfl rfl) ?_
      refine wl_nil (x_then (hK10 _ _ ?_))
      clear hK10 K10
      refine wc_condT rfl ?_
      refine c_seq (fun K11 hK11 => ?_)
      refine c_reg ?_ -- region 10 sign.go:35
      refine wl (ro_move rfl) ?_
      refine wl (ro_move rfl) ?_
      refine wl_call rfl en_97 (fail97 hB) ?_
      rintro _ w9 ⟨rfl, hB, F9⟩
      replace hF := hF.trans F9
      refine wl_nil (x_then (hK11 _ _ ?_))
      clear hK11 K11
      refine forget [] trivial (fun e => ?_)
      refine c_seq (fun K12 hK12 => ?_)
      refine c_reg ?_ -- region 11 sign.go:36
      refine wl (ro_assign rfl) ?_
      refine wl (ro_assign rfl) ?_
      refine wl_nil (x_then (hK12 _ _ ?_))
      clear hK12 K12
      refine c_ret (x_thenR ?_)
      refine bp_ret Tryz.results138 rfl ?_
      exact ⟨brP_no (by rintro ⟨z1, z2, z3, z4, z5⟩; first | omega | (rw [hcc] at z1; first | exact h125 (Option.some.inj z1) | cases z1)) hB (err97 V3), hF⟩
    · skip
      refine c_reg ?_ -- region 9 sign.go:34
      refine wl (ro_move rfl) ?_
      refine wl (ro_not rfl) ?_
      refine wl (ro_move rfl) ?_
      refine wlg_yes rfl (ro_move rfl) ?_
      refine wlg_yes rfl (ro_cmp (r := false) rfl rfl (congrArg some (decide_eq_false (by omega)))) ?_
      refine wl (ro_pick rfl rfl rfl) ?_
      refine wl (ro_move rfl) ?_
      refine wlg_yes rfl (ro_move rfl) ?_
      refine wlg_yes rfl (ro_cmp (r := true) rfl rfl (congrArg some (decide_eq_true (by omega)))) ?_
      refine wl (ro_pick rfl rfl rfl) ?_
      refine wl (ro_move rfl) ?_
      refine wlg_no rfl ?_
      refine wlg_no rfl ?_
      refine wl (ro_pick rfl rfl rfl) ?_
      refine wl (ro_move rfl) ?_
      refine wlg_no rfl ?_
      refine wlg_no rfl ?_
      refine wlg_no rfl ?_
      refine wlg_no rfl ?_
      refine wlg_no rfl ?_
      refine wlg_no rfl ?_
      refine wlg_no rfl ?_
      refine wl (ro_pick rfl rfl rfl) ?_
      refine wl_nil (x_then (hK10 _ _ ?_))
      clear hK10 K10
      refine wc_condT rfl ?_
      refine c_seq (fun K13 hK13 => ?_)
      refine c_reg ?_ -- region 10 sign.go:35
      refine wl (ro_move rfl) ?_
      refine wl (ro_move rfl) ?_
      refine wl_call rfl en_97 (fail97 hB) ?_
      rintro _ w9 ⟨rfl, hB, F9⟩
      replace hF := hF.trans F9
      refine wl_nil (x_then (hK13 _ _ ?_))
      clear hK13 K13
      refine forget [] trivial (fun e => ?_)
      refine c_seq (fun K14 hK14 => ?_)
      refine c_reg ?_ -- region 11 sign.go:36
      refine wl (ro_assign rfl) ?_
      refine wl (ro_assign rfl) ?_
      refine wl_nil (x_then (hK14 _ _ ?_))
      clear hK14 K14
      refine c_ret (x_thenR ?_)
      refine bp_ret Tryz.results138 rfl ?_
      exact ⟨brP_no (by rintro ⟨z1, z2, z3, z4, z5⟩; first | omega | (rw [hcc] at z1; first | exact h125 (Option.some.inj z1) | cases z1)) hB (err97 V3), hF⟩
    · skip
      refine c_reg ?_ -- region 9 sign.go:34
      refine wl (ro_move rfl) ?_
      refine wl (ro_not rfl) ?_
      refine wl (ro_move rfl) ?_
      refine wlg_yes rfl (ro_move rfl) ?_
      refine wlg_yes rfl (ro_cmp (r := false) rfl rfl (congrArg some (decide_eq_false (by omega)))) ?_
      refine wl (ro_pick rfl rfl rfl) ?_
      refine wl (ro_move rfl) ?_
      refine wlg_yes rfl (ro_move rfl) ?_
      refine wlg_yes rfl (ro_cmp (r := false) rfl rfl (congrArg some (decide_eq_false (by omega)))) ?_
      refine wl (ro_pick rfl rfl rfl) ?_
      refine wl (ro_move rfl) ?_
      refine wlg_yes rfl (ro_move rfl) ?_
      refine wlg_yes rfl (ro_cmp (r := true) rfl rfl (congrArg some (decide_eq_true (by omega)))) ?_
      refine wl (ro_pick rfl rfl rfl) ?_
      refine wl (ro_move rfl) ?_
      refine wlg_no rfl ?_
      refine wlg_no rfl ?_
      refine wlg_no rfl ?_
      refine wlg_no rfl ?_
      refine wlg_no rfl ?_
      refine wlg_no rfl ?_
      refine wlg_no rfl ?_
      refine wl (ro_pick rfl rfl rfl) ?_
      refine wl_nil (x_then (hK10 _ _ ?_))
      clear hK10 K10
      refine wc_condT rfl ?_
      refine c_seq (fun K15 hK15 => ?_)
      refine c_reg ?_ -- region 10 sign.go:35
      refine wl (ro_move rfl) ?_
      refine wl (ro_move rfl) ?_
      refine wl_call rfl en_97 (fail97 hB) ?_
      rintro _ w9 ⟨rfl, hB, F9⟩
      replace hF := hF.trans F9
      refine wl_nil (x_then (hK15 _ _ ?_))
      clear hK15 K15
      refine forget [] trivial (fun e => ?_)
      refine c_seq (fun K16 hK16 => ?_)
      refine c_reg ?_ -- region 11 sign.go:36
      refine wl (ro_assign rfl) ?_
      refine wl (ro_assign rfl) ?_
      refine wl_nil (x_then (hK16 _ _ ?_))
      clear hK16 K16
      refine c_ret (x_thenR ?_)
      refine bp_ret Tryz.results138 rfl ?_
      exact ⟨brP_no (by rintro ⟨z1, z2, z3, z4, z5⟩; first | omega | (rw [hcc] at z1; first | exact h125 (Option.some.inj z1) | cases z1)) hB (err97 V3), hF⟩
    · skip
      refine c_reg ?_ -- region 9 sign.go:34
      refine wl (ro_move rfl) ?_
      refine wl (ro_not rfl) ?_
      refine wl (ro_move rfl) ?_
      refine wlg_yes rfl (ro_move rfl) ?_
      refine wlg_yes rfl (ro_cmp (r := false) rfl rfl (congrArg some (decide_eq_false (by omega)))) ?_
      refine wl (ro_pick rfl rfl rfl) ?_
      refine wl (ro_move rfl) ?_
      refine wlg_yes rfl (ro_move rfl) ?_
      refine wlg_yes rfl (ro_cmp (r := false) rfl rfl (congrArg some (decide_eq_false (by omega)))) ?_
      refine wl (ro_pick rfl rfl rfl) ?_
      refine wl (ro_move rfl) ?_
      refine wlg_yes rfl (ro_move rfl) ?_
      refine wlg_yes rfl (ro_cmp (r := false) rfl rfl (congrArg some (decide_eq_false (by omega)))) ?_
      refine wl (ro_pick rfl rfl rfl) ?_
      refine wl (ro_move rfl) ?_
      refine wlg_yes rfl (ro_move rfl) ?_
      refine wlg_yes rfl (ro_cmp (r := true) rfl rfl (congrArg some (decide_eq_true (by omega)))) ?_
      refine wlg_yes rfl (ro_move rfl) ?_
      refine wlg_yes rfl (ro_move rfl) ?_
      refine wlg_yes rfl (ro_move rfl) ?_
      refine wlg_yes rfl (ro_cmp (r := true) rfl rfl (congrArg some (decide_eq_true (by omega)))) ?_
      refine wlg_yes rfl (ro_pick rfl rfl rfl) ?_
      refine wl (ro_pick rfl rfl rfl) ?_
      refine wl_nil (x_then (hK10 _ _ ?_))
      clear hK10 K10
      refine wc_condT rfl ?_
      refine c_seq (fun K17 hK17 => ?_)
      refine c_reg ?_ -- region 10 sign.go:35
      refine wl (ro_move rfl) ?_
      refine wl (ro_move rfl) ?_
      refine wl_call rfl en_97 (fail97 hB) ?_
      rintro _ w9 ⟨rfl, hB, F9⟩
      replace hF := hF.trans F9
      refine wl_nil (x_then (hK17 _ _ ?_))
      clear hK17 K17
      refine forget [] trivial (fun e => ?_)
      refine c_seq (fun K18 hK18 => ?_)
      refine c_reg ?_ -- region 11 sign.go:36
      refine wl (ro_assign rfl) ?_
      refine wl (ro_assign rfl) ?_
      refine wl_nil (x_then (hK18 _ _ ?_))
      clear hK18 K18
      refine c_ret (x_thenR ?_)
      refine bp_ret Tryz.results138 rfl ?_
      exact ⟨brP_no (by rintro ⟨z1, z2, z3, z4, z5⟩; first | omega | (rw [hcc] at z1; first | exact h125 (Option.some.inj z1) | cases z1)) hB (err97 V3), hF⟩
    · skip
      refine c_reg ?_ -- region 9 sign.go:34
      refine wl (ro_move rfl) ?_
      refine wl (ro_not rfl) ?_
      refine wl (ro_move rfl) ?_
      refine wlg_yes rfl (ro_move rfl) ?_
      refine wlg_yes rfl (ro_cmp (r := false) rfl rfl (congrArg some (decide_eq_false (by omega)))) ?_
      refine wl (ro_pick rfl rfl rfl) ?_
      refine wl (ro_move rfl) ?_
      refine wlg_yes rfl (ro_move rfl) ?_
      refine wlg_yes rfl (ro_cmp (r := false) rfl rfl (congrArg some (decide_eq_false (by omega)))) ?_
      refine wl (ro_pick rfl rfl rfl) ?_
      refine wl (ro_move rfl) ?_
      refine wlg_yes rfl (ro_move rfl) ?_
      refine wlg_yes rfl (ro_cmp (r := false) rfl rfl (congrArg some (decide_eq_false (by omega)))) ?_
      refine wl (ro_pick rfl rfl rfl) ?_
      refine wl (ro_move rfl) ?_
      refine wlg_yes rfl (ro_move rfl) ?_
      refine wlg_yes rfl (ro_cmp (r := true) rfl rfl (congrArg some (decide_eq_true (by omega)))) ?_
      refine wlg_yes rfl (ro_move rfl) ?_
      refine wlg_yes rfl (ro_move rfl) ?_
      refine wlg_yes rfl (ro_move rfl) ?_
      refine wlg_yes rfl (ro_cmp (r := false) rfl rfl (congrArg some (decide_eq_false (by omega)))) ?_
      refine wlg_yes rfl (ro_pick rfl rfl rfl) ?_
      refine wl (ro_pick rfl rfl rfl) ?_
      refine wl_nil (x_then (hK10 _ _ ?_))
      clear hK10 K10
      refine wc_condF rfl ?_
      refine c_skip (x_then (hK9 _ _ ?_))
      clear hK9 K9
      refine forget [(0, _), (5, _), (6, _)] ⟨rfl, rfl, rfl, trivial⟩ (fun e => ?_)
      refine c_seq (fun K19 hK19 => ?_)
      refine c_reg ?_ -- region 12 sign.go:38
      refine wl (ro_move rfl) ?_
      refine wl (ro_nilCheck rfl) ?_
      refine wl (ro_fieldAddr (k := 1) rfl fo_96_1) ?_
      refine wl (ro_loadB rfl sc_3 (hB) (cel_get' (by omega) hi3)) ?_
      refine wl (ro_arith rfl rfl rfl (Go.IntWalk.i64_in _ (by omega))) ?_
      refine wl (ro_nilCheck rfl) ?_
      refine wl (ro_fieldAddr (k := 1) rfl fo_96_1) ?_
      refine wl_put rfl rfl rfl sz_3 hB ((cel_lt (by omega))) ((cel_put 1 (by omega))) (fun w3 hB F3 => ?_)
      replace hF := hF.thenDrew.thenO F3 (by first | exact .inr (by omega) | exact .inl rfl | exact .inl (by assumption))
      have V5 : PV (pt f3 1 (i64c ((brcB p (num p (σ.i + 1))).2 + 1))) p { σ with i := (brcB p (num p (σ.i + 1))).2 + 1 } T := V3.setI (i := (brcB p (num p (σ.i + 1))).2 + 1) (by omega)
      refine wl_nil (x_then (hK19 _ _ ?_))
      clear hK19 K19
      refine forget [(5, _), (6, _)] ⟨rfl, rfl, trivial⟩ (fun e => ?_)
      refine c_seq (fun K20 hK20 => ?_)
      refine c_reg ?_ -- region 13 sign.go:39
      refine wl (ro_move rfl) ?_
      refine wl (ro_move rfl) ?_
      refine wl (ro_assign rfl) ?_
      refine wl (ro_assign rfl) ?_
      refine wl_nil (x_then (hK20 _ _ ?_))
      clear hK20 K20
      refine c_ret ?_
      refine bp_ret Tryz.results138 rfl ?_
      exact ⟨brP_ok ⟨hcc, by omega, by omega, by omega, by omega⟩ (by omega) hB V5, hF⟩
    · skip
      refine c_reg ?_ -- region 9 sign.go:34
      refine wl (ro_move rfl) ?_
      refine wl (ro_not rfl) ?_
      refine wl (ro_move rfl) ?_
      refine wlg_yes rfl (ro_move rfl) ?_
      refine wlg_yes rfl (ro_cmp (r := false) rfl rfl (congrArg some (decide_eq_false (by omega)))) ?_
      refine wl (ro_pick rfl rfl rfl) ?_
      refine wl (ro_move rfl) ?_
      refine wlg_yes rfl (ro_move rfl) ?_
      refine wlg_yes rfl (ro_cmp (r := false) rfl rfl (congrArg some (decide_eq_false (by omega)))) ?_
      refine wl (ro_pick rfl rfl rfl) ?_
      refine wl (ro_move rfl) ?_
      refine wlg_yes rfl (ro_move rfl) ?_
      refine wlg_yes rfl (ro_cmp (r := false) rfl rfl (congrArg some (decide_eq_false (by omega)))) ?_
      refine wl (ro_pick rfl rfl rfl) ?_
      refine wl (ro_move rfl) ?_
      refine wlg_yes rfl (ro_move rfl) ?_
      refine wlg_yes rfl (ro_cmp (r := false) rfl rfl (congrArg some (decide_eq_false (by omega)))) ?_
      refine wlg_yes rfl (ro_move rfl) ?_
      refine wlg_no rfl ?_
      refine wlg_no rfl ?_
      refine wlg_no rfl ?_
      refine wlg_yes rfl (ro_pick rfl rfl rfl) ?_
      refine wl (ro_pick rfl rfl rfl) ?_
      refine wl_nil (x_then (hK10 _ _ ?_))
      clear hK10 K10
      refine wc_condF rfl ?_
      refine c_skip (x_then (hK9 _ _ ?_))
      clear hK9 K9
      refine forget [(0, _), (5, _), (6, _)] ⟨rfl, rfl, rfl, trivial⟩ (fun e => ?_)
      refine c_seq (fun K21 hK21 => ?_)
      refine c_reg ?_ -- region 12 sign.go:38
      refine wl (ro_move rfl) ?_
      refine wl (ro_nilCheck rfl) ?_
      refine wl (ro_fieldAddr (k := 1) rfl fo_96_1) ?_
      refine wl (ro_loadB rfl sc_3 (hB) (cel_get' (by omega) hi3)) ?_
      refine wl (ro_arith rfl rfl rfl (Go.IntWalk.i64_in _ (by omega))) ?_
      refine wl (ro_nilCheck rfl) ?_
      refine wl (ro_fieldAddr (k := 1) rfl fo_96_1) ?_
      refine wl_put rfl rfl rfl sz_3 hB ((cel_lt (by omega))) ((cel_put 1 (by omega))) (fun w4 hB F4 => ?_)
      replace hF := hF.thenDrew.thenO F4 (by first | exact .inr (by omega) | exact .inl rfl | exact .inl (by assumption))
      have V5 : PV (pt f3 1 (i64c ((brcB p (num p (σ.i + 1))).2 + 1))) p { σ with i := (brcB p (num p (σ.i + 1))).2 + 1 } T := V3.setI (i := (brcB p (num p (σ.i + 1))).2 + 1) (by omega)
      refine wl_nil (x_then (hK21 _ _ ?_))
      clear hK21 K21
      refine forget [(5, _), (6, _)] ⟨rfl, rfl, trivial⟩ (fun e => ?_)
      refine c_seq (fun K22 hK22 => ?_)
      refine c_reg ?_ -- region 13 sign.go:39
      refine wl (ro_move rfl) ?_
      refine wl (ro_move rfl) ?_
      refine wl (ro_assign rfl) ?_
      refine wl (ro_assign rfl) ?_
      refine wl_nil (x_then (hK22 _ _ ?_))
      clear hK22 K22
      refine c_ret ?_
      refine bp_ret Tryz.results138 rfl ?_
      exact ⟨brP_ok ⟨hcc, by omega, by omega, by omega, by omega⟩ (by omega) hB V5, hF⟩
  · skip
    have hlt := get_lt hcc
    refine c_pi [(0, false), (1, false), (2, false), (3, false), (4, false), (5, false), (6, false), (7, false), (8, false), (9, false), (10, false), (11, false), (12, false), (13, false), (14, false), (15, false), (16, false), (17, false), (18, false), (19, false), (20, false), (21, false), (22, false)] (SameH _) mixed (by kernel_rfl) rfl (by kernel_rfl) (po_then (po_bp)) (sameH_now _ _) ?_ -- region 8 sign.go:33
    refine pi_ro rfl (fun w hS => ro_move rfl) ?_
    refine pi_ro rfl (fun w hS => ro_nilCheck rfl) ?_
    refine pi_ro rfl (fun w hS => ro_fieldAddr (k := 1) rfl fo_96_1) ?_
    refine pi_ro rfl (fun w hS => ro_loadB rfl sc_3 (Blk.of_heap hB hS) (cel_get' (by omega) hi3)) ?_
    refine pi_ro rfl (fun w hS => ro_move rfl) ?_
    refine pi_ro rfl (fun w hS => ro_nilCheck rfl) ?_
    refine pi_ro rfl (fun w hS => ro_fieldAddr (k := 0) rfl fo_96_0) ?_
    refine pi_ro rfl (fun w hS => ro_loadB rfl sc_9 (Blk.of_heap hB hS) (cel_get' (by omega) hp3)) ?_
    refine pi_ro rfl (fun w hS => ro_lenS rfl st_9) ?_
    refine pi_ro rfl (fun w hS => ro_cmp (r := true) rfl rfl (congrArg some (decide_eq_true (by omega)))) ?_
    refine pi_ro rfl (fun w hS => ro_move rfl) ?_
    refine pi_gyes rfl rfl (fun w hS => ro_move rfl) ?_
    refine pi_gyes rfl rfl (fun w hS => ro_nilCheck rfl) ?_
    refine pi_gyes rfl rfl (fun w hS => ro_fieldAddr (k := 0) rfl fo_96_0) ?_
    refine pi_gyes rfl rfl (fun w hS => ro_loadB rfl sc_9 (Blk.of_heap hB hS) (cel_get' (by omega) hp3)) ?_
    refine pi_gyes rfl rfl (fun w hS => ro_move rfl) ?_
    refine pi_gyes rfl rfl (fun w hS => ro_nilCheck rfl) ?_
    refine pi_gyes rfl rfl (fun w hS => ro_fieldAddr (k := 1) rfl fo_96_1) ?_
    refine pi_gyes rfl rfl (fun w hS => ro_loadB rfl sc_3 (Blk.of_heap hB hS) (cel_get' (by omega) hi3)) ?_
    refine pi_gyes rfl rfl (fun w hS => ro_indexS rfl rfl st_9 (rfl) (hcc)) ?_
    refine pi_gyes rfl rfl (fun w hS => ro_cmp (r := false) rfl rfl (congrArg some ((u8eq c 125).trans (decide_eq_false h125)))) ?_
    refine pi_ro rfl (fun w hS => ro_pick rfl rfl rfl) ?_
    refine pi_ro rfl (fun w hS => ro_assign rfl) ?_
    replace hF := hF.thenDrew (k := w3.drawn + 1)
    refine pi_nil (x_then (hK8 _ _ ?_))
    clear hK8 K8
    refine c_seq (fun K23 hK23 => ?_)
    refine c_seq (fun K24 hK24 => ?_)
    refine id ?_
    · skip
      refine c_reg ?_ -- region 9 sign.go:34
      refine wl (ro_move rfl) ?_
      refine wl (ro_not rfl) ?_
      refine wl (ro_move rfl) ?_
      refine wlg_no rfl ?_
      refine wlg_no rfl ?_
      refine wl (ro_pick rfl rfl rfl) ?_
      refine wl (ro_move rfl) ?_
      refine wlg_no rfl ?_
      refine wlg_no rfl ?_
      refine wl (ro_pick rfl rfl rfl) ?_
      refine wl (ro_move rfl) ?_
      refine wlg_no rfl ?_
      refine wlg_no rfl ?_
      refine wl (ro_pick rfl rfl rfl) ?_
      refine wl (ro_move rfl) ?_
      refine wlg_no rfl ?_
      refine wlg_no rfl ?_
      refine wlg_no rfl ?_
      refine wlg_no rfl ?_
      refine wlg_no rfl ?_
      refine wlg_no rfl ?_
      refine wlg_no rfl ?_
      refine wl (ro_pick rfl rfl rfl) ?_
      refine wl_nil (x_then (hK24 _ _ ?_))
      clear hK24 K24
      refine wc_condT rfl ?_
      refine c_seq (fun K25 hK25 => ?_)
      refine c_reg ?_ -- region 10 sign.go:35
      refine wl (ro_move rfl) ?_
      refine wl (ro_move rfl) ?_
      refine wl_call rfl en_97 (fail97 hB) ?_
      rintro _ w9 ⟨rfl, hB, F9⟩
      replace hF := hF.trans F9
      refine wl_nil (x_then (hK25 _ _ ?_))
      clear hK25 K25
      refine forget [] trivial (fun e => ?_)
      refine c_seq (fun K26 hK26 => ?_)
      refine c_reg ?_ -- region 11 sign.go:36
      refine wl (ro_assign rfl) ?_
      refine wl (ro_assign rfl) ?_
      refine wl_nil (x_then (hK26 _ _ ?_))
      clear hK26 K26
      refine c_ret (x_thenR ?_)
      refine bp_ret Tryz.results138 rfl ?_
      exact ⟨brP_no (by rintro ⟨z1, z2, z3, z4, z5⟩; first | omega | (rw [hcc] at z1; first | exact h125 (Option.some.inj z1) | cases z1)) hB (err97 V3), hF⟩
  · skip
    have hge : p.length ≤ (brcB p (num p (σ.i + 1))).2 := List.getElem?_eq_none_iff.1 hcc
    refine c_pi [(0, false), (1, false), (2, false), (3, false), (4, false), (5, false), (6, false), (7, false), (8, false), (9, false), (10, false), (11, false), (12, false), (13, false), (14, false), (15, false), (16, false), (17, false), (18, false), (19, false), (20, false), (21, false), (22, false)] (SameH _) mixed (by kernel_rfl) rfl (by kernel_rfl) (po_then (po_bp)) (sameH_now _ _) ?_ -- region 8 sign.go:33
    refine pi_ro rfl (fun w hS => ro_move rfl) ?_
    refine pi_ro rfl (fun w hS => ro_nilCheck rfl) ?_
    refine pi_ro rfl (fun w hS => ro_fieldAddr (k := 1) rfl fo_96_1) ?_
    refine pi_ro rfl (fun w hS => ro_loadB rfl sc_3 (Blk.of_heap hB hS) (cel_get' (by omega) hi3)) ?_
    refine pi_ro rfl (fun w hS => ro_move rfl) ?_
    refine pi_ro rfl (fun w hS => ro_nilCheck rfl) ?_
    refine pi_ro rfl (fun w hS => ro_fieldAddr (k := 0) rfl fo_96_0) ?_
    refine pi_ro rfl (fun w hS => ro_loadB rfl sc_9 (Blk.of_heap hB hS) (cel_get' (by omega) hp3)) ?_
    refine pi_ro rfl (fun w hS => ro_lenS rfl st_9) ?_
    refine pi_ro rfl (fun w hS => ro_cmp (r := false) rfl rfl (congrArg some (decide_eq_false (by omega)))) ?_
    refine pi_ro rfl (fun w hS => ro_move rfl) ?_
    refine pi_gno rfl rfl ?_
    refine pi_gno rfl rfl ?_
    refine pi_gno rfl rfl ?_
    refine pi_gno rfl rfl ?_
    refine pi_gno rfl rfl ?_
    refine pi_gno rfl rfl ?_
    refine pi_gno rfl rfl ?_
    refine pi_gno rfl rfl ?_
    refine pi_gno rfl rfl ?_
    refine pi_gno rfl rfl ?_
    refine pi_ro rfl (fun w hS => ro_pick rfl rfl rfl) ?_
    refine pi_ro rfl (fun w hS => ro_assign rfl) ?_
    replace hF := hF.thenDrew (k := w3.drawn + 1)
    refine pi_nil (x_then (hK8 _ _ ?_))
    clear hK8 K8
    refine c_seq (fun K27 hK27 => ?_)
    refine c_seq (fun K28 hK28 => ?_)
    refine id ?_
    · skip
      refine c_reg ?_ -- region 9 sign.go:34
      refine wl (ro_move rfl) ?_
      refine wl (ro_not rfl) ?_
      refine wl (ro_move rfl) ?_
      refine wlg_no rfl ?_
      refine wlg_no rfl ?_
      refine wl (ro_pick rfl rfl rfl) ?_
      refine wl (ro_move rfl) ?_
      refine wlg_no rfl ?_
      refine wlg_no rfl ?_
      refine wl (ro_pick rfl rfl rfl) ?_
      refine wl (ro_move rfl) ?_
      refine wlg_no rfl ?_
      refine wlg_no rfl ?_
      refine wl (ro_pick rfl rfl rfl) ?_
      refine wl (ro_move rfl) ?_
      refine wlg_no rfl ?_
      refine wlg_no rfl ?_
      refine wlg_no rfl ?_
      refine wlg_no rfl ?_
      refine wlg_no rfl ?_
      refine wlg_no rfl ?_
      refine wlg_no rfl ?_
      refine wl (ro_pick rfl rfl rfl) ?_
      refine wl_nil (x_then (hK28 _ _ ?_))
      clear hK28 K28
      refine wc_condT rfl ?_
      refine c_seq (fun K29 hK29 => ?_)
      refine c_reg ?_ -- region 10 sign.go:35
      refine wl (ro_move rfl) ?_
      refine wl (ro_move rfl) ?_
      refine wl_call rfl en_97 (fail97 hB) ?_
      rintro _ w9 ⟨rfl, hB, F9⟩
      replace hF := hF.trans F9
      refine wl_nil (x_then (hK29 _ _ ?_))
      clear hK29 K29
      refine forget [] trivial (fun e => ?_)
      refine c_seq (fun K30 hK30 => ?_)
      refine c_reg ?_ -- region 11 sign.go:36
      refine wl (ro_assign rfl) ?_
      refine wl (ro_assign rfl) ?_
      refine wl_nil (x_then (hK30 _ _ ?_))
      clear hK30 K30
      refine c_ret (x_thenR ?_)
      refine bp_ret Tryz.results138 rfl ?_
      exact ⟨brP_no (by rintro ⟨z1, z2, z3, z4, z5⟩; first | omega | (rw [hcc] at z1; first | exact h125 (Option.some.inj z1) | cases z1)) hB (err97 V3), hF⟩

end Go.Proofs.Qxb6500567aGreat
