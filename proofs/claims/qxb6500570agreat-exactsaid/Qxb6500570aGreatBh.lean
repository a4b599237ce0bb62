import Derived.Test.Qxb6500570aGreatBg
/- The real former: settle, whole. -/
namespace Go.Proofs.Qxb6500570aGreat
set_option linter.unusedVariables false
set_option linter.unusedSimpArgs false

theorem settleX_neg {m : Mk} {os : List Mk} {bad : Bool} {ar : List Nd} {v : Int} {ov : List Int} (h : m.k = 1) : settleX (m :: os) bad ar (v :: ov) = settleX os (addX bad ar (nNegI v)).1 (addX bad ar (nNegI v)).2.1 ((addX bad ar (nNegI v)).2.2 :: ov) := by
  simp only [settleX, h, if_true]
theorem settleX_end {os : List Mk} {bad : Bool} {ar : List Nd} {ov : List Int} (hn : ∀ m os', os = m :: os' → m.k ≠ 1) (ht : topS os ≠ 3) : settleX os bad ar ov = (bad, ar, ov, os) := by
  cases os with
  | nil => rfl
  | cons m os =>
    unfold settleX
    rw [if_neg (hn m os rfl), if_neg (fun h => ht (by rw [topS_bin h.1]; exact h.2))]
theorem settleX_mul {m : Mk} {os : List Mk} {bad : Bool} {ar : List Nd} {ov : List Int} (ht : topS (m :: os) = 3) : settleX (m :: os) bad ar ov = ((joinX m bad ar ov).1, (joinX m bad ar ov).2.1, (joinX m bad ar ov).2.2, os) := by
  have hk : m.k = 2 := topS_k (fun e => by rw [e] at ht; omega)
  rw [topS_bin hk] at ht
  unfold settleX
  rw [if_neg (by omega), if_pos ⟨hk, ht⟩]

set_option maxHeartbeats 4000000 in
theorem settle194 {w : World} {B : FB7} {T : List Tk} {k : Nat} {ar : List Nd} {ov : List Int} {os : List Mk} {hv dn bad : Bool} (ho : FBo B) (V : FW w B T k ar ov os hv dn bad) (hht : ov.length = nb os + 1) (hv1 : ov.length ≤ 41) (ho1 : os.length ≤ 41) :
    Ret Tryz.prog 194 [ptr B.f] w (fun v w' => v = .tuple #[] ∧ FW w' B T k (settleX os bad ar ov).2.1 (settleX os bad ar ov).2.2.1 (settleX os bad ar ov).2.2.2 true dn (settleX os bad ar ov).1 ∧ Fram (fset B) w w') := by
  have hF : Fram (fset B) w w := Fram.refl _ _
  have hm1 : fset B B.f := .inl rfl
  have hm4 : fset B B.v := .inr (.inr (.inr (.inl rfl)))
  generalize hres : settleX os bad ar ov = R
  refine ret_of Tryz.func194 rfl Tryz.ntmps194 rfl ?_
  refine c_seq (fun K1 hK1 => ?_)
  refine c_block ?_
  -- loop@r0: live slots [0]
  refine c_loopG (fun m a' w' => ∃ (ar : List Nd) (ov : List Int) (os : List Mk) (bad : Bool), m = os.length ∧ settleX os bad ar ov = R ∧ ov.length = nb os + 1 ∧ ov.length ≤ 41 ∧ os.length ≤ 41 ∧ FW w' B T k ar ov os hv dn bad ∧ Fram (fset B) w w' ∧ ∃ e, a' = Fr 63 (upds e [(0, ptr B.f)]) []) os.length ⟨ar, ov, os, bad, rfl, hres, hht, hv1, ho1, V, hF, kp _ ⟨rfl, trivial⟩⟩ ?_
  clear hF V hres hht hv1 ho1
  rintro mm a' w1 ⟨ar, ov, os, bad, rfl, hres, hht, hv1, ho1, V, hF, e, rfl⟩
  have V0 := V
  obtain ⟨pos, er, bd, wi, ft, fa, fv, fo, ⟨hB, hK, hA, hV, hO, htv, hav, hvv, hmv, hkT, hlT, hla⟩, hbad⟩ := V
  refine c_seq (fun K2 hK2 => ?_)
  refine c_seq (fun K3 hK3 => ?_)
  have hcs : os = [] ∨ (∃ m os', os = m :: os' ∧ m.k ≠ 1) ∨ (∃ m os' v ov', os = m :: os' ∧ m.k = 1 ∧ ov = v :: ov') := by
    cases os with
    | nil => exact .inl rfl
    | cons m os' =>
      by_cases h : m.k = 1
      · cases ov with
        | nil => simp at hht
        | cons v ov' => exact .inr (.inr ⟨m, os', v, ov', rfl, h, rfl⟩)
      · exact .inr (.inl ⟨m, os', rfl, h⟩)
  rcases hcs with rfl | ⟨m, os', rfl, hmk⟩ | ⟨m, os', v, ov', rfl, hmk, rfl⟩
  · skip
    refine c_pi [(0, false), (1, false), (2, false), (3, false), (4, false), (5, false), (6, false), (7, false), (8, false), (9, false), (10, false), (11, false), (12, false), (13, false), (14, false), (15, false), (16, false), (17, false), (18, false), (19, false)] (SameH _) mixed (by kernel_rfl) rfl (by kernel_rfl) (po_then (po_then (po_then (po_blk (po_then (po_bp)))))) (sameH_now _ _) ?_ -- region 0 parse.go:92
    refine pi_ro rfl (fun w hS => ro_move rfl) ?_
    refine pi_ro rfl (fun w hS => ro_nilCheck rfl) ?_
    refine pi_ro rfl (fun w hS => ro_fieldAddr (k := 9) rfl fo_83_9) ?_
    refine pi_ro rfl (fun w hS => ro_loadB rfl sc_3 (Blk.of_heap hB hS) (rfl)) ?_
    refine pi_ro rfl (fun w hS => ro_cmp (r := false) rfl rfl rfl) ?_
    refine pi_ro rfl (fun w hS => ro_move rfl) ?_
    refine pi_gno rfl rfl ?_
    refine pi_gno rfl rfl ?_
    refine pi_gno rfl rfl ?_
    refine pi_gno rfl rfl ?_
    refine pi_gno rfl rfl ?_
    refine pi_gno rfl rfl ?_
    refine pi_gno rfl rfl ?_
    refine pi_gno rfl rfl ?_
    refine pi_gno rfl rfl ?_
    refine pi_gno rfl rfl ?_
    refine pi_gno rfl rfl ?_
    refine pi_gno rfl rfl ?_
    refine pi_gno rfl rfl ?_
    refine pi_ro rfl (fun w hS => ro_pick rfl rfl rfl) ?_
    refine pi_nil (x_then (hK3 _ _ ?_))
    clear hK3 K3
    refine wc_condF rfl ?_
    refine c_exit (x_thenX (x_thenX (x_blkX (x_then (hK1 _ _ ?_)))))
    clear hK2 K2 hK1 K1
    refine c_seq (fun K4 hK4 => ?_)
    refine c_seq (fun K5 hK5 => ?_)
    replace hF := hF.thenDrew (k := w1.drawn + 1)
    refine c_reg ?_ -- region 4 parse.go:97
    refine wl (ro_move rfl) ?_
    refine wl_call rfl en_157 (top157 (by first | exact ho1 | (simp only [List.length_cons]; omega)) hB hO hmv) ?_
    rintro _ w8 ⟨rfl, F8⟩
    replace hF := hF.transG F8 (by intro k hk h; simp only [one, none', fa2, fset] at h ⊢ <;> omega)
    replace hB := F8.blkF hB (by intro h; simp only [one, none', fa2, fset, ho.all, or_self, false_or, or_false] at h <;> omega)
    replace hK := F8.blkF hK (by intro h; simp only [one, none', fa2, fset, ho.all, or_self, false_or, or_false] at h <;> omega)
    replace hA := F8.blkF hA (by intro h; simp only [one, none', fa2, fset, ho.all, or_self, false_or, or_false] at h <;> omega)
    replace hV := F8.blkF hV (by intro h; simp only [one, none', fa2, fset, ho.all, or_self, false_or, or_false] at h <;> omega)
    replace hO := F8.blkF hO (by intro h; simp only [one, none', fa2, fset, ho.all, or_self, false_or, or_false] at h <;> omega)
    refine wl (ro_cmp (r := decide (topS _ = 3)) rfl rfl (congrArg some (beqc _ 3))) ?_
    refine wl_nil (x_then (hK5 _ _ ?_))
    clear hK5 K5
    refine wc_condF rfl ?_
    refine c_skip (x_then (hK4 _ _ ?_))
    clear hK4 K4
    rw [settleX_end (fun m2 os2 h => by cases h) (by decide)] at hres
    subst hres
    refine c_reg ?_ -- region 6 parse.go:100
    refine wl (ro_move rfl) ?_
    refine wl (ro_nilCheck rfl) ?_
    refine wl (ro_fieldAddr (k := 10) rfl fo_83_10) ?_
    refine wl_put rfl rfl rfl sz_4 hB ((by simp)) (rfl) (fun w1 hB F1 => ?_)
    replace hF := hF.thenDrew.thenO F1 (by first | exact .inr (by omega) | exact .inl rfl | exact .inl (by assumption))
    replace hK := F1.blkO hK (by first | (simp only [ne_eq, ho.all, not_false_eq_true]; done) | omega)
    replace hA := F1.blkO hA (by first | (simp only [ne_eq, ho.all, not_false_eq_true]; done) | omega)
    replace hV := F1.blkO hV (by first | (simp only [ne_eq, ho.all, not_false_eq_true]; done) | omega)
    replace hO := F1.blkO hO (by first | (simp only [ne_eq, ho.all, not_false_eq_true]; done) | omega)
    refine wl_nil ?_
    refine bp_end Tryz.results194 rfl ?_
    exact ⟨rfl, ⟨_, _, _, _, _, _, _, _, ⟨hB, hK, hA, hV, hO, htv, hav, hvv, hmv, hkT, hlT, hla⟩, hbad⟩, hF⟩
  · skip
    simp only [List.length_cons] at ho1
    obtain ⟨ma, hcel⟩ := hmv.top
    have hx0 : fo (os'.length * 5 + 0) = i64c m.k := hcel 0 _ rfl
    refine c_pi [(0, false), (1, false), (2, false), (3, false), (4, false), (5, false), (6, false), (7, false), (8, false), (9, false), (10, false), (11, false), (12, false), (13, false), (14, false), (15, false), (16, false), (17, false), (18, false), (19, false)] (SameH _) mixed (by kernel_rfl) rfl (by kernel_rfl) (po_then (po_then (po_then (po_blk (po_then (po_bp)))))) (sameH_now _ _) ?_ -- region 0 parse.go:92
    refine pi_ro rfl (fun w hS => ro_move rfl) ?_
    refine pi_ro rfl (fun w hS => ro_nilCheck rfl) ?_
    refine pi_ro rfl (fun w hS => ro_fieldAddr (k := 9) rfl fo_83_9) ?_
    refine pi_ro rfl (fun w hS => ro_loadB rfl sc_3 (Blk.of_heap hB hS) (rfl)) ?_
    refine pi_ro rfl (fun w hS => ro_cmp (r := true) rfl rfl (congrArg some (decide_eq_true (by show ((os'.length + 1 : Nat) : Int) > 0; omega)))) ?_
    refine pi_ro rfl (fun w hS => ro_move rfl) ?_
    refine pi_gyes rfl rfl (fun w hS => ro_move rfl) ?_
    refine pi_gyes rfl rfl (fun w hS => ro_nilCheck rfl) ?_
    refine pi_gyes rfl rfl (fun w hS => ro_fieldAddr (k := 8) rfl fo_83_8) ?_
    refine pi_gyes rfl rfl (fun w hS => ro_loadB rfl sc_80 (Blk.of_heap hB hS) (rfl)) ?_
    refine pi_gyes rfl rfl (fun w hS => ro_move rfl) ?_
    refine pi_gyes rfl rfl (fun w hS => ro_nilCheck rfl) ?_
    refine pi_gyes rfl rfl (fun w hS => ro_fieldAddr (k := 9) rfl fo_83_9) ?_
    refine pi_gyes rfl rfl (fun w hS => ro_loadB rfl sc_3 (Blk.of_heap hB hS) (rfl)) ?_
    refine pi_gyes rfl rfl (fun w hS => ro_arith (r := (os'.length : Int)) rfl rfl (congrArg some (by show ((os'.length + 1 : Nat) : Int) - 1 = _; omega)) (Go.IntWalk.i64_in _ (by omega))) ?_
    refine pi_gyes rfl rfl (fun w hS => ro_indexAddr (et := 197) (k := 5) rfl rfl se_80 (rfl) ((by omega : os'.length < 41))) ?_
    refine pi_gyes rfl rfl (fun w hS => ro_fieldAddr (k := 0) rfl fo_197_0) ?_
    refine pi_gyes rfl rfl (fun w hS => ro_loadB rfl sc_3 (Blk.of_heap hO hS) (cel_at (k := os'.length * 5 + 0) (by omega) (by omega) hx0)) ?_
    refine pi_gyes rfl rfl (fun w hS => ro_cmp (r := false) rfl rfl (congrArg some ((beqc m.k 1).trans (decide_eq_false hmk)))) ?_
    refine pi_ro rfl (fun w hS => ro_pick rfl rfl rfl) ?_
    refine pi_nil (x_then (hK3 _ _ ?_))
    clear hK3 K3
    refine wc_condF rfl ?_
    refine c_exit (x_thenX (x_thenX (x_blkX (x_then (hK1 _ _ ?_)))))
    clear hK2 K2 hK1 K1
    refine c_seq (fun K6 hK6 => ?_)
    refine c_seq (fun K7 hK7 => ?_)
    replace hF := hF.thenDrew (k := w1.drawn + 1)
    refine c_reg ?_ -- region 4 parse.go:97
    refine wl (ro_move rfl) ?_
    refine wl_call rfl en_157 (top157 (by first | exact ho1 | (simp only [List.length_cons]; omega)) hB hO hmv) ?_
    rintro _ w8 ⟨rfl, F8⟩
    replace hF := hF.transG F8 (by intro k hk h; simp only [one, none', fa2, fset] at h ⊢ <;> omega)
    replace hB := F8.blkF hB (by intro h; simp only [one, none', fa2, fset, ho.all, or_self, false_or, or_false] at h <;> omega)
    replace hK := F8.blkF hK (by intro h; simp only [one, none', fa2, fset, ho.all, or_self, false_or, or_false] at h <;> omega)
    replace hA := F8.blkF hA (by intro h; simp only [one, none', fa2, fset, ho.all, or_self, false_or, or_false] at h <;> omega)
    replace hV := F8.blkF hV (by intro h; simp only [one, none', fa2, fset, ho.all, or_self, false_or, or_false] at h <;> omega)
    replace hO := F8.blkF hO (by intro h; simp only [one, none', fa2, fset, ho.all, or_self, false_or, or_false] at h <;> omega)
    refine wl (ro_cmp (r := decide (topS _ = 3)) rfl rfl (congrArg some (beqc _ 3))) ?_
    refine wl_nil (x_then (hK7 _ _ ?_))
    clear hK7 K7
    refine wc_cond rfl (fun hc57 => ?_) (fun hc57 => ?_)
    · try simp only [decide_eq_true_eq, decide_eq_false_iff_not, Bool.not_eq_true', Bool.not_eq_false', Bool.not_eq_eq_eq_not, Bool.not_true, Bool.not_false, beq_iff_eq, bne_iff_ne, ne_eq, beq_eq_false_iff_ne, bne_eq_false_iff_eq, gt_iff_lt, ge_iff_le, Int.not_lt, Int.not_le] at hc57
      have V1 : FW w8 B T k ar ov (m :: os') hv dn bad := ⟨pos, er, bd, wi, ft, fa, fv, fo, ⟨hB, hK, hA, hV, hO, htv, hav, hvv, hmv, hkT, hlT, hla⟩, hbad⟩
      have hk2 : m.k = 2 := topS_k (fun e => by rw [e] at hc57; omega)
      have hnb : nb (m :: os') = nb os' + 1 := by simp [nb, hk2]; omega
      rw [settleX_mul hc57] at hres
      obtain ⟨y, x, ov2, rfl⟩ : ∃ y x ov2, ov = y :: x :: ov2 := by
        match ov, hht with
        | [], h => simp at h
        | [z], h => rw [hnb] at h; simp at h
        | y :: x :: r, _ => exact ⟨y, x, r, rfl⟩
      simp only [List.length_cons] at hv1
      refine c_reg ?_ -- region 5 parse.go:98
      refine wl (ro_move rfl) ?_
      refine wl_call rfl en_158 (join158 ho V1 (by omega) (by omega)) ?_
      rintro _ w7 ⟨rfl, V7, F7⟩
      replace hF := hF.transG F7 (fun k _ h ↦ h)
      obtain ⟨pos, er, bd, wi, ft, fa, fv, fo, ⟨hB, hK, hA, hV, hO, htv, hav, hvv, hmv, hkT, hlT, hla⟩, hbad⟩ := V7
      subst hres
      refine wl_nil (x_then (hK6 _ _ ?_))
      clear hK6 K6
      refine c_reg ?_ -- region 6 parse.go:100
      refine wl (ro_move rfl) ?_
      refine wl (ro_nilCheck rfl) ?_
      refine wl (ro_fieldAddr (k := 10) rfl fo_83_10) ?_
      refine wl_put rfl rfl rfl sz_4 hB ((by simp)) (rfl) (fun w2 hB F2 => ?_)
      replace hF := hF.thenDrew.thenO F2 (by first | exact .inr (by omega) | exact .inl rfl | exact .inl (by assumption))
      replace hK := F2.blkO hK (by first | (simp only [ne_eq, ho.all, not_false_eq_true]; done) | omega)
      replace hA := F2.blkO hA (by first | (simp only [ne_eq, ho.all, not_false_eq_true]; done) | omega)
      replace hV := F2.blkO hV (by first | (simp only [ne_eq, ho.all, not_false_eq_true]; done) | omega)
      replace hO := F2.blkO hO (by first | (simp only [ne_eq, ho.all, not_false_eq_true]; done) | omega)
      refine wl_nil ?_
      refine bp_end Tryz.results194 rfl ?_
      exact ⟨rfl, ⟨_, _, _, _, _, _, _, _, ⟨hB, hK, hA, hV, hO, htv, hav, hvv, hmv, hkT, hlT, hla⟩, hbad⟩, hF⟩
    · try simp only [decide_eq_true_eq, decide_eq_false_iff_not, Bool.not_eq_true', Bool.not_eq_false', Bool.not_eq_eq_eq_not, Bool.not_true, Bool.not_false, beq_iff_eq, bne_iff_ne, ne_eq, beq_eq_false_iff_ne, bne_eq_false_iff_eq, gt_iff_lt, ge_iff_le, Int.not_lt, Int.not_le] at hc57
      rw [settleX_end (fun m2 os2 h => by cases h; exact hmk) hc57] at hres
      subst hres
      refine c_skip (x_then (hK6 _ _ ?_))
      clear hK6 K6
      refine c_reg ?_ -- region 6 parse.go:100
      refine wl (ro_move rfl) ?_
      refine wl (ro_nilCheck rfl) ?_
      refine wl (ro_fieldAddr (k := 10) rfl fo_83_10) ?_
      refine wl_put rfl rfl rfl sz_4 hB ((by simp)) (rfl) (fun w3 hB F3 => ?_)
      replace hF := hF.thenDrew.thenO F3 (by first | exact .inr (by omega) | exact .inl rfl | exact .inl (by assumption))
      replace hK := F3.blkO hK (by first | (simp only [ne_eq, ho.all, not_false_eq_true]; done) | omega)
      replace hA := F3.blkO hA (by first | (simp only [ne_eq, ho.all, not_false_eq_true]; done) | omega)
      replace hV := F3.blkO hV (by first | (simp only [ne_eq, ho.all, not_false_eq_true]; done) | omega)
      replace hO := F3.blkO hO (by first | (simp only [ne_eq, ho.all, not_false_eq_true]; done) | omega)
      refine wl_nil ?_
      refine bp_end Tryz.results194 rfl ?_
      exact ⟨rfl, ⟨_, _, _, _, _, _, _, _, ⟨hB, hK, hA, hV, hO, htv, hav, hvv, hmv, hkT, hlT, hla⟩, hbad⟩, hF⟩
  · skip
    simp only [List.length_cons] at ho1 hv1
    obtain ⟨ma, hcel⟩ := hmv.top
    have hx0 : fo (os'.length * 5 + 0) = i64c m.k := hcel 0 _ rfl
    have hyv : fv ov'.length = icv v := hvv.top
    rw [settleX_neg hmk] at hres
    have hnb : nb (m :: os') = nb os' := by simp [nb, hmk]
    refine c_pi [(0, false), (1, false), (2, false), (3, false), (4, false), (5, false), (6, false), (7, false), (8, false), (9, false), (10, false), (11, false), (12, false), (13, false), (14, false), (15, false), (16, false), (17, false), (18, false), (19, false)] (SameH _) mixed (by kernel_rfl) rfl (by kernel_rfl) (po_then (po_then (po_then (po_blk (po_then (po_bp)))))) (sameH_now _ _) ?_ -- region 0 parse.go:92
    refine pi_ro rfl (fun w hS => ro_move rfl) ?_
    refine pi_ro rfl (fun w hS => ro_nilCheck rfl) ?_
    refine pi_ro rfl (fun w hS => ro_fieldAddr (k := 9) rfl fo_83_9) ?_
    refine pi_ro rfl (fun w hS => ro_loadB rfl sc_3 (Blk.of_heap hB hS) (rfl)) ?_
    refine pi_ro rfl (fun w hS => ro_cmp (r := true) rfl rfl (congrArg some (decide_eq_true (by show ((os'.length + 1 : Nat) : Int) > 0; omega)))) ?_
    refine pi_ro rfl (fun w hS => ro_move rfl) ?_
    refine pi_gyes rfl rfl (fun w hS => ro_move rfl) ?_
    refine pi_gyes rfl rfl (fun w hS => ro_nilCheck rfl) ?_
    refine pi_gyes rfl rfl (fun w hS => ro_fieldAddr (k := 8) rfl fo_83_8) ?_
    refine pi_gyes rfl rfl (fun w hS => ro_loadB rfl sc_80 (Blk.of_heap hB hS) (rfl)) ?_
    refine pi_gyes rfl rfl (fun w hS => ro_move rfl) ?_
    refine pi_gyes rfl rfl (fun w hS => ro_nilCheck rfl) ?_
    refine pi_gyes rfl rfl (fun w hS => ro_fieldAddr (k := 9) rfl fo_83_9) ?_
    refine pi_gyes rfl rfl (fun w hS => ro_loadB rfl sc_3 (Blk.of_heap hB hS) (rfl)) ?_
    refine pi_gyes rfl rfl (fun w hS => ro_arith (r := (os'.length : Int)) rfl rfl (congrArg some (by show ((os'.length + 1 : Nat) : Int) - 1 = _; omega)) (Go.IntWalk.i64_in _ (by omega))) ?_
    refine pi_gyes rfl rfl (fun w hS => ro_indexAddr (et := 197) (k := 5) rfl rfl se_80 (rfl) ((by omega : os'.length < 41))) ?_
    refine pi_gyes rfl rfl (fun w hS => ro_fieldAddr (k := 0) rfl fo_197_0) ?_
    refine pi_gyes rfl rfl (fun w hS => ro_loadB rfl sc_3 (Blk.of_heap hO hS) (cel_at (k := os'.length * 5 + 0) (by omega) (by omega) hx0)) ?_
    refine pi_gyes rfl rfl (fun w hS => ro_cmp (r := true) rfl rfl (congrArg some ((beqc m.k 1).trans (decide_eq_true hmk)))) ?_
    refine pi_ro rfl (fun w hS => ro_pick rfl rfl rfl) ?_
    refine pi_nil (x_then (hK3 _ _ ?_))
    clear hK3 K3
    refine wc_condT rfl ?_
    refine c_skip (x_then (hK2 _ _ ?_))
    clear hK2 K2
    refine c_block ?_
    refine forget [(0, _), (9, _), (10, _), (11, _), (12, _), (13, _), (14, _), (15, _), (16, _), (17, _), (18, _), (19, _), (20, _), (21, _)] ⟨rfl, rfl, rfl, rfl, rfl, rfl, rfl, rfl, rfl, rfl, rfl, rfl, rfl, rfl, trivial⟩ (fun e => ?_)
    refine c_seq (fun K8 hK8 => ?_)
    refine c_reg ?_ -- region 1 parse.go:93
    refine wl (ro_move rfl) ?_
    refine wl (ro_nilCheck rfl) ?_
    refine wl (ro_fieldAddr (k := 9) rfl fo_83_9) ?_
    refine wl (ro_loadB rfl sc_3 (hB) (rfl)) ?_
    refine wl (ro_arith (r := (os'.length : Int)) rfl rfl (congrArg some (by show ((os'.length + 1 : Nat) : Int) - 1 = _; omega)) (Go.IntWalk.i64_in _ (by omega))) ?_
    refine wl (ro_nilCheck rfl) ?_
    refine wl (ro_fieldAddr (k := 9) rfl fo_83_9) ?_
    refine wl_put rfl rfl rfl sz_3 hB ((by simp)) ((show _ = fml B (T.length + 1) k pos ar.length (ov'.length + 1) os'.length hv dn er bd wi from rfl)) (fun w4 hB F4 => ?_)
    replace hF := hF.thenDrew.thenO F4 (by first | exact .inr (by omega) | exact .inl rfl | exact .inl (by assumption))
    replace hK := F4.blkO hK (by first | (simp only [ne_eq, ho.all, not_false_eq_true]; done) | omega)
    replace hA := F4.blkO hA (by first | (simp only [ne_eq, ho.all, not_false_eq_true]; done) | omega)
    replace hV := F4.blkO hV (by first | (simp only [ne_eq, ho.all, not_false_eq_true]; done) | omega)
    replace hO := F4.blkO hO (by first | (simp only [ne_eq, ho.all, not_false_eq_true]; done) | omega)
    refine wl_nil (x_then (hK8 _ _ ?_))
    clear hK8 K8
    refine forget [(0, _), (9, _), (10, _), (11, _), (12, _), (13, _), (14, _), (15, _), (16, _), (17, _), (18, _), (19, _), (20, _), (21, _)] ⟨rfl, rfl, rfl, rfl, rfl, rfl, rfl, rfl, rfl, rfl, rfl, rfl, rfl, rfl, trivial⟩ (fun e => ?_)
    refine c_seq (fun K9 hK9 => ?_)
    refine c_pi [(0, false), (1, false), (2, false), (3, false), (4, false), (5, false), (6, false), (7, false), (8, false), (9, false), (10, false), (11, false), (12, false), (13, true), (14, false)] (fun w' => SF w' B (T.length + 1) k pos (ov'.length + 1) os'.length hv dn wi ∧ FB w'.heap B.v 41 fv 3) mixed (by kernel_rfl) rfl (by kernel_rfl) (po_then (po_blk (po_then (po_blk (po_then (po_bp)))))) (⟨⟨_, _, _, hB⟩, hV⟩) ?_ -- region 2 parse.go:94
    refine pi_ro rfl (fun w hS => ro_move rfl) ?_
    refine pi_ro rfl (fun w hS => ro_move rfl) ?_
    refine pi_ro rfl (fun w hS => ro_nilCheck rfl) ?_
    refine pi_ro rfl (fun w hS => ro_fieldAddr (k := 6) rfl fo_83_6) ?_
    refine pi_ro rfl (fun w hS => ro_loadX rfl sc_79 (hS.1.ld (by decide) rfl)) ?_
    refine pi_ro rfl (fun w hS => ro_move rfl) ?_
    refine pi_ro rfl (fun w hS => ro_nilCheck rfl) ?_
    refine pi_ro rfl (fun w hS => ro_fieldAddr (k := 7) rfl fo_83_7) ?_
    refine pi_ro rfl (fun w hS => ro_loadX rfl sc_3 (hS.1.ld (by decide) rfl)) ?_
    refine pi_ro rfl (fun w hS => ro_arith (r := (ov'.length : Int)) rfl rfl (congrArg some (by show ((ov'.length + 1 : Nat) : Int) - 1 = _; omega)) (Go.IntWalk.i64_in _ (by omega))) ?_
    refine pi_ro rfl (fun w hS => ro_indexAddr (et := 3) (k := 1) rfl rfl se_79 (rfl) ((by omega : ov'.length < 41))) ?_
    refine pi_ro rfl (fun w hS => ro_loadB rfl sc_3 (hS.2) (cel_at (k := ov'.length) (by omega) (by omega) hyv)) ?_
    refine pi_ro rfl (fun w hS => ro_build rfl bld_143_0_2_3) ?_
    refine pi_call rfl rfl en_193 (add193 (x := nNegI v) ho hla hB hA hav) ?_
    rintro _ w9 ⟨rfl, ⟨⟨er', bd', hbd', hB⟩, ⟨fa', hA, hav⟩⟩, F9⟩
    replace hF := hF.transG F9 (by intro k hk h; simp only [one, none', fa2, fset] at h ⊢ <;> omega)
    replace hK := F9.blkF hK (by intro h; simp only [one, none', fa2, fset, ho.all, or_self, false_or, or_false] at h <;> omega)
    replace hV := F9.blkF hV (by intro h; simp only [one, none', fa2, fset, ho.all, or_self, false_or, or_false] at h <;> omega)
    replace hO := F9.blkF hO (by intro h; simp only [one, none', fa2, fset, ho.all, or_self, false_or, or_false] at h <;> omega)
    refine ⟨⟨⟨_, _, _, hB⟩, hV⟩, ?_⟩
    rw [hbad] at hbd' hB hav ⊢
    refine pi_ro rfl (fun w hS => ro_assign rfl) ?_
    refine pi_nil (x_then (hK9 _ _ ?_))
    clear hK9 K9
    refine c_piL 11 [(0, false), (1, false), (2, false), (3, false), (4, false), (5, false), (6, false), (7, false), (8, false), (9, false), (10, false)] (SameH _) mixed (by kernel_rfl) rfl (by kernel_rfl) (po_blk (po_then (po_blk (po_then (po_bp))))) (sameH_now _ _) ?_ -- region 3 parse.go:95
    refine ql_ro rfl (fun w hS => ro_move rfl) ?_
    refine ql_ro rfl (fun w hS => ro_nilCheck rfl) ?_
    refine ql_ro rfl (fun w hS => ro_fieldAddr (k := 6) rfl fo_83_6) ?_
    refine ql_ro rfl (fun w hS => ro_loadB rfl sc_79 (Blk.of_heap hB hS) (rfl)) ?_
    refine ql_ro rfl (fun w hS => ro_move rfl) ?_
    refine ql_ro rfl (fun w hS => ro_nilCheck rfl) ?_
    refine ql_ro rfl (fun w hS => ro_fieldAddr (k := 7) rfl fo_83_7) ?_
    refine ql_ro rfl (fun w hS => ro_loadB rfl sc_3 (Blk.of_heap hB hS) (rfl)) ?_
    refine ql_ro rfl (fun w hS => ro_arith (r := (ov'.length : Int)) rfl rfl (congrArg some (by show ((ov'.length + 1 : Nat) : Int) - 1 = _; omega)) (Go.IntWalk.i64_in _ (by omega))) ?_
    refine ql_ro rfl (fun w hS => ro_move rfl) ?_
    refine ql_ro rfl (fun w hS => ro_indexAddr (et := 3) (k := 1) rfl rfl se_79 (rfl) ((by omega : ov'.length < 41))) ?_
    refine ql_put rfl rfl rfl rfl sz_3 hV ((cel_lt (by omega))) ((cel_put ov'.length (by omega))) (fun w5 hV F5 => ?_)
    replace hF := hF.thenDrew.thenO F5 (by first | exact .inr (by omega) | exact .inl rfl | exact .inl (by assumption))
    replace hB := F5.blkO hB (by first | (simp only [ne_eq, ho.all, not_false_eq_true]; done) | omega)
    replace hK := F5.blkO hK (by first | (simp only [ne_eq, ho.all, not_false_eq_true]; done) | omega)
    replace hA := F5.blkO hA (by first | (simp only [ne_eq, ho.all, not_false_eq_true]; done) | omega)
    replace hO := F5.blkO hO (by first | (simp only [ne_eq, ho.all, not_false_eq_true]; done) | omega)
    refine x_blk (x_then ?_)
    exact ⟨os'.length, by simp, _, _, os', _, rfl, hres, by rw [← hnb, ← hht]; rfl, by simpa using hv1, by omega, ⟨_, _, _, _, _, _, _, _, ⟨hB, hK, hA, hV, hO, htv, hav, hvv.tail.push _, hmv.tail, hkT, hlT, addX_len hla⟩, hbd'⟩, hF, kp _ ⟨rfl, trivial⟩⟩

theorem whole163 {w : World} {B : FB7} {T : List Tk} {k : Nat} {ar : List Nd} {ov : List Int} {os : List Mk} {hv dn bad : Bool} {x : Nd} (ho : FBo B) (V : FW w B T k ar ov os hv dn bad) (hht : ov.length = nb os) (hv1 : ov.length < 41) (ho1 : os.length ≤ 41) :
    Ret Tryz.prog 163 [ptr B.f, .agg (ndc x).toArray] w (fun v w' => v = .tuple #[] ∧ FW w' B T k (wholeX x bad ar ov os).2.1 (wholeX x bad ar ov os).2.2.1 (wholeX x bad ar ov os).2.2.2 true dn (wholeX x bad ar ov os).1 ∧ Fram (fset B) w w') := by
  have hF : Fram (fset B) w w := Fram.refl _ _
  obtain ⟨pos, er, bd, wi, ft, fa, fv, fo, ⟨hB, hK, hA, hV, hO, htv, hav, hvv, hmv, hkT, hlT, hla⟩, hbad⟩ := V
  have hm1 : fset B B.f := .inl rfl
  have hm4 : fset B B.v := .inr (.inr (.inr (.inl rfl)))
  refine ret_of Tryz.func163 rfl Tryz.ntmps163 rfl ?_
  refine c_seq (fun K1 hK1 => ?_)
  refine c_reg ?_ -- region 0 parse.go:85
  refine wl_box (cs := (ndc x)) rfl rfl (fun xb w1 hbxb hX F1 => ?_)
  have hbsxb := Nat.le_trans hF.size hbxb
  have hneB.fxb : B.f < xb := Nat.lt_of_lt_of_le hB.lt hbxb
  have hneB.txb : B.t < xb := Nat.lt_of_lt_of_le hK.lt hbxb
  have hneB.axb : B.a < xb := Nat.lt_of_lt_of_le hA.lt hbxb
  have hneB.vxb : B.v < xb := Nat.lt_of_lt_of_le hV.lt hbxb
  have hneB.oxb : B.o < xb := Nat.lt_of_lt_of_le hO.lt hbxb
  replace hF := hF.thenDrew.thenN F1
  replace hB := F1.blkN hB
  replace hK := F1.blkN hK
  replace hA := F1.blkN hA
  replace hV := F1.blkN hV
  replace hO := F1.blkN hO
  refine wl_nil (x_then (hK1 _ _ ?_))
  clear hK1 K1
  refine forget [(0, _), (3, _)] ⟨rfl, rfl, trivial⟩ (fun e => ?_)
  refine c_seq (fun K2 hK2 => ?_)
  refine c_piL 12 [(0, false), (1, false), (2, false), (3, false), (4, false), (5, false), (6, false), (7, false), (8, false), (9, false), (10, true), (11, false)] (fun w' => SF w' B (T.length + 1) k pos ov.length os.length hv dn wi ∧ Blk w'.heap xb (ndc x) 143) mixed (by kernel_rfl) rfl (by kernel_rfl) (po_then (po_bp)) (⟨⟨_, _, _, hB⟩, hX⟩) ?_ -- region 1 parse.go:86
  refine ql_ro rfl (fun w hS => ro_move rfl) ?_
  refine ql_ro rfl (fun w hS => ro_nilCheck rfl) ?_
  refine ql_ro rfl (fun w hS => ro_fieldAddr (k := 6) rfl fo_83_6) ?_
  refine ql_ro rfl (fun w hS => ro_loadX rfl sc_79 (hS.1.ld (by decide) rfl)) ?_
  refine ql_ro rfl (fun w hS => ro_move rfl) ?_
  refine ql_ro rfl (fun w hS => ro_nilCheck rfl) ?_
  refine ql_ro rfl (fun w hS => ro_fieldAddr (k := 7) rfl fo_83_7) ?_
  refine ql_ro rfl (fun w hS => ro_loadX rfl sc_3 (hS.1.ld (by decide) rfl)) ?_
  refine ql_ro rfl (fun w hS => ro_move rfl) ?_
  refine ql_ro rfl (fun w hS => ro_loadAggB rfl ag_143 (hS.2) (rfl) (rfl)) ?_
  refine ql_call rfl rfl en_193 (add193 (x := x) ho hla hB hA hav) ?_
  rintro _ w9 ⟨rfl, ⟨⟨er', bd', hbd', hB⟩, ⟨fa', hA, hav⟩⟩, F9⟩
  replace hF := hF.transG F9 (by intro k hk h; simp only [one, none', fa2, fset] at h ⊢ <;> omega)
  replace hK := F9.blkF hK (by intro h; simp only [one, none', fa2, fset, ho.all, or_self, false_or, or_false] at h <;> omega)
  replace hV := F9.blkF hV (by intro h; simp only [one, none', fa2, fset, ho.all, or_self, false_or, or_false] at h <;> omega)
  replace hO := F9.blkF hO (by intro h; simp only [one, none', fa2, fset, ho.all, or_self, false_or, or_false] at h <;> omega)
  replace hX := F9.blkF hX (by intro h; simp only [one, none', fa2, fset, ho.all, or_self, false_or, or_false] at h <;> omega)
  refine ⟨⟨⟨_, _, _, hB⟩, hX⟩, ?_⟩
  rw [hbad] at hbd' hB hav ⊢
  refine ql_ro rfl (fun w hS => ro_indexAddr (et := 3) (k := 1) rfl rfl se_79 (rfl) (hv1)) ?_
  refine ql_put rfl rfl rfl rfl sz_3 hV ((cel_lt (by omega))) ((cel_put ov.length (by omega))) (fun w2 hV F2 => ?_)
  replace hF := hF.thenDrew.thenO F2 (by first | exact .inr (by omega) | exact .inl rfl | exact .inl (by assumption))
  replace hB := F2.blkO hB (by first | (simp only [ne_eq, ho.all, not_false_eq_true]; done) | omega)
  replace hK := F2.blkO hK (by first | (simp only [ne_eq, ho.all, not_false_eq_true]; done) | omega)
  replace hA := F2.blkO hA (by first | (simp only [ne_eq, ho.all, not_false_eq_true]; done) | omega)
  replace hO := F2.blkO hO (by first | (simp only [ne_eq, ho.all, not_false_eq_true]; done) | omega)
  replace hX := F2.blkO hX (by first | (simp only [ne_eq, ho.all, not_false_eq_true]; done) | omega)
  refine x_then (hK2 _ _ ?_)
  clear hK2 K2
  refine forget [(0, _)] ⟨rfl, trivial⟩ (fun e => ?_)
  refine c_seq (fun K3 hK3 => ?_)
  refine c_reg ?_ -- region 2 parse.go:87
  refine wl (ro_move rfl) ?_
  refine wl (ro_nilCheck rfl) ?_
  refine wl (ro_fieldAddr (k := 7) rfl fo_83_7) ?_
  refine wl (ro_loadB rfl sc_3 (hB) (rfl)) ?_
  refine wl (ro_arith (r := ((ov.length + 1 : Nat) : Int)) rfl rfl rfl (Go.IntWalk.i64_in _ (by omega))) ?_
  refine wl (ro_nilCheck rfl) ?_
  refine wl (ro_fieldAddr (k := 7) rfl fo_83_7) ?_
  refine wl_put rfl rfl rfl sz_3 hB ((by simp)) ((show _ = fml B (T.length + 1) k pos (addX bad ar x).2.1.length (ov.length + 1) os.length hv dn er' bd' wi from rfl)) (fun w3 hB F3 => ?_)
  replace hF := hF.thenDrew.thenO F3 (by first | exact .inr (by omega) | exact .inl rfl | exact .inl (by assumption))
  replace hK := F3.blkO hK (by first | (simp only [ne_eq, ho.all, not_false_eq_true]; done) | omega)
  replace hA := F3.blkO hA (by first | (simp only [ne_eq, ho.all, not_false_eq_true]; done) | omega)
  replace hV := F3.blkO hV (by first | (simp only [ne_eq, ho.all, not_false_eq_true]; done) | omega)
  replace hO := F3.blkO hO (by first | (simp only [ne_eq, ho.all, not_false_eq_true]; done) | omega)
  replace hX := F3.blkO hX (by first | (simp only [ne_eq, ho.all, not_false_eq_true]; done) | omega)
  refine wl_nil (x_then (hK3 _ _ ?_))
  clear hK3 K3
  have V3 : FW _ B T k (addX bad ar x).2.1 ((addX bad ar x).2.2 :: ov) os hv dn (addX bad ar x).1 := ⟨_, _, _, _, _, _, _, _, ⟨hB, hK, hA, hV, hO, htv, hav, hvv.push _, hmv, hkT, hlT, addX_len hla⟩, hbd'⟩
  refine c_reg ?_ -- region 3 parse.go:88
  refine wl (ro_move rfl) ?_
  refine wl_call rfl en_194 (settle194 ho V3 (by simpa using hht) (by simp only [List.length_cons]; omega) ho1) ?_
  rintro _ w7 ⟨rfl, V7, F7⟩
  replace hF := hF.transG F7 (fun k _ h ↦ h)
  refine wl_nil ?_
  refine bp_end Tryz.results163 rfl ?_
  exact ⟨rfl, V7, hF⟩

end Go.Proofs.Qxb6500570aGreat
