import Derived.Test.Qxb6500570aGreatNa
/- The definitions of rewriting: nodes and trees. -/
namespace Go.Proofs.Qxb6500570aGreat
set_option linter.unusedVariables false
set_option linter.unusedSimpArgs false

theorem neg_iff {P : Prop} [Decidable P] {l : Int} (h : P → 0 ≤ l) : (if P then l else -1) < 0 ↔ ¬ P := by
  by_cases q : P
  · rw [if_pos q]
    have := h q
    exact ⟨fun z => by omega, fun z => absurd q z⟩
  · rw [if_neg q]
    exact ⟨fun _ => q, fun _ => by omega⟩
theorem blk_some {a b : Rf} : (blkR a b).isSome = true ↔ gridR a = true ∧ gridR b = true := by
  unfold blkR
  by_cases h1 : gridR a = true
  · by_cases h2 : gridR b = true
    · simp [h1, h2]
    · simp [h1, h2]
  · simp [h1]
set_option maxHeartbeats 16000000 in
theorem MoveNode104 {w : World} {x : Nd} {kind a : Int} (hok : edOK kind a = true) : Ret Tryz.prog 104 [.agg (ndc x).toArray, icv kind, icv a] w (fun v w' => v = .agg (ndc (shN (rwB kind) (inB kind) a x)).toArray ∧ Fram none' w w') := by
  have hF : Fram none' w w := Fram.refl _ _
  obtain ⟨hk, ha⟩ := ed_iff.1 hok
  generalize hrow : rwB kind = rows at ha ⊢
  generalize hins : inB kind = ins at ⊢
  have hgb : ∀ r : Rf, gridR r = true → 0 ≤ gtR rows r ∧ gtR rows r < lnR rows := fun r h => gt_bd h
  have hlb : ∀ p q : Rf, gridR p = true → gridR q = true → loI ins a (gtR rows p) ≤ hcI rows ins a (gtR rows q) → 0 ≤ loI ins a (gtR rows p) := fun p q h1 h2 h3 => (lo_bd ha.1 (hgb p h1) (hgb q h2) h3).1.1
  have hgz : ∀ r : Rf, gridR r = true → 0 ≤ r.r ∧ 0 ≤ r.c := fun r h => ⟨(gt_bd (rows := true) h).1, (gt_bd (rows := false) h).1⟩
  refine ret_of Tryz.func104 rfl Tryz.ntmps104 rfl ?_
  refine c_seq (fun K1 hK1 => ?_)
  refine c_reg ?_ -- region 0 move.go:78
  refine wl_box (cs := (ndc x)) rfl rfl (fun b3 w1 hbb3 h3 F1 => ?_)
  have hbsb3 := Nat.le_trans hF.size hbb3
  replace hF := hF.thenDrew.thenN F1
  refine wl_new (ze_143) (fun b6 w2 hbb6 h6 F2 => ?_)
  have hbsb6 := Nat.le_trans hF.size hbb6
  have hneb3b6 : b3 < b6 := Nat.lt_of_lt_of_le h3.lt hbb6
  replace hF := hF.thenDrew.thenN F2
  replace h3 := F2.blkN h3
  refine wl_nil (x_then (hK1 _ _ ?_))
  clear hK1 K1
  refine forget [(1, _), (2, _), (3, _), (6, _)] ⟨rfl, rfl, rfl, rfl, trivial⟩ (fun e => ?_)
  refine c_mid (fun a' w' => Fram none' w w' ∧ Blk w'.heap b3 (ndc x) 143 ∧ Blk w'.heap b6 (ndc ⟨0, 0, 0, 0, 0, zR, zR⟩) 143 ∧ ∃ e, a' = Fr 127 (upds e [(1, icv kind), (2, icv a), (3, ptr b3), (6, ptr b6), (7, .bool rows)]) []) ?_ ?_
  · skip
    refine c_reg ?_ -- region 1 move.go:79
    refine wl (ro_move rfl) ?_
    refine wl (ro_cmp rfl rfl rfl) ?_
    refine wl_fork rfl (fun hg17 => ?_) (fun hg17 => ?_)
    · try simp only [decide_eq_true_eq, decide_eq_false_iff_not, Bool.not_eq_true', Bool.not_eq_false', Bool.not_eq_eq_eq_not, Bool.not_true, Bool.not_false, beq_iff_eq, bne_iff_ne, ne_eq, beq_eq_false_iff_ne, bne_eq_false_iff_eq, gt_iff_lt, ge_iff_le, Int.not_lt, Int.not_le] at hg17
      refine wlg_no rfl ?_
      refine wlg_no rfl ?_
      refine wl (ro_pick rfl rfl rfl) ?_
      refine wl (ro_assign rfl) ?_
      refine wl_nil (x_then ?_)
      exact ⟨hF, h3, h6, kp _ ⟨rfl, rfl, rfl, rfl, congrArg some (congrArg Value.bool (by rw [← hrow]; exact (decide_eq_true (.inl hg17)).symm)), trivial⟩⟩
    · try simp only [decide_eq_true_eq, decide_eq_false_iff_not, Bool.not_eq_true', Bool.not_eq_false', Bool.not_eq_eq_eq_not, Bool.not_true, Bool.not_false, beq_iff_eq, bne_iff_ne, ne_eq, beq_eq_false_iff_ne, bne_eq_false_iff_eq, gt_iff_lt, ge_iff_le, Int.not_lt, Int.not_le] at hg17
      refine wlg_yes rfl (ro_move rfl) ?_
      refine wlg_yes rfl (ro_cmp rfl rfl rfl) ?_
      refine wl (ro_pick rfl rfl rfl) ?_
      refine wl (ro_assign rfl) ?_
      refine wl_nil (x_then ?_)
      exact ⟨hF, h3, h6, kp _ ⟨rfl, rfl, rfl, rfl, congrArg some (congrArg Value.bool (by rw [← hrow]; exact decide_eq_decide.2 (by omega))), trivial⟩⟩
  clear hF h3 h6
  rintro a' u1 ⟨hF, h3, h6, e, rfl⟩
  refine c_mid (fun a' w' => Fram none' w w' ∧ Blk w'.heap b3 (ndc x) 143 ∧ Blk w'.heap b6 (ndc ⟨0, 0, 0, 0, 0, zR, zR⟩) 143 ∧ ∃ e, a' = Fr 127 (upds e [(2, icv a), (3, ptr b3), (6, ptr b6), (7, .bool rows), (8, .bool ins)]) []) ?_ ?_
  · skip
    refine c_reg ?_ -- region 2 move.go:80
    refine wl (ro_move rfl) ?_
    refine wl (ro_cmp rfl rfl rfl) ?_
    refine wl_fork rfl (fun hg23 => ?_) (fun hg23 => ?_)
    · try simp only [decide_eq_true_eq, decide_eq_false_iff_not, Bool.not_eq_true', Bool.not_eq_false', Bool.not_eq_eq_eq_not, Bool.not_true, Bool.not_false, beq_iff_eq, bne_iff_ne, ne_eq, beq_eq_false_iff_ne, bne_eq_false_iff_eq, gt_iff_lt, ge_iff_le, Int.not_lt, Int.not_le] at hg23
      refine wlg_no rfl ?_
      refine wlg_no rfl ?_
      refine wl (ro_pick rfl rfl rfl) ?_
      refine wl (ro_assign rfl) ?_
      refine wl_nil (x_then ?_)
      exact ⟨hF, h3, h6, kp _ ⟨rfl, rfl, rfl, rfl, congrArg some (congrArg Value.bool (by rw [← hins]; exact (decide_eq_true (.inl hg23)).symm)), trivial⟩⟩
    · try simp only [decide_eq_true_eq, decide_eq_false_iff_not, Bool.not_eq_true', Bool.not_eq_false', Bool.not_eq_eq_eq_not, Bool.not_true, Bool.not_false, beq_iff_eq, bne_iff_ne, ne_eq, beq_eq_false_iff_ne, bne_eq_false_iff_eq, gt_iff_lt, ge_iff_le, Int.not_lt, Int.not_le] at hg23
      refine wlg_yes rfl (ro_move rfl) ?_
      refine wlg_yes rfl (ro_cmp rfl rfl rfl) ?_
      refine wl (ro_pick rfl rfl rfl) ?_
      refine wl (ro_assign rfl) ?_
      refine wl_nil (x_then ?_)
      exact ⟨hF, h3, h6, kp _ ⟨rfl, rfl, rfl, rfl, congrArg some (congrArg Value.bool (by rw [← hins]; exact decide_eq_decide.2 (by omega))), trivial⟩⟩
  clear hF h3 h6 hrow hins
  rintro a' u2 ⟨hF, h3, h6, e, rfl⟩
  refine c_seq (fun K2 hK2 => ?_)
  refine c_seq (fun K3 hK3 => ?_)
  refine c_reg ?_ -- region 3 move.go:81
  refine wl (ro_fieldAddr (k := 0) rfl fo_143_0) ?_
  refine wl (ro_loadB rfl sc_3 (h3) (rfl)) ?_
  refine wl (ro_cmp (r := decide (x.k = 3)) rfl rfl rfl) ?_
  refine wl_fork rfl (fun hg30 => ?_) (fun hg30 => ?_)
  · try simp only [decide_eq_true_eq, decide_eq_false_iff_not, Bool.not_eq_true', Bool.not_eq_false', Bool.not_eq_eq_eq_not, Bool.not_true, Bool.not_false, beq_iff_eq, bne_iff_ne, ne_eq, beq_eq_false_iff_ne, bne_eq_false_iff_eq, gt_iff_lt, ge_iff_le, Int.not_lt, Int.not_le] at hg30
    refine wlg_yes rfl (ro_fieldAddr (k := 5) rfl fo_143_5) ?_
    refine wlg_yes rfl (ro_loadAggB rfl ag_141 (h3) (rfl) (rfl)) ?_
    refine wlg_call rfl rfl en_98 (InGrid98 (r := x.p)) ?_
    rintro _ u3 ⟨rfl, G3⟩
    replace hF := hF.transG G3 (by intro k hk h; simp only [none'] at h ⊢ <;> omega)
    replace h3 := G3.blkF h3 (by intro h; simp only [none'] at h <;> omega)
    replace h6 := G3.blkF h6 (by intro h; simp only [none'] at h <;> omega)
    refine wl (ro_pick rfl rfl rfl) ?_
    refine wl_nil (x_then (hK3 _ _ ?_))
    clear hK3 K3
    refine wc_cond rfl (fun hc34 => ?_) (fun hc34 => ?_)
    · try simp only [decide_eq_true_eq, decide_eq_false_iff_not, Bool.not_eq_true', Bool.not_eq_false', Bool.not_eq_eq_eq_not, Bool.not_true, Bool.not_false, beq_iff_eq, bne_iff_ne, ne_eq, beq_eq_false_iff_ne, bne_eq_false_iff_eq, gt_iff_lt, ge_iff_le, Int.not_lt, Int.not_le] at hc34
      refine c_mid (fun a' w' => Fram none' w w' ∧ Blk w'.heap b3 (ndc (setP x (mvR rows x.p (if loI ins a (gtR rows x.p) ≤ hcI rows ins a (gtR rows x.p) then loI ins a (gtR rows x.p) else -1)))) 143 ∧ Blk w'.heap b6 (ndc ⟨0, 0, 0, 0, 0, zR, zR⟩) 143 ∧ ∃ e, a' = Fr 127 (upds e [(3, ptr b3), (6, ptr b6)]) []) ?_ ?_
      · skip
        refine c_seq (fun K4 hK4 => ?_)
        refine c_reg ?_ -- region 4 move.go:82
        refine wl (ro_move rfl) ?_
        refine wl_nil (x_then (hK4 _ _ ?_))
        clear hK4 K4
        refine wc_cond rfl (fun hc35 => ?_) (fun hc35 => ?_)
        · try simp only [decide_eq_true_eq, decide_eq_false_iff_not, Bool.not_eq_true', Bool.not_eq_false', Bool.not_eq_eq_eq_not, Bool.not_true, Bool.not_false, beq_iff_eq, bne_iff_ne, ne_eq, beq_eq_false_iff_ne, bne_eq_false_iff_eq, gt_iff_lt, ge_iff_le, Int.not_lt, Int.not_le] at hc35
          subst hc35
          refine c_reg ?_ -- region 5 move.go:83
          refine wl (ro_fieldAddr (k := 5) rfl fo_143_5) ?_
          refine wl (ro_fieldAddr (k := 1) rfl fo_141_1) ?_
          refine wl (ro_loadB rfl sc_3 (h3) (rfl)) ?_
          refine wl (ro_move rfl) ?_
          refine wl (ro_move rfl) ?_
          refine wl_call rfl en_134 (point134 (rows := true) (ins := ins) (a := a) (hgb x.p hc34) ha) ?_
          rintro _ _ ⟨rfl, rfl⟩
          refine wl (ro_fieldAddr (k := 5) rfl fo_143_5) ?_
          refine wl (ro_fieldAddr (k := 1) rfl fo_141_1) ?_
          refine wl_put rfl rfl rfl sz_3 h3 ((by simp)) ((show _ = ndc (setP x (mvR true x.p (if loI ins a x.p.r ≤ hcI true ins a x.p.r then loI ins a x.p.r else -1))) from rfl)) (fun w3 h3 F3 => ?_)
          replace hF := hF.thenDrew.thenO F3 (by first | exact .inr (by omega) | exact .inl rfl | exact .inl (by assumption))
          replace h6 := F3.blkO h6 (by omega)
          refine wl_nil (x_then ?_)
          exact ⟨hF, h3, h6, kp _ ⟨rfl, rfl, trivial⟩⟩
        · try simp only [decide_eq_true_eq, decide_eq_false_iff_not, Bool.not_eq_true', Bool.not_eq_false', Bool.not_eq_eq_eq_not, Bool.not_true, Bool.not_false, beq_iff_eq, bne_iff_ne, ne_eq, beq_eq_false_iff_ne, bne_eq_false_iff_eq, gt_iff_lt, ge_iff_le, Int.not_lt, Int.not_le] at hc35
          subst hc35
          refine c_reg ?_ -- region 6 move.go:85
          refine wl (ro_fieldAddr (k := 5) rfl fo_143_5) ?_
          refine wl (ro_fieldAddr (k := 0) rfl fo_141_0) ?_
          refine wl (ro_loadB rfl sc_3 (h3) (rfl)) ?_
          refine wl (ro_move rfl) ?_
          refine wl (ro_move rfl) ?_
          refine wl_call rfl en_134 (point134 (rows := false) (ins := ins) (a := a) (hgb x.p hc34) ha) ?_
          rintro _ _ ⟨rfl, rfl⟩
          refine wl (ro_fieldAddr (k := 5) rfl fo_143_5) ?_
          refine wl (ro_fieldAddr (k := 0) rfl fo_141_0) ?_
          refine wl_put rfl rfl rfl sz_3 h3 ((by simp)) ((show _ = ndc (setP x (mvR false x.p (if loI ins a x.p.c ≤ hcI false ins a x.p.c then loI ins a x.p.c else -1))) from rfl)) (fun w4 h3 F4 => ?_)
          replace hF := hF.thenDrew.thenO F4 (by first | exact .inr (by omega) | exact .inl rfl | exact .inl (by assumption))
          replace h6 := F4.blkO h6 (by omega)
          refine wl_nil (x_then ?_)
          exact ⟨hF, h3, h6, kp _ ⟨rfl, rfl, trivial⟩⟩
      clear hF h3 h6
      rintro a' u6 ⟨hF, h3, h6, e, rfl⟩
      have hsh : shN rows ins a x = if loI ins a (gtR rows x.p) ≤ hcI rows ins a (gtR rows x.p) then setP x (mvR rows x.p (loI ins a (gtR rows x.p))) else nBad := by unfold shN; rw [if_pos ⟨hg30, hc34⟩]; rfl
      have hneg := neg_iff (hlb x.p x.p hc34 hc34)
      have hv : (loI ins a (gtR rows x.p) ≤ hcI rows ins a (gtR rows x.p)) → (if loI ins a (gtR rows x.p) ≤ hcI rows ins a (gtR rows x.p) then loI ins a (gtR rows x.p) else -1) = loI ins a (gtR rows x.p) := fun q => if_pos q
      have hgx := hgz x.p hc34
      generalize (if loI ins a (gtR rows x.p) ≤ hcI rows ins a (gtR rows x.p) then loI ins a (gtR rows x.p) else -1) = v at *
      have hneg2 : ((mvR rows x.p v).r < 0 ∨ (mvR rows x.p v).c < 0) ↔ ¬ loI ins a (gtR rows x.p) ≤ hcI rows ins a (gtR rows x.p) := by
        rw [← hneg]
        unfold mvR
        cases rows <;> simp <;> omega
      refine c_seq (fun K5 hK5 => ?_)
      refine c_seq (fun K6 hK6 => ?_)
      refine c_reg ?_ -- region 7 move.go:87
      refine wl (ro_fieldAddr (k := 5) rfl fo_143_5) ?_
      refine wl (ro_fieldAddr (k := 1) rfl fo_141_1) ?_
      refine wl (ro_loadB rfl sc_3 (h3) (rfl)) ?_
      refine wl (ro_cmp (r := decide ((mvR rows x.p v).r < 0)) rfl rfl rfl) ?_
      refine wl_fork rfl (fun hg56 => ?_) (fun hg56 => ?_)
      · try simp only [decide_eq_true_eq, decide_eq_false_iff_not, Bool.not_eq_true', Bool.not_eq_false', Bool.not_eq_eq_eq_not, Bool.not_true, Bool.not_false, beq_iff_eq, bne_iff_ne, ne_eq, beq_eq_false_iff_ne, bne_eq_false_iff_eq, gt_iff_lt, ge_iff_le, Int.not_lt, Int.not_le] at hg56
        refine wlg_no rfl ?_
        refine wlg_no rfl ?_
        refine wlg_no rfl ?_
        refine wlg_no rfl ?_
        refine wl (ro_pick rfl rfl rfl) ?_
        refine wl_nil (x_then (hK6 _ _ ?_))
        clear hK6 K6
        refine wc_condT rfl ?_
        refine c_seq (fun K7 hK7 => ?_)
        refine c_reg ?_ -- region 8 move.go:88
        refine wl_call rfl en_135 (bad135) ?_
        rintro _ u4 ⟨rfl, G4⟩
        replace hF := hF.transG G4 (by intro k hk h; simp only [none'] at h ⊢ <;> omega)
        replace h3 := G4.blkF h3 (by intro h; simp only [none'] at h <;> omega)
        replace h6 := G4.blkF h6 (by intro h; simp only [none'] at h <;> omega)
        refine wl_puta rfl rfl ((ndc_cells _)) sz_143 (rfl) h6 ((by simp)) ((show _ = ndc nBad from rfl)) (fun w5 h6 F5 => ?_)
        replace hF := hF.thenDrew.thenO F5 (by first | exact .inr (by omega) | exact .inl rfl | exact .inl (by assumption))
        replace h3 := F5.blkO h3 (by omega)
        refine wl_nil (x_then (hK7 _ _ ?_))
        clear hK7 K7
        refine c_ret (x_thenR (x_thenR ?_))
        refine bq_ret (res1 Tryz.results104 (rv_c rfl ag_143 (h6) (rfl))) ?_
        rw [hsh, if_neg (hneg2.1 (by omega))]
        exact ⟨rfl, hF⟩
      · try simp only [decide_eq_true_eq, decide_eq_false_iff_not, Bool.not_eq_true', Bool.not_eq_false', Bool.not_eq_eq_eq_not, Bool.not_true, Bool.not_false, beq_iff_eq, bne_iff_ne, ne_eq, beq_eq_false_iff_ne, bne_eq_false_iff_eq, gt_iff_lt, ge_iff_le, Int.not_lt, Int.not_le] at hg56
        refine wlg_yes rfl (ro_fieldAddr (k := 5) rfl fo_143_5) ?_
        refine wlg_yes rfl (ro_fieldAddr (k := 0) rfl fo_141_0) ?_
        refine wlg_yes rfl (ro_loadB rfl sc_3 (h3) (rfl)) ?_
        refine wlg_yes rfl (ro_cmp (r := decide ((mvR rows x.p v).c < 0)) rfl rfl rfl) ?_
        refine wl (ro_pick rfl rfl rfl) ?_
        refine wl_nil (x_then (hK6 _ _ ?_))
        clear hK6 K6
        refine wc_cond rfl (fun hc61 => ?_) (fun hc61 => ?_)
        · try simp only [decide_eq_true_eq, decide_eq_false_iff_not, Bool.not_eq_true', Bool.not_eq_false', Bool.not_eq_eq_eq_not, Bool.not_true, Bool.not_false, beq_iff_eq, bne_iff_ne, ne_eq, beq_eq_false_iff_ne, bne_eq_false_iff_eq, gt_iff_lt, ge_iff_le, Int.not_lt, Int.not_le] at hc61
          refine c_seq (fun K8 hK8 => ?_)
          refine c_reg ?_ -- region 8 move.go:88
          refine wl_call rfl en_135 (bad135) ?_
          rintro _ u4 ⟨rfl, G4⟩
          replace hF := hF.transG G4 (by intro k hk h; simp only [none'] at h ⊢ <;> omega)
          replace h3 := G4.blkF h3 (by intro h; simp only [none'] at h <;> omega)
          replace h6 := G4.blkF h6 (by intro h; simp only [none'] at h <;> omega)
          refine wl_puta rfl rfl ((ndc_cells _)) sz_143 (rfl) h6 ((by simp)) ((show _ = ndc nBad from rfl)) (fun w6 h6 F6 => ?_)
          replace hF := hF.thenDrew.thenO F6 (by first | exact .inr (by omega) | exact .inl rfl | exact .inl (by assumption))
          replace h3 := F6.blkO h3 (by omega)
          refine wl_nil (x_then (hK8 _ _ ?_))
          clear hK8 K8
          refine c_ret (x_thenR (x_thenR ?_))
          refine bq_ret (res1 Tryz.results104 (rv_c rfl ag_143 (h6) (rfl))) ?_
          rw [hsh, if_neg (hneg2.1 (by omega))]
          exact ⟨rfl, hF⟩
        · try simp only [decide_eq_true_eq, decide_eq_false_iff_not, Bool.not_eq_true', Bool.not_eq_false', Bool.not_eq_eq_eq_not, Bool.not_true, Bool.not_false, beq_iff_eq, bne_iff_ne, ne_eq, beq_eq_false_iff_ne, bne_eq_false_iff_eq, gt_iff_lt, ge_iff_le, Int.not_lt, Int.not_le] at hc61
          refine c_skip (x_then (hK5 _ _ ?_))
          clear hK5 K5
          refine forget [(3, _), (6, _)] ⟨rfl, rfl, trivial⟩ (fun e => ?_)
          refine c_seq (fun K9 hK9 => ?_)
          refine c_reg ?_ -- region 9 move.go:90
          refine wl (ro_loadAggB rfl ag_143 (h3) (rfl) (rfl)) ?_
          refine wl_puta rfl rfl ((ndc_cells _)) sz_143 (rfl) h6 ((by simp)) (rfl) (fun w7 h6 F7 => ?_)
          replace hF := hF.thenDrew.thenO F7 (by first | exact .inr (by omega) | exact .inl rfl | exact .inl (by assumption))
          replace h3 := F7.blkO h3 (by omega)
          refine wl_nil (x_then (hK9 _ _ ?_))
          clear hK9 K9
          refine c_ret (x_thenR ?_)
          refine bq_ret (res1 Tryz.results104 (rv_c rfl ag_143 (h6) (rfl))) ?_
          have hP : loI ins a (gtR rows x.p) ≤ hcI rows ins a (gtR rows x.p) := Classical.byContradiction (fun q => by have := hneg2.2 q; omega)
          rw [hsh, if_pos hP, ← hv hP]
          exact ⟨rfl, hF⟩
    · try simp only [decide_eq_true_eq, decide_eq_false_iff_not, Bool.not_eq_true', Bool.not_eq_false', Bool.not_eq_eq_eq_not, Bool.not_true, Bool.not_false, beq_iff_eq, bne_iff_ne, ne_eq, beq_eq_false_iff_ne, bne_eq_false_iff_eq, gt_iff_lt, ge_iff_le, Int.not_lt, Int.not_le] at hc34
      refine c_skip (x_then (hK2 _ _ ?_))
      clear hK2 K2
      refine c_seq (fun K10 hK10 => ?_)
      refine c_seq (fun K11 hK11 => ?_)
      refine c_reg ?_ -- region 10 move.go:92
      refine wl (ro_fieldAddr (k := 0) rfl fo_143_0) ?_
      refine wl (ro_loadB rfl sc_3 (h3) (rfl)) ?_
      refine wl (ro_cmp (r := true) rfl rfl (congrArg some ((bne_dec _ _).trans (decide_eq_true (show ¬ x.k = 4 by omega))))) ?_
      refine wl_nil (x_then (hK11 _ _ ?_))
      clear hK11 K11
      refine wc_condT rfl ?_
      refine c_seq (fun K12 hK12 => ?_)
      refine c_reg ?_ -- region 11 move.go:93
      refine wl (ro_loadAggB rfl ag_143 (h3) (rfl) (rfl)) ?_
      refine wl_puta rfl rfl ((ndc_cells _)) sz_143 (rfl) h6 ((by simp)) (rfl) (fun w8 h6 F8 => ?_)
      replace hF := hF.thenDrew.thenO F8 (by first | exact .inr (by omega) | exact .inl rfl | exact .inl (by assumption))
      replace h3 := F8.blkO h3 (by omega)
      refine wl_nil (x_then (hK12 _ _ ?_))
      clear hK12 K12
      refine c_ret (x_thenR ?_)
      refine bq_ret (res1 Tryz.results104 (rv_c rfl ag_143 (h6) (rfl))) ?_
      rw [show shN rows ins a x = x by unfold shN; rw [if_neg (fun q => by rw [q.2] at hc34; cases hc34), if_neg (fun q => by have := q.1; omega)]]
      exact ⟨rfl, hF⟩
  · try simp only [decide_eq_true_eq, decide_eq_false_iff_not, Bool.not_eq_true', Bool.not_eq_false', Bool.not_eq_eq_eq_not, Bool.not_true, Bool.not_false, beq_iff_eq, bne_iff_ne, ne_eq, beq_eq_false_iff_ne, bne_eq_false_iff_eq, gt_iff_lt, ge_iff_le, Int.not_lt, Int.not_le] at hg30
    refine wlg_no rfl ?_
    refine wlg_no rfl ?_
    refine wlg_no rfl ?_
    refine wl (ro_pick rfl rfl rfl) ?_
    refine wl_nil (x_then (hK3 _ _ ?_))
    clear hK3 K3
    refine wc_condF rfl ?_
    refine c_skip (x_then (hK2 _ _ ?_))
    clear hK2 K2
    refine c_seq (fun K13 hK13 => ?_)
    refine c_seq (fun K14 hK14 => ?_)
    refine c_reg ?_ -- region 10 move.go:92
    refine wl (ro_fieldAddr (k := 0) rfl fo_143_0) ?_
    refine wl (ro_loadB rfl sc_3 (h3) (rfl)) ?_
    refine wl (ro_cmp (r := decide (x.k ≠ 4)) rfl rfl (congrArg some (bne_dec _ _))) ?_
    refine wl_nil (x_then (hK14 _ _ ?_))
    clear hK14 K14
    refine wc_cond rfl (fun hc66 => ?_) (fun hc66 => ?_)
    · try simp only [decide_eq_true_eq, decide_eq_false_iff_not, Bool.not_eq_true', Bool.not_eq_false', Bool.not_eq_eq_eq_not, Bool.not_true, Bool.not_false, beq_iff_eq, bne_iff_ne, ne_eq, beq_eq_false_iff_ne, bne_eq_false_iff_eq, gt_iff_lt, ge_iff_le, Int.not_lt, Int.not_le] at hc66
      refine c_seq (fun K15 hK15 => ?_)
      refine c_reg ?_ -- region 11 move.go:93
      refine wl (ro_loadAggB rfl ag_143 (h3) (rfl) (rfl)) ?_
      refine wl_puta rfl rfl ((ndc_cells _)) sz_143 (rfl) h6 ((by simp)) (rfl) (fun w9 h6 F9 => ?_)
      replace hF := hF.thenDrew.thenO F9 (by first | exact .inr (by omega) | exact .inl rfl | exact .inl (by assumption))
      replace h3 := F9.blkO h3 (by omega)
      refine wl_nil (x_then (hK15 _ _ ?_))
      clear hK15 K15
      refine c_ret (x_thenR ?_)
      refine bq_ret (res1 Tryz.results104 (rv_c rfl ag_143 (h6) (rfl))) ?_
      rw [show shN rows ins a x = x by unfold shN; rw [if_neg (fun q => hg30 q.1), if_neg (fun q => hc66 q.1)]]
      exact ⟨rfl, hF⟩
    · try simp only [decide_eq_true_eq, decide_eq_false_iff_not, Bool.not_eq_true', Bool.not_eq_false', Bool.not_eq_eq_eq_not, Bool.not_true, Bool.not_false, beq_iff_eq, bne_iff_ne, ne_eq, beq_eq_false_iff_ne, bne_eq_false_iff_eq, gt_iff_lt, ge_iff_le, Int.not_lt, Int.not_le] at hc66
      have hx4 : x.k = 4 := Classical.not_not.1 hc66
      refine c_skip (x_then (hK13 _ _ ?_))
      clear hK13 K13
      refine forget [(2, _), (3, _), (6, _), (7, _), (8, _)] ⟨rfl, rfl, rfl, rfl, rfl, trivial⟩ (fun e => ?_)
      refine c_seq (fun K16 hK16 => ?_)
      refine c_reg ?_ -- region 12 move.go:95
      refine wl (ro_fieldAddr (k := 5) rfl fo_143_5) ?_
      refine wl (ro_loadAggB rfl ag_141 (h3) (rfl) (rfl)) ?_
      refine wl (ro_fieldAddr (k := 9) rfl fo_143_6) ?_
      refine wl (ro_loadAggB rfl ag_141 (h3) (rfl) (rfl)) ?_
      refine wl_call rfl en_136 (Block136 (a := x.p) (b := x.q)) ?_
      rintro _ u5 ⟨rfl, G5⟩
      replace hF := hF.transG G5 (by intro k hk h; simp only [none'] at h ⊢ <;> omega)
      replace h3 := G5.blkF h3 (by intro h; simp only [none'] at h <;> omega)
      replace h6 := G5.blkF h6 (by intro h; simp only [none'] at h <;> omega)
      refine wl (ro_move rfl) ?_
      refine wl (ro_extract rfl rfl) ?_
      refine wl (ro_extract rfl rfl) ?_
      refine wl (ro_assign rfl) ?_
      refine wl (ro_assign rfl) ?_
      refine wl_nil (x_then (hK16 _ _ ?_))
      clear hK16 K16
      refine c_seq (fun K17 hK17 => ?_)
      refine c_seq (fun K18 hK18 => ?_)
      refine c_reg ?_ -- region 13 move.go:96
      refine wl (ro_move rfl) ?_
      refine wl (ro_not rfl) ?_
      refine wl_nil (x_then (hK18 _ _ ?_))
      clear hK18 K18
      refine wc_cond rfl (fun hc77 => ?_) (fun hc77 => ?_)
      · try simp only [decide_eq_true_eq, decide_eq_false_iff_not, Bool.not_eq_true', Bool.not_eq_false', Bool.not_eq_eq_eq_not, Bool.not_true, Bool.not_false, beq_iff_eq, bne_iff_ne, ne_eq, beq_eq_false_iff_ne, bne_eq_false_iff_eq, gt_iff_lt, ge_iff_le, Int.not_lt, Int.not_le] at hc77
        refine c_seq (fun K19 hK19 => ?_)
        refine c_reg ?_ -- region 14 move.go:97
        refine wl (ro_loadAggB rfl ag_143 (h3) (rfl) (rfl)) ?_
        refine wl_puta rfl rfl ((ndc_cells _)) sz_143 (rfl) h6 ((by simp)) (rfl) (fun w10 h6 F10 => ?_)
        replace hF := hF.thenDrew.thenO F10 (by first | exact .inr (by omega) | exact .inl rfl | exact .inl (by assumption))
        replace h3 := F10.blkO h3 (by omega)
        refine wl_nil (x_then (hK19 _ _ ?_))
        clear hK19 K19
        refine c_ret (x_thenR ?_)
        refine bq_ret (res1 Tryz.results104 (rv_c rfl ag_143 (h6) (rfl))) ?_
        rw [show shN rows ins a x = x by unfold shN; rw [if_neg (fun q => hg30 q.1), if_neg (fun q => by rw [blk_some.2 q.2] at hc77; cases hc77)]]
        exact ⟨rfl, hF⟩
      · try simp only [decide_eq_true_eq, decide_eq_false_iff_not, Bool.not_eq_true', Bool.not_eq_false', Bool.not_eq_eq_eq_not, Bool.not_true, Bool.not_false, beq_iff_eq, bne_iff_ne, ne_eq, beq_eq_false_iff_ne, bne_eq_false_iff_eq, gt_iff_lt, ge_iff_le, Int.not_lt, Int.not_le] at hc77
        have hgg := blk_some.1 hc77
        have hsh : shN rows ins a x = shQ rows ins a x := by unfold shN; rw [if_neg (fun q => by have := q.1; omega), if_pos ⟨hx4, hgg.1, hgg.2⟩]
        have hbp := hgb x.p hgg.1
        have hbq := hgb x.q hgg.2
        unfold shQ at hsh
        have hl1 := hlb x.p x.q hgg.1 hgg.2
        have hl2 := hlb x.q x.p hgg.2 hgg.1
        refine c_skip (x_then (hK17 _ _ ?_))
        clear hK17 K17
        refine forget [(2, _), (3, _), (6, _), (7, _), (8, _)] ⟨rfl, rfl, rfl, rfl, rfl, trivial⟩ (fun e => ?_)
        refine c_seq (fun K20 hK20 => ?_)
        refine c_pi [(0, false), (1, false), (2, false), (3, false), (4, false), (5, false), (6, false), (7, false), (8, false)] (fun w' => Blk w'.heap b3 (ndc x) 143) mixed (by kernel_rfl) rfl (by kernel_rfl) (po_then (po_bp)) (h3) ?_ -- region 15 move.go:99
        refine pi_ro rfl (fun w hS => ro_fieldAddr (k := 5) rfl fo_143_5) ?_
        refine pi_ro rfl (fun w hS => ro_fieldAddr (k := 0) rfl fo_141_0) ?_
        refine pi_ro rfl (fun w hS => ro_loadB rfl sc_3 (hS) (rfl)) ?_
        refine pi_ro rfl (fun w hS => ro_fieldAddr (k := 9) rfl fo_143_6) ?_
        refine pi_ro rfl (fun w hS => ro_fieldAddr (k := 0) rfl fo_141_0) ?_
        refine pi_ro rfl (fun w hS => ro_loadB rfl sc_3 (hS) (rfl)) ?_
        refine pi_ro rfl (fun w hS => ro_assign rfl) ?_
        refine pi_ro rfl (fun w hS => ro_assign rfl) ?_
        refine pi_ro rfl (fun w hS => ro_assign rfl) ?_
        refine pi_nil (x_then (hK20 _ _ ?_))
        clear hK20 K20
        refine c_mid (fun a' w' => Fram none' w w' ∧ Blk w'.heap b3 (ndc x) 143 ∧ Blk w'.heap b6 (ndc ⟨0, 0, 0, 0, 0, zR, zR⟩) 143 ∧ ∃ e, a' = Fr 127 (upds e [(2, icv a), (3, ptr b3), (6, ptr b6), (7, .bool rows), (8, .bool ins), (11, icv (gtR rows x.p)), (12, icv (gtR rows x.q)), (13, icv (lnR rows))]) []) ?_ ?_
        · skip
          refine c_seq (fun K21 hK21 => ?_)
          refine c_reg ?_ -- region 16 move.go:100
          refine wl (ro_move rfl) ?_
          refine wl_nil (x_then (hK21 _ _ ?_))
          clear hK21 K21
          refine wc_cond rfl (fun hc85 => ?_) (fun hc85 => ?_)
          · try simp only [decide_eq_true_eq, decide_eq_false_iff_not, Bool.not_eq_true', Bool.not_eq_false', Bool.not_eq_eq_eq_not, Bool.not_true, Bool.not_false, beq_iff_eq, bne_iff_ne, ne_eq, beq_eq_false_iff_ne, bne_eq_false_iff_eq, gt_iff_lt, ge_iff_le, Int.not_lt, Int.not_le] at hc85
            subst hc85
            refine c_pi [(0, false), (1, false), (2, false), (3, false), (4, false), (5, false), (6, false), (7, false), (8, false)] (fun w' => Blk w'.heap b3 (ndc x) 143) mixed (by kernel_rfl) rfl (by kernel_rfl) (po_then (po_bp)) (h3) ?_ -- region 17 move.go:101
            refine pi_ro rfl (fun w hS => ro_fieldAddr (k := 5) rfl fo_143_5) ?_
            refine pi_ro rfl (fun w hS => ro_fieldAddr (k := 1) rfl fo_141_1) ?_
            refine pi_ro rfl (fun w hS => ro_loadB rfl sc_3 (hS) (rfl)) ?_
            refine pi_ro rfl (fun w hS => ro_fieldAddr (k := 9) rfl fo_143_6) ?_
            refine pi_ro rfl (fun w hS => ro_fieldAddr (k := 1) rfl fo_141_1) ?_
            refine pi_ro rfl (fun w hS => ro_loadB rfl sc_3 (hS) (rfl)) ?_
            refine pi_ro rfl (fun w hS => ro_assign rfl) ?_
            refine pi_ro rfl (fun w hS => ro_assign rfl) ?_
            refine pi_ro rfl (fun w hS => ro_assign rfl) ?_
            refine pi_nil (x_then ?_)
            exact ⟨hF.thenDrew.thenDrew, h3, h6, kp _ ⟨rfl, rfl, rfl, rfl, rfl, rfl, rfl, rfl, trivial⟩⟩
          · try simp only [decide_eq_true_eq, decide_eq_false_iff_not, Bool.not_eq_true', Bool.not_eq_false', Bool.not_eq_eq_eq_not, Bool.not_true, Bool.not_false, beq_iff_eq, bne_iff_ne, ne_eq, beq_eq_false_iff_ne, bne_eq_false_iff_eq, gt_iff_lt, ge_iff_le, Int.not_lt, Int.not_le] at hc85
            subst hc85
            refine c_skip (x_then ?_)
            exact ⟨hF.thenDrew, h3, h6, kp _ ⟨rfl, rfl, rfl, rfl, rfl, rfl, rfl, rfl, trivial⟩⟩
        clear hF h3 h6
        rintro a' u7 ⟨hF, h3, h6, e, rfl⟩
        refine c_seq (fun K22 hK22 => ?_)
        refine c_reg ?_ -- region 18 move.go:103
        refine wl (ro_move rfl) ?_
        refine wl (ro_move rfl) ?_
        refine wl (ro_cmp (r := decide (gtR rows x.q < gtR rows x.p)) rfl rfl rfl) ?_
        refine wl (ro_assign rfl) ?_
        refine wl_nil (x_then (hK22 _ _ ?_))
        clear hK22 K22
        refine c_seq (fun K23 hK23 => ?_)
        refine c_seq (fun K24 hK24 => ?_)
        refine c_reg ?_ -- region 19 move.go:104
        refine wl (ro_move rfl) ?_
        refine wl_nil (x_then (hK24 _ _ ?_))
        clear hK24 K24
        refine wc_cond rfl (fun hc95 => ?_) (fun hc95 => ?_)
        · try simp only [decide_eq_true_eq, decide_eq_false_iff_not, Bool.not_eq_true', Bool.not_eq_false', Bool.not_eq_eq_eq_not, Bool.not_true, Bool.not_false, beq_iff_eq, bne_iff_ne, ne_eq, beq_eq_false_iff_ne, bne_eq_false_iff_eq, gt_iff_lt, ge_iff_le, Int.not_lt, Int.not_le] at hc95
          have htn := decide_eq_true hc95
          refine c_reg ?_ -- region 20 move.go:105
          refine wl (ro_move rfl) ?_
          refine wl (ro_move rfl) ?_
          refine wl (ro_assign rfl) ?_
          refine wl (ro_assign rfl) ?_
          refine wl_nil (x_then (hK23 _ _ ?_))
          clear hK23 K23
          refine forget [(2, _), (3, _), (6, _), (7, _), (8, _), (11, _), (12, _), (13, _), (14, _)] ⟨rfl, rfl, rfl, rfl, rfl, rfl, rfl, rfl, rfl, trivial⟩ (fun e => ?_)
          refine c_seq (fun K25 hK25 => ?_)
          refine c_reg ?_ -- region 21 move.go:107
          refine wl (ro_move rfl) ?_
          refine wl (ro_move rfl) ?_
          refine wl (ro_move rfl) ?_
          refine wl (ro_move rfl) ?_
          refine wl (ro_move rfl) ?_
          refine wl_call rfl en_137 (stretch137 (rows := rows) (ins := ins) (a := a) (x := gtR rows x.q) (y := gtR rows x.p) (by omega) ha) ?_
          rintro _ _ ⟨rfl, rfl⟩
          have hneg := neg_iff hl2
          rw [if_neg (by omega)] at hsh
          refine wl (ro_move rfl) ?_
          refine wl (ro_extract rfl rfl) ?_
          refine wl (ro_extract rfl rfl) ?_
          refine wl (ro_assign rfl) ?_
          refine wl (ro_assign rfl) ?_
          refine wl_nil (x_then (hK25 _ _ ?_))
          clear hK25 K25
          refine c_seq (fun K26 hK26 => ?_)
          refine c_seq (fun K27 hK27 => ?_)
          refine c_reg ?_ -- region 22 move.go:108
          refine wl (ro_move rfl) ?_
          refine wl (ro_cmp (r := decide (¬ loI ins a (gtR rows x.q) ≤ hcI rows ins a (gtR rows x.p))) rfl rfl (congrArg some (decide_eq_decide.2 hneg))) ?_
          refine wl_nil (x_then (hK27 _ _ ?_))
          clear hK27 K27
          refine wc_cond rfl (fun hc108 => ?_) (fun hc108 => ?_)
          · try simp only [decide_eq_true_eq, decide_eq_false_iff_not, Bool.not_eq_true', Bool.not_eq_false', Bool.not_eq_eq_eq_not, Bool.not_true, Bool.not_false, beq_iff_eq, bne_iff_ne, ne_eq, beq_eq_false_iff_ne, bne_eq_false_iff_eq, gt_iff_lt, ge_iff_le, Int.not_lt, Int.not_le] at hc108
            refine c_seq (fun K28 hK28 => ?_)
            refine c_reg ?_ -- region 23 move.go:109
            refine wl_call rfl en_135 (bad135) ?_
            rintro _ u8 ⟨rfl, G8⟩
            replace hF := hF.transG G8 (by intro k hk h; simp only [none'] at h ⊢ <;> omega)
            replace h3 := G8.blkF h3 (by intro h; simp only [none'] at h <;> omega)
            replace h6 := G8.blkF h6 (by intro h; simp only [none'] at h <;> omega)
            refine wl_puta rfl rfl ((ndc_cells _)) sz_143 (rfl) h6 ((by simp)) ((show _ = ndc nBad from rfl)) (fun w11 h6 F11 => ?_)
            replace hF := hF.thenDrew.thenO F11 (by first | exact .inr (by omega) | exact .inl rfl | exact .inl (by assumption))
            replace h3 := F11.blkO h3 (by omega)
            refine wl_nil (x_then (hK28 _ _ ?_))
            clear hK28 K28
            refine c_ret (x_thenR ?_)
            refine bq_ret (res1 Tryz.results104 (rv_c rfl ag_143 (h6) (rfl))) ?_
            rw [hsh, if_neg (by omega)]
            exact ⟨rfl, hF⟩
          · try simp only [decide_eq_true_eq, decide_eq_false_iff_not, Bool.not_eq_true', Bool.not_eq_false', Bool.not_eq_eq_eq_not, Bool.not_true, Bool.not_false, beq_iff_eq, bne_iff_ne, ne_eq, beq_eq_false_iff_ne, bne_eq_false_iff_eq, gt_iff_lt, ge_iff_le, Int.not_lt, Int.not_le] at hc108
            rw [if_pos hc108] at hsh
            rw [if_pos hc108, if_pos hc108]
            refine c_skip (x_then (hK26 _ _ ?_))
            clear hK26 K26
            refine c_seq (fun K29 hK29 => ?_)
            refine c_seq (fun K30 hK30 => ?_)
            refine c_reg ?_ -- region 24 move.go:111
            refine wl (ro_move rfl) ?_
            rw [htn]
            refine wl_nil (x_then (hK30 _ _ ?_))
            clear hK30 K30
            refine wc_condT rfl ?_
            refine c_reg ?_ -- region 25 move.go:112
            refine wl (ro_move rfl) ?_
            refine wl (ro_move rfl) ?_
            refine wl (ro_assign rfl) ?_
            refine wl (ro_assign rfl) ?_
            refine wl_nil (x_then (hK29 _ _ ?_))
            clear hK29 K29
            refine c_seq (fun K31 hK31 => ?_)
            refine c_seq (fun K32 hK32 => ?_)
            refine c_reg ?_ -- region 26 move.go:114
            refine wl (ro_move rfl) ?_
            refine wl_nil (x_then (hK32 _ _ ?_))
            clear hK32 K32
            refine wc_cond rfl (fun hc113 => ?_) (fun hc113 => ?_)
            · try simp only [decide_eq_true_eq, decide_eq_false_iff_not, Bool.not_eq_true', Bool.not_eq_false', Bool.not_eq_eq_eq_not, Bool.not_true, Bool.not_false, beq_iff_eq, bne_iff_ne, ne_eq, beq_eq_false_iff_ne, bne_eq_false_iff_eq, gt_iff_lt, ge_iff_le, Int.not_lt, Int.not_le] at hc113
              subst hc113
              refine c_reg ?_ -- region 27 move.go:115
              refine wl (ro_move rfl) ?_
              refine wl (ro_move rfl) ?_
              refine wl (ro_fieldAddr (k := 5) rfl fo_143_5) ?_
              refine wl (ro_fieldAddr (k := 1) rfl fo_141_1) ?_
              refine wl_put rfl rfl rfl sz_3 h3 ((by simp)) (rfl) (fun w12 h3 F12 => ?_)
              replace hF := hF.thenDrew.thenO F12 (by first | exact .inr (by omega) | exact .inl rfl | exact .inl (by assumption))
              replace h6 := F12.blkO h6 (by omega)
              refine wl (ro_fieldAddr (k := 9) rfl fo_143_6) ?_
              refine wl (ro_fieldAddr (k := 1) rfl fo_141_1) ?_
              refine wl_put rfl rfl rfl sz_3 h3 ((by simp)) (rfl) (fun w13 h3 F13 => ?_)
              replace hF := hF.thenDrew.thenO F13 (by first | exact .inr (by omega) | exact .inl rfl | exact .inl (by assumption))
              replace h6 := F13.blkO h6 (by omega)
              refine wl_nil (x_then (hK31 _ _ ?_))
              clear hK31 K31
              refine forget [(3, _), (6, _)] ⟨rfl, rfl, trivial⟩ (fun e => ?_)
              refine c_seq (fun K33 hK33 => ?_)
              refine c_reg ?_ -- region 29 move.go:119
              refine wl (ro_loadAggB rfl ag_143 (h3) (rfl) (rfl)) ?_
              refine wl_puta rfl rfl ((by simp [Value.oneCell', icv])) sz_143 (rfl) h6 ((by simp)) (rfl) (fun w14 h6 F14 => ?_)
              replace hF := hF.thenDrew.thenO F14 (by first | exact .inr (by omega) | exact .inl rfl | exact .inl (by assumption))
              replace h3 := F14.blkO h3 (by omega)
              refine wl_nil (x_then (hK33 _ _ ?_))
              clear hK33 K33
              refine c_ret ?_
              refine bq_ret (res1 Tryz.results104 (rv_c rfl ag_143 (h6) (rfl))) ?_
              rw [hsh]
              exact ⟨rfl, hF⟩
            · try simp only [decide_eq_true_eq, decide_eq_false_iff_not, Bool.not_eq_true', Bool.not_eq_false', Bool.not_eq_eq_eq_not, Bool.not_true, Bool.not_false, beq_iff_eq, bne_iff_ne, ne_eq, beq_eq_false_iff_ne, bne_eq_false_iff_eq, gt_iff_lt, ge_iff_le, Int.not_lt, Int.not_le] at hc113
              subst hc113
              refine c_reg ?_ -- region 28 move.go:117
              refine wl (ro_move rfl) ?_
              refine wl (ro_move rfl) ?_
              refine wl (ro_fieldAddr (k := 5) rfl fo_143_5) ?_
              refine wl (ro_fieldAddr (k := 0) rfl fo_141_0) ?_
              refine wl_put rfl rfl rfl sz_3 h3 ((by simp)) (rfl) (fun w15 h3 F15 => ?_)
              replace hF := hF.thenDrew.thenO F15 (by first | exact .inr (by omega) | exact .inl rfl | exact .inl (by assumption))
              replace h6 := F15.blkO h6 (by omega)
              refine wl (ro_fieldAddr (k := 9) rfl fo_143_6) ?_
              refine wl (ro_fieldAddr (k := 0) rfl fo_141_0) ?_
              refine wl_put rfl rfl rfl sz_3 h3 ((by simp)) (rfl) (fun w16 h3 F16 => ?_)
              replace hF := hF.thenDrew.thenO F16 (by first | exact .inr (by omega) | exact .inl rfl | exact .inl (by assumption))
              replace h6 := F16.blkO h6 (by omega)
              refine wl_nil (x_then (hK31 _ _ ?_))
              clear hK31 K31
              refine forget [(3, _), (6, _)] ⟨rfl, rfl, trivial⟩ (fun e => ?_)
              refine c_seq (fun K34 hK34 => ?_)
              refine c_reg ?_ -- region 29 move.go:119
              refine wl (ro_loadAggB rfl ag_143 (h3) (rfl) (rfl)) ?_
              refine wl_puta rfl rfl ((by simp [Value.oneCell', icv])) sz_143 (rfl) h6 ((by simp)) (rfl) (fun w17 h6 F17 => ?_)
              replace hF := hF.thenDrew.thenO F17 (by first | exact .inr (by omega) | exact .inl rfl | exact .inl (by assumption))
              replace h3 := F17.blkO h3 (by omega)
              refine wl_nil (x_then (hK34 _ _ ?_))
              clear hK34 K34
              refine c_ret ?_
              refine bq_ret (res1 Tryz.results104 (rv_c rfl ag_143 (h6) (rfl))) ?_
              rw [hsh]
              exact ⟨rfl, hF⟩
        · try simp only [decide_eq_true_eq, decide_eq_false_iff_not, Bool.not_eq_true', Bool.not_eq_false', Bool.not_eq_eq_eq_not, Bool.not_true, Bool.not_false, beq_iff_eq, bne_iff_ne, ne_eq, beq_eq_false_iff_ne, bne_eq_false_iff_eq, gt_iff_lt, ge_iff_le, Int.not_lt, Int.not_le] at hc95
          have htn := decide_eq_false (show ¬ gtR rows x.q < gtR rows x.p by omega)
          refine c_skip (x_then (hK23 _ _ ?_))
          clear hK23 K23
          refine forget [(2, _), (3, _), (6, _), (7, _), (8, _), (11, _), (12, _), (13, _), (14, _)] ⟨rfl, rfl, rfl, rfl, rfl, rfl, rfl, rfl, rfl, trivial⟩ (fun e => ?_)
          refine c_seq (fun K35 hK35 => ?_)
          refine c_reg ?_ -- region 21 move.go:107
          refine wl (ro_move rfl) ?_
          refine wl (ro_move rfl) ?_
          refine wl (ro_move rfl) ?_
          refine wl (ro_move rfl) ?_
          refine wl (ro_move rfl) ?_
          refine wl_call rfl en_137 (stretch137 (rows := rows) (ins := ins) (a := a) (x := gtR rows x.p) (y := gtR rows x.q) (by omega) ha) ?_
          rintro _ _ ⟨rfl, rfl⟩
          have hneg := neg_iff hl1
          rw [if_pos (by omega)] at hsh
          refine wl (ro_move rfl) ?_
          refine wl (ro_extract rfl rfl) ?_
          refine wl (ro_extract rfl rfl) ?_
          refine wl (ro_assign rfl) ?_
          refine wl (ro_assign rfl) ?_
          refine wl_nil (x_then (hK35 _ _ ?_))
          clear hK35 K35
          refine c_seq (fun K36 hK36 => ?_)
          refine c_seq (fun K37 hK37 => ?_)
          refine c_reg ?_ -- region 22 move.go:108
          refine wl (ro_move rfl) ?_
          refine wl (ro_cmp (r := decide (¬ loI ins a (gtR rows x.p) ≤ hcI rows ins a (gtR rows x.q))) rfl rfl (congrArg some (decide_eq_decide.2 hneg))) ?_
          refine wl_nil (x_then (hK37 _ _ ?_))
          clear hK37 K37
          refine wc_cond rfl (fun hc108 => ?_) (fun hc108 => ?_)
          · try simp only [decide_eq_true_eq, decide_eq_false_iff_not, Bool.not_eq_true', Bool.not_eq_false', Bool.not_eq_eq_eq_not, Bool.not_true, Bool.not_false, beq_iff_eq, bne_iff_ne, ne_eq, beq_eq_false_iff_ne, bne_eq_false_iff_eq, gt_iff_lt, ge_iff_le, Int.not_lt, Int.not_le] at hc108
            refine c_seq (fun K38 hK38 => ?_)
            refine c_reg ?_ -- region 23 move.go:109
            refine wl_call rfl en_135 (bad135) ?_
            rintro _ u8 ⟨rfl, G8⟩
            replace hF := hF.transG G8 (by intro k hk h; simp only [none'] at h ⊢ <;> omega)
            replace h3 := G8.blkF h3 (by intro h; simp only [none'] at h <;> omega)
            replace h6 := G8.blkF h6 (by intro h; simp only [none'] at h <;> omega)
            refine wl_puta rfl rfl ((ndc_cells _)) sz_143 (rfl) h6 ((by simp)) ((show _ = ndc nBad from rfl)) (fun w18 h6 F18 => ?_)
            replace hF := hF.thenDrew.thenO F18 (by first | exact .inr (by omega) | exact .inl rfl | exact .inl (by assumption))
            replace h3 := F18.blkO h3 (by omega)
            refine wl_nil (x_then (hK38 _ _ ?_))
            clear hK38 K38
            refine c_ret (x_thenR ?_)
            refine bq_ret (res1 Tryz.results104 (rv_c rfl ag_143 (h6) (rfl))) ?_
            rw [hsh, if_neg (by omega)]
            exact ⟨rfl, hF⟩
          · try simp only [decide_eq_true_eq, decide_eq_false_iff_not, Bool.not_eq_true', Bool.not_eq_false', Bool.not_eq_eq_eq_not, Bool.not_true, Bool.not_false, beq_iff_eq, bne_iff_ne, ne_eq, beq_eq_false_iff_ne, bne_eq_false_iff_eq, gt_iff_lt, ge_iff_le, Int.not_lt, Int.not_le] at hc108
            rw [if_pos hc108] at hsh
            rw [if_pos hc108, if_pos hc108]
            refine c_skip (x_then (hK36 _ _ ?_))
            clear hK36 K36
            refine c_seq (fun K39 hK39 => ?_)
            refine c_seq (fun K40 hK40 => ?_)
            refine c_reg ?_ -- region 24 move.go:111
            refine wl (ro_move rfl) ?_
            rw [htn]
            refine wl_nil (x_then (hK40 _ _ ?_))
            clear hK40 K40
            refine wc_condF rfl ?_
            refine c_skip (x_then (hK39 _ _ ?_))
            clear hK39 K39
            refine c_seq (fun K41 hK41 => ?_)
            refine c_seq (fun K42 hK42 => ?_)
            refine c_reg ?_ -- region 26 move.go:114
            refine wl (ro_move rfl) ?_
            refine wl_nil (x_then (hK42 _ _ ?_))
            clear hK42 K42
            refine wc_cond rfl (fun hc113 => ?_) (fun hc113 => ?_)
            · try simp only [decide_eq_true_eq, decide_eq_false_iff_not, Bool.not_eq_true', Bool.not_eq_false', Bool.not_eq_eq_eq_not, Bool.not_true, Bool.not_false, beq_iff_eq, bne_iff_ne, ne_eq, beq_eq_false_iff_ne, bne_eq_false_iff_eq, gt_iff_lt, ge_iff_le, Int.not_lt, Int.not_le] at hc113
              subst hc113
              refine c_reg ?_ -- region 27 move.go:115
              refine wl (ro_move rfl) ?_
              refine wl (ro_move rfl) ?_
              refine wl (ro_fieldAddr (k := 5) rfl fo_143_5) ?_
              refine wl (ro_fieldAddr (k := 1) rfl fo_141_1) ?_
              refine wl_put rfl rfl rfl sz_3 h3 ((by simp)) (rfl) (fun w19 h3 F19 => ?_)
              replace hF := hF.thenDrew.thenO F19 (by first | exact .inr (by omega) | exact .inl rfl | exact .inl (by assumption))
              replace h6 := F19.blkO h6 (by omega)
              refine wl (ro_fieldAddr (k := 9) rfl fo_143_6) ?_
              refine wl (ro_fieldAddr (k := 1) rfl fo_141_1) ?_
              refine wl_put rfl rfl rfl sz_3 h3 ((by simp)) (rfl) (fun w20 h3 F20 => ?_)
              replace hF := hF.thenDrew.thenO F20 (by first | exact .inr (by omega) | exact .inl rfl | exact .inl (by assumption))
              replace h6 := F20.blkO h6 (by omega)
              refine wl_nil (x_then (hK41 _ _ ?_))
              clear hK41 K41
              refine forget [(3, _), (6, _)] ⟨rfl, rfl, trivial⟩ (fun e => ?_)
              refine c_seq (fun K43 hK43 => ?_)
              refine c_reg ?_ -- region 29 move.go:119
              refine wl (ro_loadAggB rfl ag_143 (h3) (rfl) (rfl)) ?_
              refine wl_puta rfl rfl ((by simp [Value.oneCell', icv])) sz_143 (rfl) h6 ((by simp)) (rfl) (fun w21 h6 F21 => ?_)
              replace hF := hF.thenDrew.thenO F21 (by first | exact .inr (by omega) | exact .inl rfl | exact .inl (by assumption))
              replace h3 := F21.blkO h3 (by omega)
              refine wl_nil (x_then (hK43 _ _ ?_))
              clear hK43 K43
              refine c_ret ?_
              refine bq_ret (res1 Tryz.results104 (rv_c rfl ag_143 (h6) (rfl))) ?_
              rw [hsh]
              exact ⟨rfl, hF⟩
            · try simp only [decide_eq_true_eq, decide_eq_false_iff_not, Bool.not_eq_true', Bool.not_eq_false', Bool.not_eq_eq_eq_not, Bool.not_true, Bool.not_false, beq_iff_eq, bne_iff_ne, ne_eq, beq_eq_false_iff_ne, bne_eq_false_iff_eq, gt_iff_lt, ge_iff_le, Int.not_lt, Int.not_le] at hc113
              subst hc113
              refine c_reg ?_ -- region 28 move.go:117
              refine wl (ro_move rfl) ?_
              refine wl (ro_move rfl) ?_
              refine wl (ro_fieldAddr (k := 5) rfl fo_143_5) ?_
              refine wl (ro_fieldAddr (k := 0) rfl fo_141_0) ?_
              refine wl_put rfl rfl rfl sz_3 h3 ((by simp)) (rfl) (fun w22 h3 F22 => ?_)
              replace hF := hF.thenDrew.thenO F22 (by first | exact .inr (by omega) | exact .inl rfl | exact .inl (by assumption))
              replace h6 := F22.blkO h6 (by omega)
              refine wl (ro_fieldAddr (k := 9) rfl fo_143_6) ?_
              refine wl (ro_fieldAddr (k := 0) rfl fo_141_0) ?_
              refine wl_put rfl rfl rfl sz_3 h3 ((by simp)) (rfl) (fun w23 h3 F23 => ?_)
              replace hF := hF.thenDrew.thenO F23 (by first | exact .inr (by omega) | exact .inl rfl | exact .inl (by assumption))
              replace h6 := F23.blkO h6 (by omega)
              refine wl_nil (x_then (hK41 _ _ ?_))
              clear hK41 K41
              refine forget [(3, _), (6, _)] ⟨rfl, rfl, trivial⟩ (fun e => ?_)
              refine c_seq (fun K44 hK44 => ?_)
              refine c_reg ?_ -- region 29 move.go:119
              refine wl (ro_loadAggB rfl ag_143 (h3) (rfl) (rfl)) ?_
              refine wl_puta rfl rfl ((by simp [Value.oneCell', icv])) sz_143 (rfl) h6 ((by simp)) (rfl) (fun w24 h6 F24 => ?_)
              replace hF := hF.thenDrew.thenO F24 (by first | exact .inr (by omega) | exact .inl rfl | exact .inl (by assumption))
              replace h3 := F24.blkO h3 (by omega)
              refine wl_nil (x_then (hK44 _ _ ?_))
              clear hK44 K44
              refine c_ret ?_
              refine bq_ret (res1 Tryz.results104 (rv_c rfl ag_143 (h6) (rfl))) ?_
              rw [hsh]
              exact ⟨rfl, hF⟩

end Go.Proofs.Qxb6500570aGreat
