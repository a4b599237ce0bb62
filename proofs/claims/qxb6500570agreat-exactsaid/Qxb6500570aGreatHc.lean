import Derived.Test.Qxb6500570aGreatHb
/- Lawful trees: span, links, TreeOK. -/
namespace Go.Proofs.Qxb6500570aGreat
set_option linter.unusedVariables false
set_option linter.unusedSimpArgs false

theorem eg_143 : Tryz.prog.eqGuardType Tryz.prog.depth 143 = false := by kernel_rfl
theorem stN_143 : stNB Tryz.prog 143 [(3, 0), (3, 1), (3, 2), (3, 3), (3, 4), (141, 5), (141, 9)] = true := by kernel_rfl
theorem stN_141 : stNB Tryz.prog 141 [(3, 0), (3, 1), (4, 2), (4, 3)] = true := by kernel_rfl
theorem ref_refl {r : Rf} {d : Nat} : EqR Tryz.prog (d + 2) 141 (.agg (refc r).toArray) := by
  refine eqr_struct stN_141 (fun p hp => ?_)
  simp only [List.mem_cons, List.not_mem_nil, or_false] at hp
  rcases hp with rfl | rfl | rfl | rfl
  · exact ⟨_, ptr_scal (by kernel_rfl) rfl, eqr_int in_3⟩
  · exact ⟨_, ptr_scal (by kernel_rfl) rfl, eqr_int in_3⟩
  · exact ⟨_, ptr_scal (by kernel_rfl) rfl, eqr_bool (by kernel_rfl)⟩
  · exact ⟨_, ptr_scal (by kernel_rfl) rfl, eqr_bool (by kernel_rfl)⟩
theorem nd_refl {x : Nd} : EqR Tryz.prog 10000 143 (ndV x) := by
  refine eqr_struct stN_143 (fun p hp => ?_)
  simp only [List.mem_cons, List.not_mem_nil, or_false] at hp
  rcases hp with rfl | rfl | rfl | rfl | rfl | rfl | rfl
  · exact ⟨_, ptr_scal (by kernel_rfl) rfl, eqr_int in_3⟩
  · exact ⟨_, ptr_scal (by kernel_rfl) rfl, eqr_int in_3⟩
  · exact ⟨_, ptr_scal (by kernel_rfl) rfl, eqr_int in_3⟩
  · exact ⟨_, ptr_scal (by kernel_rfl) rfl, eqr_int in_3⟩
  · exact ⟨_, ptr_scal (by kernel_rfl) rfl, eqr_int in_3⟩
  · refine ⟨.agg (refc x.p).toArray, ?_, ref_refl (d := 9997)⟩
    exact ptr_agg (m := 4) (by kernel_rfl) (by kernel_rfl)
  · refine ⟨.agg (refc x.q).toArray, ?_, ref_refl (d := 9997)⟩
    exact ptr_agg (m := 4) (by kernel_rfl) (by kernel_rfl)

theorem ndA_nat {n : List Nd} {i : Nat} {x : Nd} (h : n[i]? = some x) : ndA n (i : Nat) = x := by
  unfold ndA
  rw [Int.toNat_natCast, List.getD_eq_getElem?_getD, h]
  rfl
def SpC (n : List Nd) (f : Nat) : Prop := ∀ (lo i nb : Nat) (arg : Bool) (w : World), SgF n f false 0 lo i arg → Blk w.heap nb (rws ndc n) 143 → Ret Tryz.prog 168 [sl nb n.length, i64c i, .bool arg] w (fun v w' => v = i64c lo ∧ Fram none' w w')
def LkC (n : List Nd) (f : Nat) : Prop := ∀ (k lo i nb : Nat) (arg : Bool) (w : World), SgF n f true k lo i arg → Blk w.heap nb (rws ndc n) 143 → Ret Tryz.prog 198 [sl nb n.length, i64c i, i64c k, .bool arg] w (fun v w' => v = i64c lo ∧ Fram none' w w')

def Im7 (n : List Nd) (f lo i : Nat) (x : Nd) : Prop := x.k = 7 → 1 ≤ i ∧ x.b = (i : Int) - 1 ∧ ∃ o m : Nat, x.o = (o : Int) ∧ 1 ≤ o ∧ o ≤ 10 ∧ 1 ≤ m ∧ m < i ∧ x.a = (m : Int) - 1 ∧ SgF n f false 0 m (i - 1) false ∧ SgF n f false 0 lo (m - 1) false
def Im8 (n : List Nd) (f lo i : Nat) (x : Nd) : Prop := x.k = 8 → 1 ≤ i ∧ x.a = (i : Int) - 1 ∧ ∃ fn m : Nat, x.o = (fn : Int) ∧ x.n = (m : Int) ∧ arity fn m = true ∧ SgF n f true m lo (i - 1) (rangeOK fn)
theorem sgf_k {n : List Nd} : ∀ (f k lo i : Nat) (rg : Bool), SgF n f true k lo i rg → 1 ≤ k ∧ k ≤ i + 1
  | 0, _, _, _, _, h => h.elim
  | f + 1, k, lo, i, rg, h => by
    obtain ⟨x, hx, h9, hi1, ha, m, hmi, hs, hr⟩ := h
    rcases hr with ⟨h, -⟩ | ⟨h, h1, -, h2⟩
    · omega
    · have := sgf_k f _ _ _ _ h2
      omega
set_option maxHeartbeats 8000000 in
theorem sp_step {n : List Nd} {f : Nat} (hA : AOK n) (hn : n.length ≤ 24) (hS1 : SpC n f) (hL1 : LkC n f) : SpC n (f + 1) := by
  intro lo i nb arg w hsg hN
  have hF : Fram none' w w := Fram.refl _ _
  obtain ⟨x, hx, h⟩ := hsg
  have hi := (List.getElem?_eq_some_iff.1 hx).1
  have hnm := (hA x (List.mem_of_getElem? hx)).2.2
  have hk : x.k = 1 ∨ x.k = 2 ∨ (x.k = 3 ∨ x.k = 5) ∨ x.k = 4 ∨ x.k = 6 ∨ x.k = 7 ∨ x.k = 8 := by
    rcases h with h | h | h | h | h | h | h | h <;> simp [h.1]
  have h1 : x.k = 1 → 0 ≤ x.n ∧ x.n ≤ 999999999 ∧ lo = i := fun q => by
    rcases h with h | h | h | h | h | h | h | h
    · exact h.2
    all_goals (have := h.1; omega)
  have h2 : x.k = 2 → (x.n = 0 ∨ x.n = 1) ∧ lo = i := fun q => by
    rcases h with h | h | h | h | h | h | h | h
    · have := h.1; omega
    · exact h.2
    all_goals (have := h.1; omega)
  have h35 : x.k = 3 ∨ x.k = 5 → lo = i := fun q => by
    rcases h with h | h | h | h | h | h | h | h
    · have := h.1; omega
    · have := h.1; omega
    · exact h.2
    · exact h.2
    all_goals (have := h.1; omega)
  have h4 : x.k = 4 → arg = true ∧ lo = i := fun q => by
    rcases h with h | h | h | h | h | h | h | h
    · have := h.1; omega
    · have := h.1; omega
    · have := h.1; omega
    · have := h.1; omega
    · exact h.2
    all_goals (have := h.1; omega)
  have h6 : x.k = 6 → 1 ≤ i ∧ x.a = (i : Int) - 1 ∧ SgF n f false 0 lo (i - 1) false := fun q => by
    rcases h with h | h | h | h | h | h | h | h
    · have := h.1; omega
    · have := h.1; omega
    · have := h.1; omega
    · have := h.1; omega
    · have := h.1; omega
    · exact h.2
    all_goals (have := h.1; omega)
  have h7 : Im7 n f lo i x := fun q => by
    rcases h with h | h | h | h | h | h | h | h
    · have := h.1; omega
    · have := h.1; omega
    · have := h.1; omega
    · have := h.1; omega
    · have := h.1; omega
    · have := h.1; omega
    · exact h.2
    · have := h.1; omega
  have h8 : Im8 n f lo i x := fun q => by
    rcases h with h | h | h | h | h | h | h | h
    · have := h.1; omega
    · have := h.1; omega
    · have := h.1; omega
    · have := h.1; omega
    · have := h.1; omega
    · have := h.1; omega
    · have := h.1; omega
    · exact h.2
  clear h
  refine ret_of Tryz.func168 rfl Tryz.ntmps168 rfl ?_
  refine c_seq (fun K1 hK1 => ?_)
  refine c_reg ?_ -- region 0 eval.go:28
  refine wl (ro_assign rfl) ?_
  refine wl_nil (x_then (hK1 _ _ ?_))
  clear hK1 K1
  refine c_seq (fun K2 hK2 => ?_)
  refine c_seq (fun K3 hK3 => ?_)
  refine c_reg ?_ -- region 1 eval.go:29
  refine wl (ro_move rfl) ?_
  refine wl (ro_cmp (r := false) rfl rfl (congrArg some (decide_eq_false (by omega)))) ?_
  refine wl (ro_move rfl) ?_
  refine wlg_yes rfl (ro_move rfl) ?_
  refine wlg_yes rfl (ro_move rfl) ?_
  refine wlg_yes rfl (ro_lenL rfl se_78) ?_
  refine wlg_yes rfl (ro_cmp (r := false) rfl rfl (congrArg some (decide_eq_false (by omega)))) ?_
  refine wl (ro_pick rfl rfl rfl) ?_
  refine wl_nil (x_then (hK3 _ _ ?_))
  clear hK3 K3
  refine wc_condF rfl ?_
  refine c_skip (x_then (hK2 _ _ ?_))
  clear hK2 K2
  refine forget [(0, _), (1, _), (2, _)] ⟨rfl, rfl, rfl, trivial⟩ (fun e => ?_)
  refine c_seq (fun K4 hK4 => ?_)
  refine c_reg ?_ -- region 3 eval.go:32
  refine wl (ro_move rfl) ?_
  refine wl (ro_move rfl) ?_
  refine wl (ro_indexAddr (et := 143) (k := 13) rfl rfl se_78 rfl (by omega)) ?_
  refine wl (ro_loadAggB rfl ag_143 (hN) ((ndc_len _)) ((rw_agg ndc_len hx (by omega)))) ?_
  refine wl_new (ze_143) (fun b7 w1 hbb7 hX F1 => ?_)
  have hbsb7 := Nat.le_trans hF.size hbb7
  have hnenbb7 : nb < b7 := Nat.lt_of_lt_of_le hN.lt hbb7
  replace hF := hF.thenDrew.thenN F1
  replace hN := F1.blkN hN
  refine wl_puta rfl rfl ((ndc_cells _)) sz_143 (rfl) hX ((by simp)) ((show _ = ndc x from rfl)) (fun w2 hX F2 => ?_)
  replace hF := hF.thenDrew.thenO F2 (by first | exact .inr (by omega) | exact .inl rfl | exact .inl (by assumption))
  replace hN := F2.blkO hN (by omega)
  refine wl_nil (x_then (hK4 _ _ ?_))
  clear hK4 K4
  refine c_seq (fun K5 hK5 => ?_)
  refine c_seq (fun K6 hK6 => ?_)
  refine c_pi [(0, false), (1, false), (2, true), (3, false)] (fun w' => Blk w'.heap b7 (ndc x) 143) mixed (by kernel_rfl) rfl (by kernel_rfl) (po_then (po_then (po_bp))) (hX) ?_ -- region 4 eval.go:33
  refine pi_ro rfl (fun w hS => ro_loadAggB rfl ag_143 (hS) (rfl) (rfl)) ?_
  refine pi_ro rfl (fun w hS => ro_loadAggB rfl ag_143 (hS) (rfl) (rfl)) ?_
  refine pi_call rfl rfl en_197 (named197) ?_
  rintro _ u4 ⟨rfl, G4⟩
  rw [hnm]
  replace hF := hF.transG G4 (by intro k hk h; simp only [one, none'] at h ⊢ <;> omega)
  replace hN := G4.blkF hN (by intro h; simp only [one, none'] at h <;> omega)
  replace hX := G4.blkF hX (by intro h; simp only [one, none'] at h <;> omega)
  refine ⟨hX, ?_⟩
  refine pi_ro rfl (fun w hS => ro_neRefl rfl rfl eg_143 nd_refl) ?_
  refine pi_nil (x_then (hK6 _ _ ?_))
  clear hK6 K6
  refine wc_condF rfl ?_
  refine c_skip (x_then (hK5 _ _ ?_))
  clear hK5 K5
  refine c_seq (fun K7 hK7 => ?_)
  refine c_seq (fun K8 hK8 => ?_)
  refine c_reg ?_ -- region 6 eval.go:36
  refine wl (ro_fieldAddr (k := 0) rfl fo_143_0) ?_
  refine wl (ro_loadB rfl sc_3 (by assumption) rfl) ?_
  refine wl_nil (x_then (hK8 _ _ ?_))
  clear hK8 K8
  refine c_block ?_
  refine forget [(0, _), (1, _), (2, _), (7, _), (27, _)] ⟨rfl, rfl, rfl, rfl, rfl, trivial⟩ (fun e => ?_)
  refine c_seq (fun K9 hK9 => ?_)
  refine c_reg ?_ -- region 7 eval.go:37
  refine wl (ro_cmp rfl rfl rfl) ?_
  refine wl (ro_assign rfl) ?_
  refine wl_nil (x_then (hK9 _ _ ?_))
  clear hK9 K9
  refine wc_cond rfl (fun hc28 => ?_) (fun hc28 => ?_)
  · try simp only [decide_eq_true_eq, decide_eq_false_iff_not, Bool.not_eq_true', Bool.not_eq_false', Bool.not_eq_eq_eq_not, Bool.not_true, Bool.not_false, beq_iff_eq, bne_iff_ne, ne_eq, beq_eq_false_iff_ne, bne_eq_false_iff_eq, gt_iff_lt, ge_iff_le, Int.not_lt, Int.not_le] at hc28
    obtain ⟨k1, k2, rfl⟩ := h1 hc28
    refine c_seq (fun K10 hK10 => ?_)
    refine c_seq (fun K11 hK11 => ?_)
    refine c_reg ?_ -- region 8 eval.go:38
    refine wl (ro_fieldAddr (k := 4) rfl fo_143_4) ?_
    refine wl (ro_loadB rfl sc_3 (by assumption) rfl) ?_
    refine wl (ro_cmp (r := false) rfl rfl (congrArg some (decide_eq_false (by omega)))) ?_
    refine wl (ro_move rfl) ?_
    refine wlg_yes rfl (ro_fieldAddr (k := 4) rfl fo_143_4) ?_
    refine wlg_yes rfl (ro_loadB rfl sc_3 (by assumption) rfl) ?_
    refine wlg_yes rfl (ro_cmp (r := false) rfl rfl (congrArg some (decide_eq_false (by omega)))) ?_
    refine wl (ro_pick rfl rfl rfl) ?_
    refine wl_nil (x_then (hK11 _ _ ?_))
    clear hK11 K11
    refine wc_condF rfl ?_
    refine c_skip (x_then (hK10 _ _ ?_))
    clear hK10 K10
    refine forget [(1, _)] ⟨rfl, trivial⟩ (fun e => ?_)
    refine c_seq (fun K12 hK12 => ?_)
    refine c_reg ?_ -- region 10 eval.go:41
    refine wl (ro_move rfl) ?_
    refine wl (ro_assign rfl) ?_
    refine wl_nil (x_then (hK12 _ _ ?_))
    clear hK12 K12
    refine c_ret (x_blkR (x_thenR ?_))
    refine bp_ret Tryz.results168 rfl ?_
    exact ⟨rfl, hF⟩
  · try simp only [decide_eq_true_eq, decide_eq_false_iff_not, Bool.not_eq_true', Bool.not_eq_false', Bool.not_eq_eq_eq_not, Bool.not_true, Bool.not_false, beq_iff_eq, bne_iff_ne, ne_eq, beq_eq_false_iff_ne, bne_eq_false_iff_eq, gt_iff_lt, ge_iff_le, Int.not_lt, Int.not_le] at hc28
    refine c_seq (fun K13 hK13 => ?_)
    refine c_reg ?_ -- region 11 eval.go:42
    refine wl (ro_cmp rfl rfl rfl) ?_
    refine wl (ro_assign rfl) ?_
    refine wl_nil (x_then (hK13 _ _ ?_))
    clear hK13 K13
    refine wc_cond rfl (fun hc39 => ?_) (fun hc39 => ?_)
    · try simp only [decide_eq_true_eq, decide_eq_false_iff_not, Bool.not_eq_true', Bool.not_eq_false', Bool.not_eq_eq_eq_not, Bool.not_true, Bool.not_false, beq_iff_eq, bne_iff_ne, ne_eq, beq_eq_false_iff_ne, bne_eq_false_iff_eq, gt_iff_lt, ge_iff_le, Int.not_lt, Int.not_le] at hc39
      obtain ⟨k1, rfl⟩ := h2 hc39
      refine c_seq (fun K14 hK14 => ?_)
      refine c_seq (fun K15 hK15 => ?_)
      refine c_reg ?_ -- region 12 eval.go:43
      refine wl (ro_fieldAddr (k := 4) rfl fo_143_4) ?_
      refine wl (ro_loadB rfl sc_3 (by assumption) rfl) ?_
      refine wl (ro_cmp (r := false) rfl rfl (congrArg some (decide_eq_false (by omega)))) ?_
      refine wl (ro_move rfl) ?_
      refine wlg_yes rfl (ro_fieldAddr (k := 4) rfl fo_143_4) ?_
      refine wlg_yes rfl (ro_loadB rfl sc_3 (by assumption) rfl) ?_
      refine wlg_yes rfl (ro_cmp (r := false) rfl rfl (congrArg some (decide_eq_false (by omega)))) ?_
      refine wl (ro_pick rfl rfl rfl) ?_
      refine wl_nil (x_then (hK15 _ _ ?_))
      clear hK15 K15
      refine wc_condF rfl ?_
      refine c_skip (x_then (hK14 _ _ ?_))
      clear hK14 K14
      refine forget [(1, _)] ⟨rfl, trivial⟩ (fun e => ?_)
      refine c_seq (fun K16 hK16 => ?_)
      refine c_reg ?_ -- region 14 eval.go:46
      refine wl (ro_move rfl) ?_
      refine wl (ro_assign rfl) ?_
      refine wl_nil (x_then (hK16 _ _ ?_))
      clear hK16 K16
      refine c_ret (x_blkR (x_thenR ?_))
      refine bp_ret Tryz.results168 rfl ?_
      exact ⟨rfl, hF⟩
    · try simp only [decide_eq_true_eq, decide_eq_false_iff_not, Bool.not_eq_true', Bool.not_eq_false', Bool.not_eq_eq_eq_not, Bool.not_true, Bool.not_false, beq_iff_eq, bne_iff_ne, ne_eq, beq_eq_false_iff_ne, bne_eq_false_iff_eq, gt_iff_lt, ge_iff_le, Int.not_lt, Int.not_le] at hc39
      refine c_mid (fun a' w' => Fram none' w w' ∧ Blk w'.heap nb (rws ndc n) 143 ∧ Blk w'.heap b7 (ndc x) 143 ∧ ∃ e, a' = Fr 129 (upds e [(0, sl nb n.length), (1, i64c i), (2, .bool arg), (7, ptr b7), (27, icv x.k), (50, .bool (decide (x.k = 3 ∨ x.k = 5)))]) []) ?_ ?_
      · skip
        refine c_seq (fun K17 hK17 => ?_)
        refine c_reg ?_ -- region 15 eval.go:47
        refine wl (ro_cmp rfl rfl rfl) ?_
        refine wl (ro_assign rfl) ?_
        refine wl_nil (x_then (hK17 _ _ ?_))
        clear hK17 K17
        refine wc_cond rfl (fun hc50 => ?_) (fun hc50 => ?_)
        · try simp only [decide_eq_true_eq, decide_eq_false_iff_not, Bool.not_eq_true', Bool.not_eq_false', Bool.not_eq_eq_eq_not, Bool.not_true, Bool.not_false, beq_iff_eq, bne_iff_ne, ne_eq, beq_eq_false_iff_ne, bne_eq_false_iff_eq, gt_iff_lt, ge_iff_le, Int.not_lt, Int.not_le] at hc50
          refine c_skip (x_then ?_)
          first
            | exact ⟨hF, hN, hX, kp _ ⟨rfl, rfl, rfl, rfl, rfl, congrArg some (congrArg Value.bool (by rw [Bool.eq_iff_iff]; simp [hc50])), trivial⟩⟩
            | exact ⟨hF, hN, hX, kp _ ⟨rfl, rfl, rfl, rfl, rfl, congrArg some (congrArg Value.bool (by rw [Bool.eq_iff_iff]; simp; omega)), trivial⟩⟩
        · try simp only [decide_eq_true_eq, decide_eq_false_iff_not, Bool.not_eq_true', Bool.not_eq_false', Bool.not_eq_eq_eq_not, Bool.not_true, Bool.not_false, beq_iff_eq, bne_iff_ne, ne_eq, beq_eq_false_iff_ne, bne_eq_false_iff_eq, gt_iff_lt, ge_iff_le, Int.not_lt, Int.not_le] at hc50
          refine c_reg ?_ -- region 16 eval.go:47
          refine wl (ro_cmp rfl rfl rfl) ?_
          refine wl (ro_assign rfl) ?_
          refine wl_nil (x_then ?_)
          first
            | exact ⟨hF, hN, hX, kp _ ⟨rfl, rfl, rfl, rfl, rfl, congrArg some (congrArg Value.bool (by rw [Bool.eq_iff_iff]; simp [hc50])), trivial⟩⟩
            | exact ⟨hF, hN, hX, kp _ ⟨rfl, rfl, rfl, rfl, rfl, congrArg some (congrArg Value.bool (by rw [Bool.eq_iff_iff]; simp; omega)), trivial⟩⟩
      clear hF hN hX
      rintro a' u3 ⟨hF, hN, hX, e, rfl⟩
      refine wc_cond rfl (fun hc50 => ?_) (fun hc50 => ?_)
      · try simp only [decide_eq_true_eq, decide_eq_false_iff_not, Bool.not_eq_true', Bool.not_eq_false', Bool.not_eq_eq_eq_not, Bool.not_true, Bool.not_false, beq_iff_eq, bne_iff_ne, ne_eq, beq_eq_false_iff_ne, bne_eq_false_iff_eq, gt_iff_lt, ge_iff_le, Int.not_lt, Int.not_le] at hc50
        refine c_seq (fun K18 hK18 => ?_)
        refine c_reg ?_ -- region 17 eval.go:48
        refine wl (ro_move rfl) ?_
        refine wl (ro_assign rfl) ?_
        refine wl_nil (x_then (hK18 _ _ ?_))
        clear hK18 K18
        refine c_ret (x_blkR (x_thenR ?_))
        refine bp_ret Tryz.results168 rfl ?_
        obtain rfl := h35 hc50
        exact ⟨rfl, hF⟩
      · try simp only [decide_eq_true_eq, decide_eq_false_iff_not, Bool.not_eq_true', Bool.not_eq_false', Bool.not_eq_eq_eq_not, Bool.not_true, Bool.not_false, beq_iff_eq, bne_iff_ne, ne_eq, beq_eq_false_iff_ne, bne_eq_false_iff_eq, gt_iff_lt, ge_iff_le, Int.not_lt, Int.not_le] at hc50
        refine c_seq (fun K19 hK19 => ?_)
        refine c_reg ?_ -- region 18 eval.go:49
        refine wl (ro_cmp rfl rfl rfl) ?_
        refine wl (ro_assign rfl) ?_
        refine wl_nil (x_then (hK19 _ _ ?_))
        clear hK19 K19
        refine wc_cond rfl (fun hc54 => ?_) (fun hc54 => ?_)
        · try simp only [decide_eq_true_eq, decide_eq_false_iff_not, Bool.not_eq_true', Bool.not_eq_false', Bool.not_eq_eq_eq_not, Bool.not_true, Bool.not_false, beq_iff_eq, bne_iff_ne, ne_eq, beq_eq_false_iff_ne, bne_eq_false_iff_eq, gt_iff_lt, ge_iff_le, Int.not_lt, Int.not_le] at hc54
          obtain ⟨rfl, rfl⟩ := h4 hc54
          refine c_seq (fun K20 hK20 => ?_)
          refine c_seq (fun K21 hK21 => ?_)
          refine c_reg ?_ -- region 19 eval.go:50
          refine wl (ro_move rfl) ?_
          refine wl (ro_not rfl) ?_
          refine wl_nil (x_then (hK21 _ _ ?_))
          clear hK21 K21
          refine wc_condF rfl ?_
          refine c_skip (x_then (hK20 _ _ ?_))
          clear hK20 K20
          refine forget [(1, _)] ⟨rfl, trivial⟩ (fun e => ?_)
          refine c_seq (fun K22 hK22 => ?_)
          refine c_reg ?_ -- region 21 eval.go:53
          refine wl (ro_move rfl) ?_
          refine wl (ro_assign rfl) ?_
          refine wl_nil (x_then (hK22 _ _ ?_))
          clear hK22 K22
          refine c_ret (x_blkR (x_thenR ?_))
          refine bp_ret Tryz.results168 rfl ?_
          exact ⟨rfl, hF⟩
        · try simp only [decide_eq_true_eq, decide_eq_false_iff_not, Bool.not_eq_true', Bool.not_eq_false', Bool.not_eq_eq_eq_not, Bool.not_true, Bool.not_false, beq_iff_eq, bne_iff_ne, ne_eq, beq_eq_false_iff_ne, bne_eq_false_iff_eq, gt_iff_lt, ge_iff_le, Int.not_lt, Int.not_le] at hc54
          refine c_seq (fun K23 hK23 => ?_)
          refine c_reg ?_ -- region 22 eval.go:54
          refine wl (ro_cmp rfl rfl rfl) ?_
          refine wl (ro_assign rfl) ?_
          refine wl_nil (x_then (hK23 _ _ ?_))
          clear hK23 K23
          refine wc_cond rfl (fun hc59 => ?_) (fun hc59 => ?_)
          · try simp only [decide_eq_true_eq, decide_eq_false_iff_not, Bool.not_eq_true', Bool.not_eq_false', Bool.not_eq_eq_eq_not, Bool.not_true, Bool.not_false, beq_iff_eq, bne_iff_ne, ne_eq, beq_eq_false_iff_ne, bne_eq_false_iff_eq, gt_iff_lt, ge_iff_le, Int.not_lt, Int.not_le] at hc59
            obtain ⟨k1, k2, k3⟩ := h6 hc59
            refine c_seq (fun K24 hK24 => ?_)
            refine c_seq (fun K25 hK25 => ?_)
            refine c_reg ?_ -- region 23 eval.go:55
            refine wl (ro_fieldAddr (k := 2) rfl fo_143_2) ?_
            refine wl (ro_loadB rfl sc_3 (by assumption) rfl) ?_
            refine wl (ro_move rfl) ?_
            refine wl (ro_arith (r := ((i - 1 : Nat) : Int)) rfl rfl (congrArg some (by omega)) (Go.IntWalk.i64_in _ (by omega))) ?_
            refine wl (ro_cmp (r := false) rfl rfl (congrArg some (by rw [k2, show ((i : Int) - 1) = ((i - 1 : Nat) : Int) by omega]; simp))) ?_
            refine wl_nil (x_then (hK25 _ _ ?_))
            clear hK25 K25
            refine wc_condF rfl ?_
            refine c_skip (x_then (hK24 _ _ ?_))
            clear hK24 K24
            refine forget [(0, _), (7, _)] ⟨rfl, rfl, trivial⟩ (fun e => ?_)
            refine c_seq (fun K26 hK26 => ?_)
            refine c_reg ?_ -- region 25 eval.go:58
            refine wl (ro_move rfl) ?_
            refine wl (ro_fieldAddr (k := 2) rfl fo_143_2) ?_
            refine wl (ro_loadB rfl sc_3 (hX) ((show _ = some (i64c (i - 1)) from congrArg some (congrArg icv (by rw [k2]; omega))))) ?_
            refine wl_call rfl en_168 (hS1 _ _ _ _ _ k3 hN) ?_
            rintro _ u5 ⟨rfl, G5⟩
            replace hF := hF.transG G5 (by intro k hk h; simp only [one, none'] at h ⊢ <;> omega)
            replace hN := G5.blkF hN (by intro h; simp only [one, none'] at h <;> omega)
            replace hX := G5.blkF hX (by intro h; simp only [one, none'] at h <;> omega)
            refine wl (ro_assign rfl) ?_
            refine wl_nil (x_then (hK26 _ _ ?_))
            clear hK26 K26
            refine c_ret (x_blkR (x_thenR ?_))
            refine bp_ret Tryz.results168 rfl ?_
            exact ⟨rfl, hF⟩
          · try simp only [decide_eq_true_eq, decide_eq_false_iff_not, Bool.not_eq_true', Bool.not_eq_false', Bool.not_eq_eq_eq_not, Bool.not_true, Bool.not_false, beq_iff_eq, bne_iff_ne, ne_eq, beq_eq_false_iff_ne, bne_eq_false_iff_eq, gt_iff_lt, ge_iff_le, Int.not_lt, Int.not_le] at hc59
            refine c_seq (fun K27 hK27 => ?_)
            refine c_reg ?_ -- region 26 eval.go:59
            refine wl (ro_cmp rfl rfl rfl) ?_
            refine wl (ro_assign rfl) ?_
            refine wl_nil (x_then (hK27 _ _ ?_))
            clear hK27 K27
            refine wc_cond rfl (fun hc70 => ?_) (fun hc70 => ?_)
            · try simp only [decide_eq_true_eq, decide_eq_false_iff_not, Bool.not_eq_true', Bool.not_eq_false', Bool.not_eq_eq_eq_not, Bool.not_true, Bool.not_false, beq_iff_eq, bne_iff_ne, ne_eq, beq_eq_false_iff_ne, bne_eq_false_iff_eq, gt_iff_lt, ge_iff_le, Int.not_lt, Int.not_le] at hc70
              obtain ⟨k1, k2, o, m, k3, k4, k5, k6, k7, k8, k9, k10⟩ := h7 hc70
              refine c_seq (fun K28 hK28 => ?_)
              refine c_seq (fun K29 hK29 => ?_)
              refine c_reg ?_ -- region 27 eval.go:60
              refine wl (ro_fieldAddr (k := 1) rfl fo_143_1) ?_
              refine wl (ro_loadB rfl sc_3 (by assumption) rfl) ?_
              refine wl (ro_cmp (r := false) rfl rfl (congrArg some (decide_eq_false (by omega)))) ?_
              refine wl (ro_move rfl) ?_
              refine wlg_yes rfl (ro_fieldAddr (k := 1) rfl fo_143_1) ?_
              refine wlg_yes rfl (ro_loadB rfl sc_3 (by assumption) rfl) ?_
              refine wlg_yes rfl (ro_cmp (r := false) rfl rfl (congrArg some (decide_eq_false (by omega)))) ?_
              refine wl (ro_pick rfl rfl rfl) ?_
              refine wl (ro_move rfl) ?_
              refine wlg_yes rfl (ro_fieldAddr (k := 3) rfl fo_143_3) ?_
              refine wlg_yes rfl (ro_loadB rfl sc_3 (by assumption) rfl) ?_
              refine wlg_yes rfl (ro_move rfl) ?_
              refine wlg_yes rfl (ro_arith (r := ((i - 1 : Nat) : Int)) rfl rfl (congrArg some (by omega)) (Go.IntWalk.i64_in _ (by omega))) ?_
              refine wlg_yes rfl (ro_cmp (r := false) rfl rfl (congrArg some (by rw [k2, show ((i : Int) - 1) = ((i - 1 : Nat) : Int) by omega]; simp))) ?_
              refine wl (ro_pick rfl rfl rfl) ?_
              refine wl_nil (x_then (hK29 _ _ ?_))
              clear hK29 K29
              refine wc_condF rfl ?_
              refine c_skip (x_then (hK28 _ _ ?_))
              clear hK28 K28
              refine forget [(0, _), (7, _)] ⟨rfl, rfl, trivial⟩ (fun e => ?_)
              refine c_seq (fun K30 hK30 => ?_)
              refine c_reg ?_ -- region 29 eval.go:63
              refine wl (ro_move rfl) ?_
              refine wl (ro_fieldAddr (k := 3) rfl fo_143_3) ?_
              refine wl (ro_loadB rfl sc_3 (hX) ((show _ = some (i64c (i - 1)) from congrArg some (congrArg icv (by rw [k2]; omega))))) ?_
              refine wl_call rfl en_168 (hS1 _ _ _ _ _ k9 hN) ?_
              rintro _ u5 ⟨rfl, G5⟩
              replace hF := hF.transG G5 (by intro k hk h; simp only [one, none'] at h ⊢ <;> omega)
              replace hN := G5.blkF hN (by intro h; simp only [one, none'] at h <;> omega)
              replace hX := G5.blkF hX (by intro h; simp only [one, none'] at h <;> omega)
              refine wl (ro_assign rfl) ?_
              refine wl_nil (x_then (hK30 _ _ ?_))
              clear hK30 K30
              refine c_seq (fun K31 hK31 => ?_)
              refine c_seq (fun K32 hK32 => ?_)
              refine c_reg ?_ -- region 30 eval.go:64
              refine wl (ro_move rfl) ?_
              refine wl (ro_cmp (r := false) rfl rfl (congrArg some (decide_eq_false (by omega)))) ?_
              refine wl (ro_move rfl) ?_
              refine wlg_yes rfl (ro_fieldAddr (k := 2) rfl fo_143_2) ?_
              refine wlg_yes rfl (ro_loadB rfl sc_3 (by assumption) rfl) ?_
              refine wlg_yes rfl (ro_move rfl) ?_
              refine wlg_yes rfl (ro_arith (r := ((m - 1 : Nat) : Int)) rfl rfl (congrArg some (by omega)) (Go.IntWalk.i64_in _ (by omega))) ?_
              refine wlg_yes rfl (ro_cmp (r := false) rfl rfl (congrArg some (by rw [k8, show ((m : Int) - 1) = ((m - 1 : Nat) : Int) by omega]; simp))) ?_
              refine wl (ro_pick rfl rfl rfl) ?_
              refine wl_nil (x_then (hK32 _ _ ?_))
              clear hK32 K32
              refine wc_condF rfl ?_
              refine c_skip (x_then (hK31 _ _ ?_))
              clear hK31 K31
              refine forget [(0, _), (7, _)] ⟨rfl, rfl, trivial⟩ (fun e => ?_)
              refine c_seq (fun K33 hK33 => ?_)
              refine c_reg ?_ -- region 32 eval.go:67
              refine wl (ro_move rfl) ?_
              refine wl (ro_fieldAddr (k := 2) rfl fo_143_2) ?_
              refine wl (ro_loadB rfl sc_3 (hX) ((show _ = some (i64c (m - 1)) from congrArg some (congrArg icv (by rw [k8]; omega))))) ?_
              refine wl_call rfl en_168 (hS1 _ _ _ _ _ k10 hN) ?_
              rintro _ u6 ⟨rfl, G6⟩
              replace hF := hF.transG G6 (by intro k hk h; simp only [one, none'] at h ⊢ <;> omega)
              replace hN := G6.blkF hN (by intro h; simp only [one, none'] at h <;> omega)
              replace hX := G6.blkF hX (by intro h; simp only [one, none'] at h <;> omega)
              refine wl (ro_assign rfl) ?_
              refine wl_nil (x_then (hK33 _ _ ?_))
              clear hK33 K33
              refine c_ret (x_blkR (x_thenR ?_))
              refine bp_ret Tryz.results168 rfl ?_
              exact ⟨rfl, hF⟩
            · try simp only [decide_eq_true_eq, decide_eq_false_iff_not, Bool.not_eq_true', Bool.not_eq_false', Bool.not_eq_eq_eq_not, Bool.not_true, Bool.not_false, beq_iff_eq, bne_iff_ne, ne_eq, beq_eq_false_iff_ne, bne_eq_false_iff_eq, gt_iff_lt, ge_iff_le, Int.not_lt, Int.not_le] at hc70
              refine c_seq (fun K34 hK34 => ?_)
              refine c_reg ?_ -- region 33 eval.go:68
              refine wl (ro_cmp rfl rfl rfl) ?_
              refine wl (ro_assign rfl) ?_
              refine wl_nil (x_then (hK34 _ _ ?_))
              clear hK34 K34
              refine wc_cond rfl (fun hc104 => ?_) (fun hc104 => ?_)
              · try simp only [decide_eq_true_eq, decide_eq_false_iff_not, Bool.not_eq_true', Bool.not_eq_false', Bool.not_eq_eq_eq_not, Bool.not_true, Bool.not_false, beq_iff_eq, bne_iff_ne, ne_eq, beq_eq_false_iff_ne, bne_eq_false_iff_eq, gt_iff_lt, ge_iff_le, Int.not_lt, Int.not_le] at hc104
                obtain ⟨k1, k2, fn, m, k3, k4, k5, k6⟩ := h8 hc104
                refine c_seq (fun K35 hK35 => ?_)
                refine c_seq (fun K36 hK36 => ?_)
                refine c_reg ?_ -- region 34 eval.go:69
                refine wl (ro_fieldAddr (k := 1) rfl fo_143_1) ?_
                refine wl (ro_loadB rfl sc_3 (hX) ((show _ = some (i64c fn) from congrArg some (congrArg icv k3)))) ?_
                refine wl (ro_fieldAddr (k := 4) rfl fo_143_4) ?_
                refine wl (ro_loadB rfl sc_3 (hX) ((show _ = some (i64c m) from congrArg some (congrArg icv k4)))) ?_
                refine wl_call rfl en_195 (Arity195) ?_
                rintro _ _ ⟨rfl, rfl⟩
                rw [k5]
                refine wl (ro_not rfl) ?_
                refine wl (ro_move rfl) ?_
                refine wlg_yes rfl (ro_fieldAddr (k := 2) rfl fo_143_2) ?_
                refine wlg_yes rfl (ro_loadB rfl sc_3 (by assumption) rfl) ?_
                refine wlg_yes rfl (ro_move rfl) ?_
                refine wlg_yes rfl (ro_arith (r := ((i - 1 : Nat) : Int)) rfl rfl (congrArg some (by omega)) (Go.IntWalk.i64_in _ (by omega))) ?_
                refine wlg_yes rfl (ro_cmp (r := false) rfl rfl (congrArg some (by rw [k2, show ((i : Int) - 1) = ((i - 1 : Nat) : Int) by omega]; simp))) ?_
                refine wl (ro_pick rfl rfl rfl) ?_
                refine wl_nil (x_then (hK36 _ _ ?_))
                clear hK36 K36
                refine wc_condF rfl ?_
                refine c_skip (x_then (hK35 _ _ ?_))
                clear hK35 K35
                refine forget [(0, _), (7, _)] ⟨rfl, rfl, trivial⟩ (fun e => ?_)
                refine c_seq (fun K37 hK37 => ?_)
                refine c_reg ?_ -- region 36 eval.go:72
                refine wl (ro_fieldAddr (k := 1) rfl fo_143_1) ?_
                refine wl (ro_loadB rfl sc_3 (hX) ((show _ = some (i64c fn) from congrArg some (congrArg icv k3)))) ?_
                refine wl_call rfl en_196 (RangeOK196) ?_
                rintro _ _ ⟨rfl, rfl⟩
                refine wl (ro_assign rfl) ?_
                refine wl_nil (x_then (hK37 _ _ ?_))
                clear hK37 K37
                refine forget [(0, _), (7, _), (9, _)] ⟨rfl, rfl, rfl, trivial⟩ (fun e => ?_)
                refine c_seq (fun K38 hK38 => ?_)
                refine c_reg ?_ -- region 37 eval.go:73
                refine wl (ro_move rfl) ?_
                refine wl (ro_fieldAddr (k := 2) rfl fo_143_2) ?_
                refine wl (ro_loadB rfl sc_3 (hX) ((show _ = some (i64c (i - 1)) from congrArg some (congrArg icv (by rw [k2]; omega))))) ?_
                refine wl (ro_fieldAddr (k := 4) rfl fo_143_4) ?_
                refine wl (ro_loadB rfl sc_3 (hX) ((show _ = some (i64c m) from congrArg some (congrArg icv k4)))) ?_
                refine wl (ro_move rfl) ?_
                refine wl_call rfl en_198 (hL1 _ _ _ _ _ _ k6 hN) ?_
                rintro _ u6 ⟨rfl, G6⟩
                replace hF := hF.transG G6 (by intro k hk h; simp only [one, none'] at h ⊢ <;> omega)
                replace hN := G6.blkF hN (by intro h; simp only [one, none'] at h <;> omega)
                replace hX := G6.blkF hX (by intro h; simp only [one, none'] at h <;> omega)
                refine wl (ro_assign rfl) ?_
                refine wl_nil (x_then (hK38 _ _ ?_))
                clear hK38 K38
                refine c_ret (x_blkR (x_thenR ?_))
                refine bp_ret Tryz.results168 rfl ?_
                exact ⟨rfl, hF⟩
              · try simp only [decide_eq_true_eq, decide_eq_false_iff_not, Bool.not_eq_true', Bool.not_eq_false', Bool.not_eq_eq_eq_not, Bool.not_true, Bool.not_false, beq_iff_eq, bne_iff_ne, ne_eq, beq_eq_false_iff_ne, bne_eq_false_iff_eq, gt_iff_lt, ge_iff_le, Int.not_lt, Int.not_le] at hc104
                exfalso
                omega

set_option maxHeartbeats 8000000 in
theorem lk_step {n : List Nd} {f : Nat} (hA : AOK n) (hn : n.length ≤ 24) (hS1 : SpC n f) (hL1 : LkC n f) : LkC n (f + 1) := by
  intro k lo i nb arg w hsg hN
  have hF : Fram none' w w := Fram.refl _ _
  obtain ⟨hk1, hk2⟩ := sgf_k _ _ _ _ _ hsg
  obtain ⟨x, hx, h9, hi1, ha, m, hmi, hs, hr⟩ := hsg
  have hi := (List.getElem?_eq_some_iff.1 hx).1
  have hnm := (hA x (List.mem_of_getElem? hx)).2.2
  have hml := SgF.le _ _ _ _ _ _ hs
  have hg : ∀ j v, (ndc x)[j]? = some v → (rws ndc n)[i * 13 + j]? = some v := fun j v hj => rw_get ndc_len hx rfl hj
  refine ret_of Tryz.func198 rfl Tryz.ntmps198 rfl ?_
  refine c_seq (fun K1 hK1 => ?_)
  refine c_reg ?_ -- region 0 eval.go:79
  refine wl (ro_assign rfl) ?_
  refine wl_nil (x_then (hK1 _ _ ?_))
  clear hK1 K1
  refine c_seq (fun K2 hK2 => ?_)
  refine c_seq (fun K3 hK3 => ?_)
  refine c_reg ?_ -- region 1 eval.go:80
  refine wl (ro_move rfl) ?_
  refine wl (ro_cmp (r := false) rfl rfl (congrArg some (decide_eq_false (by omega)))) ?_
  refine wl (ro_move rfl) ?_
  refine wlg_yes rfl (ro_move rfl) ?_
  refine wlg_yes rfl (ro_move rfl) ?_
  refine wlg_yes rfl (ro_lenL rfl se_78) ?_
  refine wlg_yes rfl (ro_cmp (r := false) rfl rfl (congrArg some (decide_eq_false (by omega)))) ?_
  refine wl (ro_pick rfl rfl rfl) ?_
  refine wl (ro_move rfl) ?_
  refine wlg_yes rfl (ro_move rfl) ?_
  refine wlg_yes rfl (ro_move rfl) ?_
  refine wlg_yes rfl (ro_indexAddr (et := 143) (k := 13) rfl rfl se_78 rfl (by omega)) ?_
  refine wlg_yes rfl (ro_fieldAddr (k := 0) rfl fo_143_0) ?_
  refine wlg_yes rfl (ro_loadB rfl sc_3 (hN) ((rw_get ndc_len hx (j := 0) (by omega) rfl))) ?_
  refine wlg_yes rfl (ro_cmp (r := false) rfl rfl (congrArg some (by rw [h9]; rfl))) ?_
  refine wl (ro_pick rfl rfl rfl) ?_
  refine wl (ro_move rfl) ?_
  refine wlg_yes rfl (ro_move rfl) ?_
  refine wlg_yes rfl (ro_move rfl) ?_
  refine wlg_yes rfl (ro_indexAddr (et := 143) (k := 13) rfl rfl se_78 rfl (by omega)) ?_
  refine wlg_yes rfl (ro_fieldAddr (k := 2) rfl fo_143_2) ?_
  refine wlg_yes rfl (ro_loadB rfl sc_3 (hN) ((rw_get ndc_len hx (j := 2) (by omega) rfl))) ?_
  refine wlg_yes rfl (ro_move rfl) ?_
  refine wlg_yes rfl (ro_arith (r := ((i - 1 : Nat) : Int)) rfl rfl (congrArg some (by omega)) (Go.IntWalk.i64_in _ (by omega))) ?_
  refine wlg_yes rfl (ro_cmp (r := false) rfl rfl (congrArg some (by rw [ha, show ((i : Int) - 1) = ((i - 1 : Nat) : Int) by omega]; simp))) ?_
  refine wl (ro_pick rfl rfl rfl) ?_
  refine wl_nil (x_then (hK3 _ _ ?_))
  clear hK3 K3
  refine wc_condF rfl ?_
  refine c_skip (x_then (hK2 _ _ ?_))
  clear hK2 K2
  refine c_seq (fun K4 hK4 => ?_)
  refine c_seq (fun K5 hK5 => ?_)
  refine c_pi [(0, false), (1, false), (2, false), (3, false), (4, false), (5, false), (6, false), (7, false), (8, true), (9, false)] (fun w' => Blk w'.heap nb (rws ndc n) 143) mixed (by kernel_rfl) rfl (by kernel_rfl) (po_then (po_then (po_bp))) (hN) ?_ -- region 3 eval.go:83
  refine pi_ro rfl (fun w hS => ro_move rfl) ?_
  refine pi_ro rfl (fun w hS => ro_move rfl) ?_
  refine pi_ro rfl (fun w hS => ro_indexAddr (et := 143) (k := 13) rfl rfl se_78 rfl (by omega)) ?_
  refine pi_ro rfl (fun w hS => ro_loadAggB rfl ag_143 (hS) ((ndc_len _)) ((rw_agg ndc_len hx (by omega)))) ?_
  refine pi_ro rfl (fun w hS => ro_move rfl) ?_
  refine pi_ro rfl (fun w hS => ro_move rfl) ?_
  refine pi_ro rfl (fun w hS => ro_indexAddr (et := 143) (k := 13) rfl rfl se_78 rfl (by omega)) ?_
  refine pi_ro rfl (fun w hS => ro_loadAggB rfl ag_143 (hS) ((ndc_len _)) ((rw_agg ndc_len hx (by omega)))) ?_
  refine pi_call rfl rfl en_197 (named197) ?_
  rintro _ u4 ⟨rfl, G4⟩
  rw [hnm]
  replace hF := hF.transG G4 (by intro k hk h; simp only [one, none'] at h ⊢ <;> omega)
  replace hN := G4.blkF hN (by intro h; simp only [one, none'] at h <;> omega)
  refine ⟨hN, ?_⟩
  refine pi_ro rfl (fun w hS => ro_neRefl rfl rfl eg_143 nd_refl) ?_
  refine pi_nil (x_then (hK5 _ _ ?_))
  clear hK5 K5
  refine wc_condF rfl ?_
  refine c_skip (x_then (hK4 _ _ ?_))
  clear hK4 K4
  refine forget [(0, _), (1, _), (2, _), (3, _)] ⟨rfl, rfl, rfl, rfl, trivial⟩ (fun e => ?_)
  refine c_seq (fun K6 hK6 => ?_)
  refine c_reg ?_ -- region 5 eval.go:86
  refine wl (ro_move rfl) ?_
  refine wl (ro_move rfl) ?_
  refine wl (ro_move rfl) ?_
  refine wl (ro_indexAddr (et := 143) (k := 13) rfl rfl se_78 rfl (by omega)) ?_
  refine wl (ro_fieldAddr (k := 2) rfl fo_143_2) ?_
  refine wl (ro_loadB rfl sc_3 (hN) ((rw_get ndc_len hx (j := 2) (by omega) (show _ = some (i64c (i - 1)) from congrArg some (congrArg icv (by rw [ha]; omega)))))) ?_
  refine wl (ro_move rfl) ?_
  refine wl_call rfl en_168 (hS1 _ _ _ _ _ hs hN) ?_
  rintro _ u5 ⟨rfl, G5⟩
  replace hF := hF.transG G5 (by intro k hk h; simp only [one, none'] at h ⊢ <;> omega)
  replace hN := G5.blkF hN (by intro h; simp only [one, none'] at h <;> omega)
  refine wl (ro_assign rfl) ?_
  refine wl_nil (x_then (hK6 _ _ ?_))
  clear hK6 K6
  refine c_seq (fun K7 hK7 => ?_)
  refine c_seq (fun K8 hK8 => ?_)
  refine c_reg ?_ -- region 6 eval.go:87
  refine wl (ro_move rfl) ?_
  refine wl (ro_cmp (r := false) rfl rfl (congrArg some (decide_eq_false (by omega)))) ?_
  refine wl_nil (x_then (hK8 _ _ ?_))
  clear hK8 K8
  refine wc_condF rfl ?_
  refine c_skip (x_then (hK7 _ _ ?_))
  clear hK7 K7
  refine c_seq (fun K9 hK9 => ?_)
  refine c_seq (fun K10 hK10 => ?_)
  refine c_reg ?_ -- region 8 eval.go:90
  refine wl (ro_move rfl) ?_
  refine wl (ro_cmp (r := decide (k = 1)) rfl rfl (congrArg some (beqc k 1))) ?_
  refine wl_nil (x_then (hK10 _ _ ?_))
  clear hK10 K10
  refine wc_cond rfl (fun hc57 => ?_) (fun hc57 => ?_)
  · try simp only [decide_eq_true_eq, decide_eq_false_iff_not, Bool.not_eq_true', Bool.not_eq_false', Bool.not_eq_eq_eq_not, Bool.not_true, Bool.not_false, beq_iff_eq, bne_iff_ne, ne_eq, beq_eq_false_iff_ne, bne_eq_false_iff_eq, gt_iff_lt, ge_iff_le, Int.not_lt, Int.not_le] at hc57
    have hr' : x.b = -1 ∧ lo = m := by
      rcases hr with ⟨-, h⟩ | ⟨h, -⟩
      · exact h
      · omega
    obtain ⟨hb, rfl⟩ := hr'
    refine c_seq (fun K11 hK11 => ?_)
    refine c_seq (fun K12 hK12 => ?_)
    refine c_reg ?_ -- region 9 eval.go:91
    refine wl (ro_move rfl) ?_
    refine wl (ro_move rfl) ?_
    refine wl (ro_indexAddr (et := 143) (k := 13) rfl rfl se_78 rfl (by omega)) ?_
    refine wl (ro_fieldAddr (k := 3) rfl fo_143_3) ?_
    refine wl (ro_loadB rfl sc_3 (hN) ((rw_get ndc_len hx (j := 3) (by omega) rfl))) ?_
    refine wl (ro_cmp (r := false) rfl rfl (congrArg some (by rw [hb]; rfl))) ?_
    refine wl_nil (x_then (hK12 _ _ ?_))
    clear hK12 K12
    refine wc_condF rfl ?_
    refine c_skip (x_then (hK11 _ _ ?_))
    clear hK11 K11
    refine forget [(9, _)] ⟨rfl, trivial⟩ (fun e => ?_)
    refine c_seq (fun K13 hK13 => ?_)
    refine c_reg ?_ -- region 11 eval.go:94
    refine wl (ro_move rfl) ?_
    refine wl (ro_assign rfl) ?_
    refine wl_nil (x_then (hK13 _ _ ?_))
    clear hK13 K13
    refine c_ret (x_thenR ?_)
    refine bp_ret Tryz.results198 rfl ?_
    exact ⟨rfl, hF⟩
  · try simp only [decide_eq_true_eq, decide_eq_false_iff_not, Bool.not_eq_true', Bool.not_eq_false', Bool.not_eq_eq_eq_not, Bool.not_true, Bool.not_false, beq_iff_eq, bne_iff_ne, ne_eq, beq_eq_false_iff_ne, bne_eq_false_iff_eq, gt_iff_lt, ge_iff_le, Int.not_lt, Int.not_le] at hc57
    have hr' : 1 ≤ m ∧ x.b = (m : Int) - 1 ∧ SgF n f true (k - 1) lo (m - 1) arg := by
      rcases hr with ⟨h, -⟩ | ⟨-, h⟩
      · omega
      · exact h
    obtain ⟨hm1, hb, hs2⟩ := hr'
    refine c_skip (x_then (hK9 _ _ ?_))
    clear hK9 K9
    refine c_seq (fun K14 hK14 => ?_)
    refine c_seq (fun K15 hK15 => ?_)
    refine c_reg ?_ -- region 12 eval.go:96
    refine wl (ro_move rfl) ?_
    refine wl (ro_move rfl) ?_
    refine wl (ro_indexAddr (et := 143) (k := 13) rfl rfl se_78 rfl (by omega)) ?_
    refine wl (ro_fieldAddr (k := 3) rfl fo_143_3) ?_
    refine wl (ro_loadB rfl sc_3 (hN) ((rw_get ndc_len hx (j := 3) (by omega) rfl))) ?_
    refine wl (ro_move rfl) ?_
    refine wl (ro_arith (r := ((m - 1 : Nat) : Int)) rfl rfl (congrArg some (by omega)) (Go.IntWalk.i64_in _ (by omega))) ?_
    refine wl (ro_cmp (r := false) rfl rfl (congrArg some (by rw [hb, show ((m : Int) - 1) = ((m - 1 : Nat) : Int) by omega]; simp))) ?_
    refine wl_nil (x_then (hK15 _ _ ?_))
    clear hK15 K15
    refine wc_condF rfl ?_
    refine c_skip (x_then (hK14 _ _ ?_))
    clear hK14 K14
    refine forget [(0, _), (1, _), (2, _), (3, _)] ⟨rfl, rfl, rfl, rfl, trivial⟩ (fun e => ?_)
    refine c_seq (fun K16 hK16 => ?_)
    refine c_reg ?_ -- region 14 eval.go:99
    refine wl (ro_move rfl) ?_
    refine wl (ro_move rfl) ?_
    refine wl (ro_move rfl) ?_
    refine wl (ro_indexAddr (et := 143) (k := 13) rfl rfl se_78 rfl (by omega)) ?_
    refine wl (ro_fieldAddr (k := 3) rfl fo_143_3) ?_
    refine wl (ro_loadB rfl sc_3 (hN) ((rw_get ndc_len hx (j := 3) (by omega) (show _ = some (i64c (m - 1)) from congrArg some (congrArg icv (by rw [hb]; omega)))))) ?_
    refine wl (ro_move rfl) ?_
    refine wl (ro_arith (r := ((k - 1 : Nat) : Int)) rfl rfl (congrArg some (by omega)) (Go.IntWalk.i64_in _ (by omega))) ?_
    refine wl (ro_move rfl) ?_
    refine wl_call rfl en_198 (hL1 _ _ _ _ _ _ hs2 hN) ?_
    rintro _ u6 ⟨rfl, G6⟩
    replace hF := hF.transG G6 (by intro k hk h; simp only [one, none'] at h ⊢ <;> omega)
    replace hN := G6.blkF hN (by intro h; simp only [one, none'] at h <;> omega)
    refine wl (ro_assign rfl) ?_
    refine wl_nil (x_then (hK16 _ _ ?_))
    clear hK16 K16
    refine c_ret ?_
    refine bp_ret Tryz.results198 rfl ?_
    exact ⟨rfl, hF⟩

theorem sp_all {n : List Nd} (hA : AOK n) (hn : n.length ≤ 24) : ∀ f, SpC n f ∧ LkC n f
  | 0 => ⟨fun _ _ _ _ _ h => h.elim, fun _ _ _ _ _ _ h => h.elim⟩
  | f + 1 => by
    obtain ⟨h1, h2⟩ := sp_all hA hn f
    exact ⟨sp_step hA hn h1 h2, lk_step hA hn h1 h2⟩

abbrev trV (nb : Nat) (n : List Nd) : Value := .agg #[sl nb n.length, i64c (n.length - 1), icv 0, icv 0]
theorem trV_eq {n : List Nd} (h : 1 ≤ n.length) (nb : Nat) : Value.agg #[sl nb n.length, icv ((n.length : Int) - 1), icv 0, icv 0] = trV nb n := by
  rw [show ((n.length : Int) - 1) = ((n.length - 1 : Nat) : Int) by omega]
  rfl
set_option maxHeartbeats 8000000 in
theorem TreeOK129 {w : World} {n : List Nd} {nb : Nat} (hA : AOK n) (hD : DoneOK n) (hN : Blk w.heap nb (rws ndc n) 143) : Ret Tryz.prog 129 [trV nb n] w (fun v w' => v = .bool true ∧ Fram none' w w') := by
  have hF : Fram none' w w := Fram.refl _ _
  obtain ⟨hn1, hn24, f, hsg⟩ := hD
  have hsp := (sp_all hA hn24 f).1
  refine ret_of Tryz.func129 rfl Tryz.ntmps129 rfl ?_
  refine c_seq (fun K1 hK1 => ?_)
  refine c_reg ?_ -- region 0 eval.go:103
  refine wl_box (cs := [sl nb n.length, i64c (n.length - 1), icv 0, icv 0]) rfl rfl (fun b1 w1 hbb1 hT F1 => ?_)
  have hbsb1 := Nat.le_trans hF.size hbb1
  have hnenbb1 : nb < b1 := Nat.lt_of_lt_of_le hN.lt hbb1
  replace hF := hF.thenDrew.thenN F1
  replace hN := F1.blkN hN
  refine wl (ro_assign rfl) ?_
  refine wl_nil (x_then (hK1 _ _ ?_))
  clear hK1 K1
  refine c_seq (fun K2 hK2 => ?_)
  refine c_seq (fun K3 hK3 => ?_)
  refine c_reg ?_ -- region 1 eval.go:104
  refine wl (ro_fieldAddr (k := 2) rfl fo_113_2) ?_
  refine wl (ro_loadB rfl sc_26 (by assumption) rfl) ?_
  refine wl (ro_cmp (r := false) rfl rfl rfl) ?_
  refine wl (ro_move rfl) ?_
  refine wlg_yes rfl (ro_fieldAddr (k := 3) rfl fo_113_3) ?_
  refine wlg_yes rfl (ro_loadB rfl sc_3 (by assumption) rfl) ?_
  refine wlg_yes rfl (ro_cmp (r := false) rfl rfl rfl) ?_
  refine wl (ro_pick rfl rfl rfl) ?_
  refine wl (ro_move rfl) ?_
  refine wlg_yes rfl (ro_fieldAddr (k := 0) rfl fo_113_0) ?_
  refine wlg_yes rfl (ro_loadB rfl sc_78 (by assumption) rfl) ?_
  refine wlg_yes rfl (ro_lenL rfl se_78) ?_
  refine wlg_yes rfl (ro_cmp (r := false) rfl rfl (congrArg some (decide_eq_false (by omega)))) ?_
  refine wl (ro_pick rfl rfl rfl) ?_
  refine wl (ro_move rfl) ?_
  refine wlg_yes rfl (ro_fieldAddr (k := 0) rfl fo_113_0) ?_
  refine wlg_yes rfl (ro_loadB rfl sc_78 (by assumption) rfl) ?_
  refine wlg_yes rfl (ro_lenL rfl se_78) ?_
  refine wlg_yes rfl (ro_cmp (r := false) rfl rfl (congrArg some (decide_eq_false (by omega)))) ?_
  refine wl (ro_pick rfl rfl rfl) ?_
  refine wl (ro_move rfl) ?_
  refine wlg_yes rfl (ro_fieldAddr (k := 1) rfl fo_113_1) ?_
  refine wlg_yes rfl (ro_loadB rfl sc_3 (by assumption) rfl) ?_
  refine wlg_yes rfl (ro_fieldAddr (k := 0) rfl fo_113_0) ?_
  refine wlg_yes rfl (ro_loadB rfl sc_78 (by assumption) rfl) ?_
  refine wlg_yes rfl (ro_lenL rfl se_78) ?_
  refine wlg_yes rfl (ro_arith (r := ((n.length - 1 : Nat) : Int)) rfl rfl (congrArg some (by omega)) (Go.IntWalk.i64_in _ (by omega))) ?_
  refine wlg_yes rfl (ro_cmp (r := false) rfl rfl (congrArg some (by simp))) ?_
  refine wl (ro_pick rfl rfl rfl) ?_
  refine wl_nil (x_then (hK3 _ _ ?_))
  clear hK3 K3
  refine wc_condF rfl ?_
  refine c_skip (x_then (hK2 _ _ ?_))
  clear hK2 K2
  refine c_seq (fun K4 hK4 => ?_)
  refine c_seq (fun K5 hK5 => ?_)
  refine c_reg ?_ -- region 3 eval.go:107
  refine wl (ro_assign rfl) ?_
  refine wl_nil (x_then (hK5 _ _ ?_))
  clear hK5 K5
  refine c_block ?_
  -- loop@r4: live slots [1, 3]
  refine c_loopG (fun q a' w' => ∃ i, q = n.length - i ∧ i ≤ n.length ∧ Blk w'.heap nb (rws ndc n) 143 ∧ Blk w'.heap b1 [sl nb n.length, i64c (n.length - 1), icv 0, icv 0] 113 ∧ Fram none' w w' ∧ ∃ e, a' = Fr 96 (upds e [(1, ptr b1), (3, i64c i)]) []) n.length ⟨0, rfl, by omega, hN, hT, hF, kp _ ⟨rfl, rfl, trivial⟩⟩ ?_
  clear hF hN hT
  rintro q a' u1 ⟨i, rfl, hi, hN, hT, hF, e, rfl⟩
  refine c_seq (fun K6 hK6 => ?_)
  refine c_seq (fun K7 hK7 => ?_)
  refine c_reg ?_ -- region 4 eval.go:107
  refine wl (ro_move rfl) ?_
  refine wl (ro_fieldAddr (k := 0) rfl fo_113_0) ?_
  refine wl (ro_loadB rfl sc_78 (by assumption) rfl) ?_
  refine wl (ro_lenL rfl se_78) ?_
  refine wl (ro_cmp (r := decide (i < n.length)) rfl rfl (congrArg some (decide_eq_decide.2 (by omega)))) ?_
  refine wl_nil (x_then (hK7 _ _ ?_))
  clear hK7 K7
  refine wc_cond rfl (fun hc38 => ?_) (fun hc38 => ?_)
  · try simp only [decide_eq_true_eq, decide_eq_false_iff_not, Bool.not_eq_true', Bool.not_eq_false', Bool.not_eq_eq_eq_not, Bool.not_true, Bool.not_false, beq_iff_eq, bne_iff_ne, ne_eq, beq_eq_false_iff_ne, bne_eq_false_iff_eq, gt_iff_lt, ge_iff_le, Int.not_lt, Int.not_le] at hc38
    obtain ⟨x, hx⟩ : ∃ x, n[i]? = some x := ⟨_, List.getElem?_eq_getElem hc38⟩
    obtain ⟨⟨r1, r2, r3, r4⟩, ⟨q1, q2, q3, q4⟩, -⟩ := hA x (List.mem_of_getElem? hx)
    refine c_skip (x_then (hK6 _ _ ?_))
    clear hK6 K6
    refine forget [(1, _), (3, _)] ⟨rfl, rfl, trivial⟩ (fun e => ?_)
    refine c_seq (fun K8 hK8 => ?_)
    refine c_block ?_
    refine c_seq (fun K9 hK9 => ?_)
    refine c_reg ?_ -- region 6 eval.go:108
    refine wl (ro_fieldAddr (k := 0) rfl fo_113_0) ?_
    refine wl (ro_loadB rfl sc_78 (by assumption) rfl) ?_
    refine wl (ro_move rfl) ?_
    refine wl (ro_indexAddr (et := 143) (k := 13) rfl rfl se_78 rfl (by omega)) ?_
    refine wl (ro_loadAggB rfl ag_143 (hN) ((ndc_len _)) ((rw_agg ndc_len hx (by omega)))) ?_
    refine wl_new (ze_143) (fun b4 w2 hbb4 hX F2 => ?_)
    have hbsb4 := Nat.le_trans hF.size hbb4
    have hnenbb4 : nb < b4 := Nat.lt_of_lt_of_le hN.lt hbb4
    have hneb1b4 : b1 < b4 := Nat.lt_of_lt_of_le hT.lt hbb4
    replace hF := hF.thenDrew.thenN F2
    replace hN := F2.blkN hN
    replace hT := F2.blkN hT
    refine wl_puta rfl rfl ((ndc_cells _)) sz_143 (rfl) hX ((by simp)) ((show _ = ndc x from rfl)) (fun w3 hX F3 => ?_)
    replace hF := hF.thenDrew.thenO F3 (by first | exact .inr (by omega) | exact .inl rfl | exact .inl (by assumption))
    replace hN := F3.blkO hN (by omega)
    replace hT := F3.blkO hT (by omega)
    refine wl_nil (x_then (hK9 _ _ ?_))
    clear hK9 K9
    refine c_seq (fun K10 hK10 => ?_)
    refine c_seq (fun K11 hK11 => ?_)
    refine c_reg ?_ -- region 7 eval.go:109
    refine wl (ro_fieldAddr (k := 5) rfl fo_143_5) ?_
    refine wl (ro_fieldAddr (k := 0) rfl fo_141_0) ?_
    refine wl (ro_loadB rfl sc_3 (by assumption) rfl) ?_
    refine wl (ro_cmp (r := false) rfl rfl (congrArg some (decide_eq_false (by omega)))) ?_
    refine wl (ro_move rfl) ?_
    refine wlg_yes rfl (ro_fieldAddr (k := 5) rfl fo_143_5) ?_
    refine wlg_yes rfl (ro_fieldAddr (k := 0) rfl fo_141_0) ?_
    refine wlg_yes rfl (ro_loadB rfl sc_3 (by assumption) rfl) ?_
    refine wlg_yes rfl (ro_cmp (r := false) rfl rfl (congrArg some (decide_eq_false (by omega)))) ?_
    refine wl (ro_pick rfl rfl rfl) ?_
    refine wl (ro_move rfl) ?_
    refine wlg_yes rfl (ro_fieldAddr (k := 5) rfl fo_143_5) ?_
    refine wlg_yes rfl (ro_fieldAddr (k := 1) rfl fo_141_1) ?_
    refine wlg_yes rfl (ro_loadB rfl sc_3 (by assumption) rfl) ?_
    refine wlg_yes rfl (ro_cmp (r := false) rfl rfl (congrArg some (decide_eq_false (by omega)))) ?_
    refine wl (ro_pick rfl rfl rfl) ?_
    refine wl (ro_move rfl) ?_
    refine wlg_yes rfl (ro_fieldAddr (k := 5) rfl fo_143_5) ?_
    refine wlg_yes rfl (ro_fieldAddr (k := 1) rfl fo_141_1) ?_
    refine wlg_yes rfl (ro_loadB rfl sc_3 (by assumption) rfl) ?_
    refine wlg_yes rfl (ro_cmp (r := false) rfl rfl (congrArg some (decide_eq_false (by omega)))) ?_
    refine wl (ro_pick rfl rfl rfl) ?_
    refine wl_nil (x_then (hK11 _ _ ?_))
    clear hK11 K11
    refine wc_condF rfl ?_
    refine c_skip (x_then (hK10 _ _ ?_))
    clear hK10 K10
    refine forget [(1, _), (3, _), (4, _), (51, _), (52, _), (53, _), (54, _), (57, _), (58, _), (59, _), (60, _), (63, _), (64, _), (65, _), (66, _)] ⟨rfl, rfl, rfl, rfl, rfl, rfl, rfl, rfl, rfl, rfl, rfl, rfl, rfl, rfl, rfl, trivial⟩ (fun e => ?_)
    refine c_seq (fun K12 hK12 => ?_)
    refine c_reg ?_ -- region 9 eval.go:112
    refine wl (ro_fieldAddr (k := 9) rfl fo_143_6) ?_
    refine wl (ro_fieldAddr (k := 0) rfl fo_141_0) ?_
    refine wl (ro_loadB rfl sc_3 (by assumption) rfl) ?_
    refine wl (ro_cmp (r := false) rfl rfl (congrArg some (decide_eq_false (by omega)))) ?_
    refine wl (ro_move rfl) ?_
    refine wlg_yes rfl (ro_fieldAddr (k := 9) rfl fo_143_6) ?_
    refine wlg_yes rfl (ro_fieldAddr (k := 0) rfl fo_141_0) ?_
    refine wlg_yes rfl (ro_loadB rfl sc_3 (by assumption) rfl) ?_
    refine wlg_yes rfl (ro_cmp (r := false) rfl rfl (congrArg some (decide_eq_false (by omega)))) ?_
    refine wl (ro_pick rfl rfl rfl) ?_
    refine wl (ro_move rfl) ?_
    refine wlg_yes rfl (ro_fieldAddr (k := 9) rfl fo_143_6) ?_
    refine wlg_yes rfl (ro_fieldAddr (k := 1) rfl fo_141_1) ?_
    refine wlg_yes rfl (ro_loadB rfl sc_3 (by assumption) rfl) ?_
    refine wlg_yes rfl (ro_cmp (r := false) rfl rfl (congrArg some (decide_eq_false (by omega)))) ?_
    refine wl (ro_pick rfl rfl rfl) ?_
    refine wl (ro_move rfl) ?_
    refine wlg_yes rfl (ro_fieldAddr (k := 9) rfl fo_143_6) ?_
    refine wlg_yes rfl (ro_fieldAddr (k := 1) rfl fo_141_1) ?_
    refine wlg_yes rfl (ro_loadB rfl sc_3 (by assumption) rfl) ?_
    refine wlg_yes rfl (ro_cmp (r := false) rfl rfl (congrArg some (decide_eq_false (by omega)))) ?_
    refine wl (ro_pick rfl rfl rfl) ?_
    refine wl_nil (x_then (hK12 _ _ ?_))
    clear hK12 K12
    refine wc_condF rfl ?_
    refine c_skip (x_blk (x_then (hK8 _ _ ?_)))
    clear hK8 K8
    refine c_reg ?_ -- region 5 eval.go:107
    refine wl (ro_move rfl) ?_
    refine wl (ro_arith (r := ((i + 1 : Nat) : Int)) rfl rfl rfl (Go.IntWalk.i64_in _ (by omega))) ?_
    refine wl (ro_assign rfl) ?_
    refine wl_nil (x_then ?_)
    exact ⟨n.length - (i + 1), by omega, i + 1, rfl, by omega, hN, hT, hF, kp _ ⟨rfl, rfl, trivial⟩⟩
  · try simp only [decide_eq_true_eq, decide_eq_false_iff_not, Bool.not_eq_true', Bool.not_eq_false', Bool.not_eq_eq_eq_not, Bool.not_true, Bool.not_false, beq_iff_eq, bne_iff_ne, ne_eq, beq_eq_false_iff_ne, bne_eq_false_iff_eq, gt_iff_lt, ge_iff_le, Int.not_lt, Int.not_le] at hc38
    refine c_exit (x_thenX (x_thenX (x_blkX (x_then (hK4 _ _ ?_)))))
    clear hK6 K6 hK4 K4
    refine forget [(1, _)] ⟨rfl, trivial⟩ (fun e => ?_)
    refine c_seq (fun K13 hK13 => ?_)
    refine c_reg ?_ -- region 11 eval.go:116
    refine wl (ro_fieldAddr (k := 0) rfl fo_113_0) ?_
    refine wl (ro_loadB rfl sc_78 (by assumption) rfl) ?_
    refine wl (ro_fieldAddr (k := 1) rfl fo_113_1) ?_
    refine wl (ro_loadB rfl sc_3 (by assumption) rfl) ?_
    refine wl_call rfl en_168 (hsp _ _ _ _ _ hsg hN) ?_
    rintro _ u5 ⟨rfl, G5⟩
    replace hF := hF.transG G5 (by intro k hk h; simp only [one, none'] at h ⊢ <;> omega)
    replace hN := G5.blkF hN (by intro h; simp only [one, none'] at h <;> omega)
    replace hT := G5.blkF hT (by intro h; simp only [one, none'] at h <;> omega)
    refine wl (ro_cmp (r := true) rfl rfl rfl) ?_
    refine wl (ro_assign rfl) ?_
    refine wl_nil (x_then (hK13 _ _ ?_))
    clear hK13 K13
    refine c_ret ?_
    refine bp_ret Tryz.results129 rfl ?_
    exact ⟨rfl, hF⟩

end Go.Proofs.Qxb6500570aGreat
