import Derived.Test.Qxb6500570aGreatKa
/- The model's printer: show, args, Print. -/
namespace Go.Proofs.Qxb6500570aGreat
set_option linter.unusedVariables false
set_option linter.unusedSimpArgs false

theorem tx_len {n : List Nd} {f k lo i : Nat} {lk arg : Bool} (hA : AOK n) (hn : n.length ≤ 24) (h : SgF n f lk k lo i arg) : (txF n f i).length ≤ 264 := by
  have hle := SgF.le _ _ _ _ _ _ h
  obtain ⟨X, hX, hl, -⟩ := fill_law (fun x hx => ⟨(hA x hx).1.2.2.2, (hA x hx).2.1.2.2.2⟩) _ _ _ _ _ _ h
  rw [hX f (Nat.le_refl _)]
  omega
def ShC (n : List Nd) (f : Nat) : Prop := ∀ (lo i need nb : Nat) (arg : Bool) (w : World), SgF n f false 0 lo i arg → Blk w.heap nb (rws ndc n) 143 → Ret Tryz.prog 138 [sl nb n.length, i64c i, i64c need] w (fun v w' => v = S (brkT (decide (lvl (ndA n (i : Nat)) < need)) (txF n f (i : Nat))) ∧ Fram none' w w')
def ArC (n : List Nd) (f : Nat) : Prop := ∀ (k lo i nb : Nat) (arg : Bool) (w : World), SgF n f true k lo i arg → Blk w.heap nb (rws ndc n) 143 → Ret Tryz.prog 181 [sl nb n.length, i64c i] w (fun v w' => v = S (txF n f (i : Nat)) ∧ Fram none' w w')
def Im6 (n : List Nd) (f lo i : Nat) (x : Nd) : Prop := x.k = 6 → 1 ≤ i ∧ x.a = (i : Int) - 1 ∧ SgF n f false 0 lo (i - 1) false
theorem lf_len' {x : Nd} (h : NmOK x) : (lfT x).length ≤ 11 := lf_len ⟨h.1.2.2.2, h.2.1.2.2.2⟩
theorem lf4_len {x : Nd} (h : NmOK x) (hk : x.k = 4) : (refT x.p).length + (refT x.q).length ≤ 10 := by
  have := lf_len' h
  unfold lfT at this
  rw [if_neg (by omega), if_neg (by omega), if_neg (by omega), if_pos hk] at this
  simp only [List.length_append, List.length_cons] at this
  omega
set_option maxHeartbeats 8000000 in
theorem sh_step {n : List Nd} {f : Nat} (hA : AOK n) (hn : n.length ≤ 24) (hS1 : ShC n f) (hL1 : ArC n f) : ShC n (f + 1) := by
  intro lo i need nb arg w hsg hN
  have hF : Fram none' w w := Fram.refl _ _
  have hlen := tx_len hA hn hsg
  obtain ⟨x, hx, h⟩ := hsg
  have hi := (List.getElem?_eq_some_iff.1 hx).1
  have hxA := hA x (List.mem_of_getElem? hx)
  have hxi := ndA_get hx
  have hk : x.k = 1 ∨ x.k = 2 ∨ x.k = 3 ∨ x.k = 5 ∨ x.k = 4 ∨ x.k = 6 ∨ x.k = 7 ∨ x.k = 8 := by
    rcases h with h | h | h | h | h | h | h | h <;> simp [h.1]
  have h1 : x.k = 1 → 0 ≤ x.n ∧ x.n ≤ 999999999 := fun q => by
    rcases h with h | h | h | h | h | h | h | h
    · exact ⟨h.2.1, h.2.2.1⟩
    all_goals (have := h.1; omega)
  have h6 : Im6 n f lo i x := fun q => by
    rcases h with h | h | h | h | h | h | h | h
    · have := h.1; omega
    · have := h.1; omega
    · have := h.1; omega
    · have := h.1; omega
    · have := h.1; omega
    · exact h.2
    all_goals (have := h.1; omega)
  have h7 : Im7 n f lo i x := fun q => by
    rcases h with h | h | h | h | h | h | h | h
    · have := h.1; omega
    · have := h.1; omega
    · have := h.1; omega
    · have := h.1; omega
    · have := h.1; omega
    · have := h.1; omega
    · exact h.2
    · have := h.1; omega
  have h8 : Im8 n f lo i x := fun q => by
    rcases h with h | h | h | h | h | h | h | h
    · have := h.1; omega
    · have := h.1; omega
    · have := h.1; omega
    · have := h.1; omega
    · have := h.1; omega
    · have := h.1; omega
    · have := h.1; omega
    · exact h.2
  clear h
  have htx : txF n (f + 1) (i : Nat) = if x.k = 6 then 45 :: brkT (decide (lvl (ndA n x.a) < 4)) (txF n f x.a) else if x.k = 7 then brkT (decide (lvl (ndA n x.a) < (if strg x.o.toNat = 1 then 2 else strg x.o.toNat))) (txF n f x.a) ++ (opT x.o.toNat ++ brkT (decide (lvl (ndA n x.b) < strg x.o.toNat + 1)) (txF n f x.b)) else if x.k = 8 then fnm x.o.toNat ++ 40 :: (txF n f x.a ++ [41]) else if x.k = 9 then (if x.b < 0 then txF n f x.a else txF n f x.b ++ 44 :: txF n f x.a) else lfT x := by
    conv => lhs; unfold txF
    rw [hxi]
  rw [hxi]
  generalize txF n (f + 1) (i : Nat) = Y at htx hlen ⊢
  refine ret_of Tryz.func138 rfl Tryz.ntmps138 rfl ?_
  refine c_seq (fun K1 hK1 => ?_)
  refine c_reg ?_ -- region 0 formm.go:395
  refine wl (ro_assign rfl) ?_
  refine wl_nil (x_then (hK1 _ _ ?_))
  clear hK1 K1
  refine forget [(0, _), (1, _), (2, _)] ⟨rfl, rfl, rfl, trivial⟩ (fun e => ?_)
  refine c_seq (fun K2 hK2 => ?_)
  refine c_reg ?_ -- region 1 formm.go:396
  refine wl (ro_move rfl) ?_
  refine wl (ro_move rfl) ?_
  refine wl (ro_indexAddr (et := 143) (k := 13) rfl rfl se_78 rfl (by omega)) ?_
  refine wl (ro_loadAggB rfl ag_143 (hN) ((ndc_len _)) ((rw_agg ndc_len hx (by omega)))) ?_
  refine wl_new (ze_143) (fun b7 w1 hbb7 hX F1 => ?_)
  have hbsb7 := Nat.le_trans hF.size hbb7
  have hnenbb7 : nb < b7 := Nat.lt_of_lt_of_le hN.lt hbb7
  replace hF := hF.thenDrew.thenN F1
  replace hN := F1.blkN hN
  refine wl_puta rfl rfl ((ndc_cells _)) sz_143 (rfl) hX ((by simp)) ((show _ = ndc x from rfl)) (fun w2 hX F2 => ?_)
  replace hF := hF.thenDrew.thenO F2 (by first | exact .inr (by omega) | exact .inl rfl | exact .inl (by assumption))
  replace hN := F2.blkO hN (by omega)
  refine wl_nil (x_then (hK2 _ _ ?_))
  clear hK2 K2
  refine forget [(0, _), (2, _), (7, _)] ⟨rfl, rfl, rfl, trivial⟩ (fun e => ?_)
  refine c_seq (fun K3 hK3 => ?_)
  refine c_reg ?_ -- region 2 formm.go:397
  refine wl (ro_assign rfl) ?_
  refine wl_nil (x_then (hK3 _ _ ?_))
  clear hK3 K3
  refine forget [(0, _), (2, _), (7, _), (8, _)] ⟨rfl, rfl, rfl, rfl, trivial⟩ (fun e => ?_)
  refine c_seq (fun K4 hK4 => ?_)
  refine c_reg ?_ -- region 3 formm.go:398
  refine wl (ro_loadAggB rfl ag_143 (hX) (rfl) (rfl)) ?_
  refine wl_call rfl en_177 (Level177) ?_
  rintro _ u1 ⟨rfl, G1⟩
  replace hF := hF.transG G1 (by intro k hk h; simp only [none'] at h ⊢ <;> omega)
  replace hN := G1.blkF hN (by intro h; simp only [none'] at h <;> omega)
  replace hX := G1.blkF hX (by intro h; simp only [none'] at h <;> omega)
  refine wl (ro_assign rfl) ?_
  refine wl_nil (x_then (hK4 _ _ ?_))
  clear hK4 K4
  refine c_mid (fun a' w' => Fram none' w w' ∧ ∃ e, a' = Fr 103 (upds e [(2, i64c need), (8, S Y), (9, i64c (lvl x))]) []) ?_ ?_
  · skip
    refine c_seq (fun K5 hK5 => ?_)
    refine c_reg ?_ -- region 4 formm.go:399
    refine wl (ro_fieldAddr (k := 0) rfl fo_143_0) ?_
    refine wl (ro_loadB rfl sc_3 (by assumption) rfl) ?_
    refine wl_nil (x_then (hK5 _ _ ?_))
    clear hK5 K5
    refine c_block ?_
    refine forget [(0, _), (2, _), (7, _), (8, _), (9, _), (23, _)] ⟨rfl, rfl, rfl, rfl, rfl, rfl, trivial⟩ (fun e => ?_)
    refine c_seq (fun K6 hK6 => ?_)
    refine c_reg ?_ -- region 5 formm.go:400
    refine wl (ro_cmp rfl rfl rfl) ?_
    refine wl (ro_assign rfl) ?_
    refine wl_nil (x_then (hK6 _ _ ?_))
    clear hK6 K6
    refine wc_cond rfl (fun hc24 => ?_) (fun hc24 => ?_)
    · try simp only [decide_eq_true_eq, decide_eq_false_iff_not, Bool.not_eq_true', Bool.not_eq_false', Bool.not_eq_eq_eq_not, Bool.not_true, Bool.not_false, beq_iff_eq, bne_iff_ne, ne_eq, beq_eq_false_iff_ne, bne_eq_false_iff_eq, gt_iff_lt, ge_iff_le, Int.not_lt, Int.not_le] at hc24
      rw [if_neg (by omega), if_neg (by omega), if_neg (by omega), if_neg (by omega)] at htx
      have el : lfT x = dgT x.n.toNat := by unfold lfT; rw [if_pos hc24]
      obtain ⟨k1, k2⟩ := h1 hc24
      refine c_reg ?_ -- region 6 formm.go:401
      refine wl (ro_fieldAddr (k := 4) rfl fo_143_4) ?_
      refine wl (ro_loadB rfl sc_3 (hX) ((show _ = some (i64c x.n.toNat) from congrArg some (congrArg icv (by omega))))) ?_
      refine wl_call rfl en_178 (Itoa178 (by omega)) ?_
      rintro _ u3 ⟨rfl, G3⟩
      replace hF := hF.transG G3 (by intro k hk h; simp only [none'] at h ⊢ <;> omega)
      replace hN := G3.blkF hN (by intro h; simp only [none'] at h <;> omega)
      replace hX := G3.blkF hX (by intro h; simp only [none'] at h <;> omega)
      refine wl (ro_assign rfl) ?_
      refine wl_nil (x_blk (x_then ?_))
      exact ⟨hF, kp _ ⟨rfl, by rw [htx, el]; rfl, rfl, trivial⟩⟩
    · try simp only [decide_eq_true_eq, decide_eq_false_iff_not, Bool.not_eq_true', Bool.not_eq_false', Bool.not_eq_eq_eq_not, Bool.not_true, Bool.not_false, beq_iff_eq, bne_iff_ne, ne_eq, beq_eq_false_iff_ne, bne_eq_false_iff_eq, gt_iff_lt, ge_iff_le, Int.not_lt, Int.not_le] at hc24
      refine c_seq (fun K7 hK7 => ?_)
      refine c_reg ?_ -- region 7 formm.go:402
      refine wl (ro_cmp rfl rfl rfl) ?_
      refine wl (ro_assign rfl) ?_
      refine wl_nil (x_then (hK7 _ _ ?_))
      clear hK7 K7
      refine wc_cond rfl (fun hc29 => ?_) (fun hc29 => ?_)
      · try simp only [decide_eq_true_eq, decide_eq_false_iff_not, Bool.not_eq_true', Bool.not_eq_false', Bool.not_eq_eq_eq_not, Bool.not_true, Bool.not_false, beq_iff_eq, bne_iff_ne, ne_eq, beq_eq_false_iff_ne, bne_eq_false_iff_eq, gt_iff_lt, ge_iff_le, Int.not_lt, Int.not_le] at hc29
        rw [if_neg (by omega), if_neg (by omega), if_neg (by omega), if_neg (by omega)] at htx
        have el : lfT x = if x.n = 1 then wTRUE else wFALSE := by unfold lfT; rw [if_neg (by omega), if_pos (by omega)]
        refine c_seq (fun K8 hK8 => ?_)
        refine c_reg ?_ -- region 8 formm.go:403
        refine wl (ro_assign rfl) ?_
        refine wl_nil (x_then (hK8 _ _ ?_))
        clear hK8 K8
        refine forget [(2, _), (7, _), (8, _), (9, _)] ⟨rfl, rfl, rfl, rfl, trivial⟩ (fun e => ?_)
        refine c_seq (fun K9 hK9 => ?_)
        refine c_reg ?_ -- region 9 formm.go:404
        refine wl (ro_fieldAddr (k := 4) rfl fo_143_4) ?_
        refine wl (ro_loadB rfl sc_3 (by assumption) rfl) ?_
        refine wl (ro_cmp rfl rfl rfl) ?_
        refine wl_nil (x_then (hK9 _ _ ?_))
        clear hK9 K9
        refine wc_cond rfl (fun hc33 => ?_) (fun hc33 => ?_)
        · try simp only [decide_eq_true_eq, decide_eq_false_iff_not, Bool.not_eq_true', Bool.not_eq_false', Bool.not_eq_eq_eq_not, Bool.not_true, Bool.not_false, beq_iff_eq, bne_iff_ne, ne_eq, beq_eq_false_iff_ne, bne_eq_false_iff_eq, gt_iff_lt, ge_iff_le, Int.not_lt, Int.not_le] at hc33
          refine c_reg ?_ -- region 10 formm.go:405
          refine wl (ro_assign rfl) ?_
          refine wl_nil (x_blk (x_then ?_))
          exact ⟨hF, kp _ ⟨rfl, by rw [htx, el, if_pos hc33]; rfl, rfl, trivial⟩⟩
        · try simp only [decide_eq_true_eq, decide_eq_false_iff_not, Bool.not_eq_true', Bool.not_eq_false', Bool.not_eq_eq_eq_not, Bool.not_true, Bool.not_false, beq_iff_eq, bne_iff_ne, ne_eq, beq_eq_false_iff_ne, bne_eq_false_iff_eq, gt_iff_lt, ge_iff_le, Int.not_lt, Int.not_le] at hc33
          refine c_skip (x_blk (x_then ?_))
          exact ⟨hF, kp _ ⟨rfl, by rw [htx, el, if_neg hc33]; rfl, rfl, trivial⟩⟩
      · try simp only [decide_eq_true_eq, decide_eq_false_iff_not, Bool.not_eq_true', Bool.not_eq_false', Bool.not_eq_eq_eq_not, Bool.not_true, Bool.not_false, beq_iff_eq, bne_iff_ne, ne_eq, beq_eq_false_iff_ne, bne_eq_false_iff_eq, gt_iff_lt, ge_iff_le, Int.not_lt, Int.not_le] at hc29
        refine c_seq (fun K10 hK10 => ?_)
        refine c_reg ?_ -- region 11 formm.go:407
        refine wl (ro_cmp rfl rfl rfl) ?_
        refine wl (ro_assign rfl) ?_
        refine wl_nil (x_then (hK10 _ _ ?_))
        clear hK10 K10
        refine wc_cond rfl (fun hc34 => ?_) (fun hc34 => ?_)
        · try simp only [decide_eq_true_eq, decide_eq_false_iff_not, Bool.not_eq_true', Bool.not_eq_false', Bool.not_eq_eq_eq_not, Bool.not_true, Bool.not_false, beq_iff_eq, bne_iff_ne, ne_eq, beq_eq_false_iff_ne, bne_eq_false_iff_eq, gt_iff_lt, ge_iff_le, Int.not_lt, Int.not_le] at hc34
          rw [if_neg (by omega), if_neg (by omega), if_neg (by omega), if_neg (by omega)] at htx
          have el : lfT x = refT x.p := by unfold lfT; rw [if_neg (by omega), if_neg (by omega), if_pos (by omega)]
          refine c_reg ?_ -- region 12 formm.go:408
          refine wl (ro_fieldAddr (k := 5) rfl fo_143_5) ?_
          refine wl (ro_loadAggB rfl ag_141 (hX) (rfl) (rfl)) ?_
          refine wl_call rfl en_179 (refText179 hxA.1) ?_
          rintro _ u3 ⟨rfl, G3⟩
          replace hF := hF.transG G3 (by intro k hk h; simp only [none'] at h ⊢ <;> omega)
          replace hN := G3.blkF hN (by intro h; simp only [none'] at h <;> omega)
          replace hX := G3.blkF hX (by intro h; simp only [none'] at h <;> omega)
          refine wl (ro_assign rfl) ?_
          refine wl_nil (x_blk (x_then ?_))
          exact ⟨hF, kp _ ⟨rfl, by rw [htx, el]; rfl, rfl, trivial⟩⟩
        · try simp only [decide_eq_true_eq, decide_eq_false_iff_not, Bool.not_eq_true', Bool.not_eq_false', Bool.not_eq_eq_eq_not, Bool.not_true, Bool.not_false, beq_iff_eq, bne_iff_ne, ne_eq, beq_eq_false_iff_ne, bne_eq_false_iff_eq, gt_iff_lt, ge_iff_le, Int.not_lt, Int.not_le] at hc34
          refine c_seq (fun K11 hK11 => ?_)
          refine c_reg ?_ -- region 13 formm.go:409
          refine wl (ro_cmp rfl rfl rfl) ?_
          refine wl (ro_assign rfl) ?_
          refine wl_nil (x_then (hK11 _ _ ?_))
          clear hK11 K11
          refine wc_cond rfl (fun hc39 => ?_) (fun hc39 => ?_)
          · try simp only [decide_eq_true_eq, decide_eq_false_iff_not, Bool.not_eq_true', Bool.not_eq_false', Bool.not_eq_eq_eq_not, Bool.not_true, Bool.not_false, beq_iff_eq, bne_iff_ne, ne_eq, beq_eq_false_iff_ne, bne_eq_false_iff_eq, gt_iff_lt, ge_iff_le, Int.not_lt, Int.not_le] at hc39
            rw [if_neg (by omega), if_neg (by omega), if_neg (by omega), if_neg (by omega)] at htx
            have el : lfT x = refT x.p ++ 58 :: refT x.q := by unfold lfT; rw [if_neg (by omega), if_neg (by omega), if_neg (by omega), if_pos (by omega)]
            have hl4 := lf4_len hxA hc39
            refine c_seq (fun K12 hK12 => ?_)
            refine c_reg ?_ -- region 14 formm.go:410
            refine wl (ro_fieldAddr (k := 5) rfl fo_143_5) ?_
            refine wl (ro_loadAggB rfl ag_141 (hX) (rfl) (rfl)) ?_
            refine wl_call rfl en_179 (refText179 hxA.1) ?_
            rintro _ u3 ⟨rfl, G3⟩
            replace hF := hF.transG G3 (by intro k hk h; simp only [none'] at h ⊢ <;> omega)
            replace hN := G3.blkF hN (by intro h; simp only [none'] at h <;> omega)
            replace hX := G3.blkF hX (by intro h; simp only [none'] at h <;> omega)
            refine wl (ro_assign rfl) ?_
            refine wl_nil (x_then (hK12 _ _ ?_))
            clear hK12 K12
            refine forget [(2, _), (7, _), (9, _), (10, _)] ⟨rfl, rfl, rfl, rfl, trivial⟩ (fun e => ?_)
            refine c_seq (fun K13 hK13 => ?_)
            refine c_reg ?_ -- region 15 formm.go:411
            refine wl (ro_fieldAddr (k := 9) rfl fo_143_6) ?_
            refine wl (ro_loadAggB rfl ag_141 (hX) (rfl) (rfl)) ?_
            refine wl_call rfl en_179 (refText179 hxA.2.1) ?_
            rintro _ u4 ⟨rfl, G4⟩
            replace hF := hF.transG G4 (by intro k hk h; simp only [none'] at h ⊢ <;> omega)
            replace hN := G4.blkF hN (by intro h; simp only [none'] at h <;> omega)
            replace hX := G4.blkF hX (by intro h; simp only [none'] at h <;> omega)
            refine wl (ro_assign rfl) ?_
            refine wl_nil (x_then (hK13 _ _ ?_))
            clear hK13 K13
            refine c_reg ?_ -- region 16 formm.go:412
            refine wl (ro_move rfl) ?_
            refine wl (ro_catS (m := [58]) rfl rfl (by simp only [List.length_cons, List.length_nil]; omega)) ?_
            refine wl (ro_move rfl) ?_
            refine wl (ro_catS rfl rfl (by simp only [List.length_append, List.length_cons, List.length_nil]; omega)) ?_
            refine wl (ro_assign rfl) ?_
            refine wl_nil (x_blk (x_then ?_))
            exact ⟨hF, kp _ ⟨rfl, by rw [htx, el]; show _ = some (S (refT x.p ++ 58 :: refT x.q)); rw [show refT x.p ++ 58 :: refT x.q = refT x.p ++ [58] ++ refT x.q by simp]; rfl, rfl, trivial⟩⟩
          · try simp only [decide_eq_true_eq, decide_eq_false_iff_not, Bool.not_eq_true', Bool.not_eq_false', Bool.not_eq_eq_eq_not, Bool.not_true, Bool.not_false, beq_iff_eq, bne_iff_ne, ne_eq, beq_eq_false_iff_ne, bne_eq_false_iff_eq, gt_iff_lt, ge_iff_le, Int.not_lt, Int.not_le] at hc39
            refine c_seq (fun K14 hK14 => ?_)
            refine c_reg ?_ -- region 17 formm.go:413
            refine wl (ro_cmp rfl rfl rfl) ?_
            refine wl (ro_assign rfl) ?_
            refine wl_nil (x_then (hK14 _ _ ?_))
            clear hK14 K14
            refine wc_cond rfl (fun hc51 => ?_) (fun hc51 => ?_)
            · try simp only [decide_eq_true_eq, decide_eq_false_iff_not, Bool.not_eq_true', Bool.not_eq_false', Bool.not_eq_eq_eq_not, Bool.not_true, Bool.not_false, beq_iff_eq, bne_iff_ne, ne_eq, beq_eq_false_iff_ne, bne_eq_false_iff_eq, gt_iff_lt, ge_iff_le, Int.not_lt, Int.not_le] at hc51
              rw [if_neg (by omega), if_neg (by omega), if_neg (by omega), if_neg (by omega)] at htx
              have el : lfT x = [35, 35] := by unfold lfT; rw [if_neg (by omega), if_neg (by omega), if_neg (by omega), if_neg (by omega)]
              refine c_reg ?_ -- region 18 formm.go:414
              refine wl (ro_assign rfl) ?_
              refine wl_nil (x_blk (x_then ?_))
              exact ⟨hF, kp _ ⟨rfl, by rw [htx, el]; rfl, rfl, trivial⟩⟩
            · try simp only [decide_eq_true_eq, decide_eq_false_iff_not, Bool.not_eq_true', Bool.not_eq_false', Bool.not_eq_eq_eq_not, Bool.not_true, Bool.not_false, beq_iff_eq, bne_iff_ne, ne_eq, beq_eq_false_iff_ne, bne_eq_false_iff_eq, gt_iff_lt, ge_iff_le, Int.not_lt, Int.not_le] at hc51
              refine c_seq (fun K15 hK15 => ?_)
              refine c_reg ?_ -- region 19 formm.go:415
              refine wl (ro_cmp rfl rfl rfl) ?_
              refine wl (ro_assign rfl) ?_
              refine wl_nil (x_then (hK15 _ _ ?_))
              clear hK15 K15
              refine wc_cond rfl (fun hc53 => ?_) (fun hc53 => ?_)
              · try simp only [decide_eq_true_eq, decide_eq_false_iff_not, Bool.not_eq_true', Bool.not_eq_false', Bool.not_eq_eq_eq_not, Bool.not_true, Bool.not_false, beq_iff_eq, bne_iff_ne, ne_eq, beq_eq_false_iff_ne, bne_eq_false_iff_eq, gt_iff_lt, ge_iff_le, Int.not_lt, Int.not_le] at hc53
                rw [if_pos hc53] at htx
                obtain ⟨k1, k2, k3⟩ := h6 hc53
                have hac : x.a = ((i - 1 : Nat) : Int) := by omega
                rw [hac] at htx
                have hYl := congrArg List.length htx
                rw [List.length_cons] at hYl
                refine c_reg ?_ -- region 20 formm.go:416
                refine wl (ro_move rfl) ?_
                refine wl (ro_fieldAddr (k := 2) rfl fo_143_2) ?_
                refine wl (ro_loadB rfl sc_3 (hX) ((show _ = some (i64c (i - 1)) from congrArg some (congrArg icv hac)))) ?_
                refine wl_call rfl en_138 (hS1 _ _ 4 _ _ _ k3 hN) ?_
                rintro _ u3 ⟨rfl, G3⟩
                replace hF := hF.transG G3 (by intro k hk h; simp only [none'] at h ⊢ <;> omega)
                replace hN := G3.blkF hN (by intro h; simp only [none'] at h <;> omega)
                replace hX := G3.blkF hX (by intro h; simp only [none'] at h <;> omega)
                refine wl (ro_catS (l := [45]) rfl rfl (by simp only [List.length_cons, List.length_nil]; omega)) ?_
                refine wl (ro_assign rfl) ?_
                refine wl_nil (x_blk (x_then ?_))
                exact ⟨hF, kp _ ⟨rfl, by rw [htx]; rfl, rfl, trivial⟩⟩
              · try simp only [decide_eq_true_eq, decide_eq_false_iff_not, Bool.not_eq_true', Bool.not_eq_false', Bool.not_eq_eq_eq_not, Bool.not_true, Bool.not_false, beq_iff_eq, bne_iff_ne, ne_eq, beq_eq_false_iff_ne, bne_eq_false_iff_eq, gt_iff_lt, ge_iff_le, Int.not_lt, Int.not_le] at hc53
                refine c_seq (fun K16 hK16 => ?_)
                refine c_reg ?_ -- region 21 formm.go:417
                refine wl (ro_cmp rfl rfl rfl) ?_
                refine wl (ro_assign rfl) ?_
                refine wl_nil (x_then (hK16 _ _ ?_))
                clear hK16 K16
                refine wc_cond rfl (fun hc60 => ?_) (fun hc60 => ?_)
                · try simp only [decide_eq_true_eq, decide_eq_false_iff_not, Bool.not_eq_true', Bool.not_eq_false', Bool.not_eq_eq_eq_not, Bool.not_true, Bool.not_false, beq_iff_eq, bne_iff_ne, ne_eq, beq_eq_false_iff_ne, bne_eq_false_iff_eq, gt_iff_lt, ge_iff_le, Int.not_lt, Int.not_le] at hc60
                  rw [if_neg hc53, if_pos hc60] at htx
                  obtain ⟨k1, k2, o, m, k3, k4, k5, k6, k7, k8, k9, k10⟩ := h7 hc60
                  have hac : x.a = ((m - 1 : Nat) : Int) := by omega
                  have hbc : x.b = ((i - 1 : Nat) : Int) := by omega
                  have hoc : x.o.toNat = o := by omega
                  have hlv : lvl x = strg o := by unfold lvl; rw [if_neg hc53, if_pos hc60, hoc]
                  rw [hac, hbc, hoc] at htx
                  have hYl := congrArg List.length htx
                  rw [List.length_append, List.length_append] at hYl
                  have hsb := strg_bd o
                  rw [hlv]
                  refine c_seq (fun K17 hK17 => ?_)
                  refine c_reg ?_ -- region 22 formm.go:418
                  refine wl (ro_move rfl) ?_
                  refine wl (ro_assign rfl) ?_
                  refine wl_nil (x_then (hK17 _ _ ?_))
                  clear hK17 K17
                  refine c_mid (fun a' w' => u1 = w' ∧ ∃ e, a' = Fr 103 (upds e [(0, sl nb n.length), (2, i64c need), (7, ptr b7), (9, i64c (strg o)), (12, i64c (if strg o = 1 then 2 else strg o))]) []) ?_ ?_
                  · skip
                    refine c_seq (fun K18 hK18 => ?_)
                    refine c_reg ?_ -- region 23 formm.go:419
                    refine wl (ro_move rfl) ?_
                    refine wl (ro_cmp (r := decide (strg o = 1)) rfl rfl (congrArg some (beqc (strg o) 1))) ?_
                    refine wl_nil (x_then (hK18 _ _ ?_))
                    clear hK18 K18
                    refine wc_cond rfl (fun hc64 => ?_) (fun hc64 => ?_)
                    · try simp only [decide_eq_true_eq, decide_eq_false_iff_not, Bool.not_eq_true', Bool.not_eq_false', Bool.not_eq_eq_eq_not, Bool.not_true, Bool.not_false, beq_iff_eq, bne_iff_ne, ne_eq, beq_eq_false_iff_ne, bne_eq_false_iff_eq, gt_iff_lt, ge_iff_le, Int.not_lt, Int.not_le] at hc64
                      refine c_reg ?_ -- region 24 formm.go:420
                      refine wl (ro_assign rfl) ?_
                      refine wl_nil (x_then ?_)
                      exact ⟨rfl, kp _ ⟨rfl, rfl, rfl, rfl, by rw [if_pos hc64]; rfl, trivial⟩⟩
                    · try simp only [decide_eq_true_eq, decide_eq_false_iff_not, Bool.not_eq_true', Bool.not_eq_false', Bool.not_eq_eq_eq_not, Bool.not_true, Bool.not_false, beq_iff_eq, bne_iff_ne, ne_eq, beq_eq_false_iff_ne, bne_eq_false_iff_eq, gt_iff_lt, ge_iff_le, Int.not_lt, Int.not_le] at hc64
                      refine c_skip (x_then ?_)
                      exact ⟨rfl, kp _ ⟨rfl, rfl, rfl, rfl, by rw [if_neg hc64]; rfl, trivial⟩⟩
                  rintro a' _ ⟨rfl, e, rfl⟩
                  refine c_seq (fun K19 hK19 => ?_)
                  refine c_reg ?_ -- region 25 formm.go:422
                  refine wl (ro_move rfl) ?_
                  refine wl (ro_fieldAddr (k := 2) rfl fo_143_2) ?_
                  refine wl (ro_loadB rfl sc_3 (hX) ((show _ = some (i64c (m - 1)) from congrArg some (congrArg icv hac)))) ?_
                  refine wl (ro_move rfl) ?_
                  refine wl_call rfl en_138 (hS1 _ _ (if strg o = 1 then 2 else strg o) _ _ _ k10 hN) ?_
                  rintro _ u3 ⟨rfl, G3⟩
                  replace hF := hF.transG G3 (by intro k hk h; simp only [none'] at h ⊢ <;> omega)
                  replace hN := G3.blkF hN (by intro h; simp only [none'] at h <;> omega)
                  replace hX := G3.blkF hX (by intro h; simp only [none'] at h <;> omega)
                  refine wl (ro_assign rfl) ?_
                  refine wl_nil (x_then (hK19 _ _ ?_))
                  clear hK19 K19
                  refine forget [(0, _), (2, _), (7, _), (9, _), (13, _)] ⟨rfl, rfl, rfl, rfl, rfl, trivial⟩ (fun e => ?_)
                  refine c_seq (fun K20 hK20 => ?_)
                  refine c_reg ?_ -- region 26 formm.go:423
                  refine wl (ro_move rfl) ?_
                  refine wl (ro_fieldAddr (k := 3) rfl fo_143_3) ?_
                  refine wl (ro_loadB rfl sc_3 (hX) ((show _ = some (i64c (i - 1)) from congrArg some (congrArg icv hbc)))) ?_
                  refine wl (ro_move rfl) ?_
                  refine wl (ro_arith (r := ((strg o + 1 : Nat) : Int)) rfl rfl rfl (Go.IntWalk.i64_in _ (by omega))) ?_
                  refine wl_call rfl en_138 (hS1 _ _ (strg o + 1) _ _ _ k9 hN) ?_
                  rintro _ u4 ⟨rfl, G4⟩
                  replace hF := hF.transG G4 (by intro k hk h; simp only [none'] at h ⊢ <;> omega)
                  replace hN := G4.blkF hN (by intro h; simp only [none'] at h <;> omega)
                  replace hX := G4.blkF hX (by intro h; simp only [none'] at h <;> omega)
                  refine wl (ro_assign rfl) ?_
                  refine wl_nil (x_then (hK20 _ _ ?_))
                  clear hK20 K20
                  refine c_reg ?_ -- region 27 formm.go:424
                  refine wl (ro_move rfl) ?_
                  refine wl (ro_fieldAddr (k := 1) rfl fo_143_1) ?_
                  refine wl (ro_loadB rfl sc_3 (hX) ((show _ = some (i64c o) from congrArg some (congrArg icv k3)))) ?_
                  refine wl_call rfl en_180 (opText180) ?_
                  rintro _ _ ⟨rfl, rfl⟩
                  refine wl (ro_catS rfl rfl (by omega)) ?_
                  refine wl (ro_move rfl) ?_
                  refine wl (ro_catS rfl rfl (by rw [List.length_append]; omega)) ?_
                  refine wl (ro_assign rfl) ?_
                  refine wl_nil (x_blk (x_then ?_))
                  exact ⟨hF, kp _ ⟨rfl, by rw [htx, ← List.append_assoc]; rfl, rfl, trivial⟩⟩
                · try simp only [decide_eq_true_eq, decide_eq_false_iff_not, Bool.not_eq_true', Bool.not_eq_false', Bool.not_eq_eq_eq_not, Bool.not_true, Bool.not_false, beq_iff_eq, bne_iff_ne, ne_eq, beq_eq_false_iff_ne, bne_eq_false_iff_eq, gt_iff_lt, ge_iff_le, Int.not_lt, Int.not_le] at hc60
                  refine c_seq (fun K21 hK21 => ?_)
                  refine c_reg ?_ -- region 28 formm.go:425
                  refine wl (ro_cmp rfl rfl rfl) ?_
                  refine wl (ro_assign rfl) ?_
                  refine wl_nil (x_then (hK21 _ _ ?_))
                  clear hK21 K21
                  refine wc_cond rfl (fun hc83 => ?_) (fun hc83 => ?_)
                  · try simp only [decide_eq_true_eq, decide_eq_false_iff_not, Bool.not_eq_true', Bool.not_eq_false', Bool.not_eq_eq_eq_not, Bool.not_true, Bool.not_false, beq_iff_eq, bne_iff_ne, ne_eq, beq_eq_false_iff_ne, bne_eq_false_iff_eq, gt_iff_lt, ge_iff_le, Int.not_lt, Int.not_le] at hc83
                    rw [if_neg hc53, if_neg hc60, if_pos hc83] at htx
                    obtain ⟨k1, k2, fn, m, k3, k4, k5, k6⟩ := h8 hc83
                    have hac : x.a = ((i - 1 : Nat) : Int) := by omega
                    have hoc : x.o.toNat = fn := by omega
                    have hfn := arity_fn k5
                    rw [hac, hoc] at htx
                    have hYl := congrArg List.length htx
                    rw [List.length_append, List.length_cons, List.length_append, List.length_cons, List.length_nil] at hYl
                    refine c_seq (fun K22 hK22 => ?_)
                    refine c_reg ?_ -- region 29 formm.go:426
                    refine wl (ro_move rfl) ?_
                    refine wl (ro_fieldAddr (k := 2) rfl fo_143_2) ?_
                    refine wl (ro_loadB rfl sc_3 (hX) ((show _ = some (i64c (i - 1)) from congrArg some (congrArg icv hac)))) ?_
                    refine wl_call rfl en_181 (hL1 _ _ _ _ _ _ k6 hN) ?_
                    rintro _ u3 ⟨rfl, G3⟩
                    replace hF := hF.transG G3 (by intro k hk h; simp only [none'] at h ⊢ <;> omega)
                    replace hN := G3.blkF hN (by intro h; simp only [none'] at h <;> omega)
                    replace hX := G3.blkF hX (by intro h; simp only [none'] at h <;> omega)
                    refine wl (ro_assign rfl) ?_
                    refine wl_nil (x_then (hK22 _ _ ?_))
                    clear hK22 K22
                    refine c_reg ?_ -- region 30 formm.go:427
                    refine wl (ro_fieldAddr (k := 1) rfl fo_143_1) ?_
                    refine wl (ro_loadB rfl sc_3 (hX) ((show _ = some (i64c fn) from congrArg some (congrArg icv k3)))) ?_
                    refine wl_call rfl en_182 (FuncName182 hfn.1 hfn.2) ?_
                    rintro _ _ ⟨rfl, rfl⟩
                    refine wl (ro_catS (m := [40]) rfl rfl (by simp only [List.length_cons, List.length_nil]; omega)) ?_
                    refine wl (ro_move rfl) ?_
                    refine wl (ro_catS rfl rfl (by simp only [List.length_append, List.length_cons, List.length_nil]; omega)) ?_
                    refine wl (ro_catS (m := [41]) rfl rfl (by simp only [List.length_append, List.length_cons, List.length_nil]; omega)) ?_
                    refine wl (ro_assign rfl) ?_
                    refine wl_nil (x_blk (x_then ?_))
                    exact ⟨hF, kp _ ⟨rfl, by rw [htx, show fnm fn ++ 40 :: (txF n f ((i - 1 : Nat) : Int) ++ [41]) = fnm fn ++ [40] ++ txF n f ((i - 1 : Nat) : Int) ++ [41] by simp]; rfl, rfl, trivial⟩⟩
                  · try simp only [decide_eq_true_eq, decide_eq_false_iff_not, Bool.not_eq_true', Bool.not_eq_false', Bool.not_eq_eq_eq_not, Bool.not_true, Bool.not_false, beq_iff_eq, bne_iff_ne, ne_eq, beq_eq_false_iff_ne, bne_eq_false_iff_eq, gt_iff_lt, ge_iff_le, Int.not_lt, Int.not_le] at hc83
                    exfalso
                    omega
  clear hF hN hX
  rintro a' u2 ⟨hF, e, rfl⟩
  refine c_seq (fun K23 hK23 => ?_)
  refine c_seq (fun K24 hK24 => ?_)
  refine c_reg ?_ -- region 31 formm.go:429
  refine wl (ro_move rfl) ?_
  refine wl (ro_move rfl) ?_
  refine wl (ro_cmp (r := decide (lvl x < need)) rfl rfl (congrArg some (decide_eq_decide.2 (by omega)))) ?_
  refine wl_nil (x_then (hK24 _ _ ?_))
  clear hK24 K24
  refine wc_cond rfl (fun hc98 => ?_) (fun hc98 => ?_)
  · try simp only [decide_eq_true_eq, decide_eq_false_iff_not, Bool.not_eq_true', Bool.not_eq_false', Bool.not_eq_eq_eq_not, Bool.not_true, Bool.not_false, beq_iff_eq, bne_iff_ne, ne_eq, beq_eq_false_iff_ne, bne_eq_false_iff_eq, gt_iff_lt, ge_iff_le, Int.not_lt, Int.not_le] at hc98
    refine c_seq (fun K25 hK25 => ?_)
    refine c_reg ?_ -- region 32 formm.go:430
    refine wl (ro_move rfl) ?_
    refine wl (ro_catS (l := [40]) rfl rfl (by simp only [List.length_cons, List.length_nil]; omega)) ?_
    refine wl (ro_catS (m := [41]) rfl rfl (by simp only [List.length_append, List.length_cons, List.length_nil]; omega)) ?_
    refine wl (ro_assign rfl) ?_
    refine wl_nil (x_then (hK25 _ _ ?_))
    clear hK25 K25
    refine c_ret (x_thenR ?_)
    refine bp_ret Tryz.results138 rfl ?_
    refine ⟨?_, hF⟩
    rw [decide_eq_true hc98]
    rfl
  · try simp only [decide_eq_true_eq, decide_eq_false_iff_not, Bool.not_eq_true', Bool.not_eq_false', Bool.not_eq_eq_eq_not, Bool.not_true, Bool.not_false, beq_iff_eq, bne_iff_ne, ne_eq, beq_eq_false_iff_ne, bne_eq_false_iff_eq, gt_iff_lt, ge_iff_le, Int.not_lt, Int.not_le] at hc98
    refine c_skip (x_then (hK23 _ _ ?_))
    clear hK23 K23
    refine forget [(8, _)] ⟨rfl, trivial⟩ (fun e => ?_)
    refine c_seq (fun K26 hK26 => ?_)
    refine c_reg ?_ -- region 33 formm.go:432
    refine wl (ro_move rfl) ?_
    refine wl (ro_assign rfl) ?_
    refine wl_nil (x_then (hK26 _ _ ?_))
    clear hK26 K26
    refine c_ret ?_
    refine bp_ret Tryz.results138 rfl ?_
    refine ⟨?_, hF⟩
    rw [decide_eq_false (by omega)]
    rfl
set_option maxHeartbeats 4000000 in
theorem ar_step {n : List Nd} {f : Nat} (hA : AOK n) (hn : n.length ≤ 24) (hS1 : ShC n f) (hL1 : ArC n f) : ArC n (f + 1) := by
  intro k lo i nb arg w hsg hN
  have hF : Fram none' w w := Fram.refl _ _
  have hlen := tx_len hA hn hsg
  obtain ⟨x, hx, h9, hi1, ha, m, hmi, hs, hr⟩ := hsg
  have hi := (List.getElem?_eq_some_iff.1 hx).1
  have hxi := ndA_get hx
  have hac : x.a = ((i - 1 : Nat) : Int) := by omega
  have htx : txF n (f + 1) (i : Nat) = if x.b < 0 then txF n f x.a else txF n f x.b ++ 44 :: txF n f x.a := by
    conv => lhs; unfold txF
    rw [hxi, if_neg (by omega), if_neg (by omega), if_neg (by omega), if_pos h9]
  rw [hac] at htx
  generalize txF n (f + 1) (i : Nat) = Y at htx hlen ⊢
  refine ret_of Tryz.func181 rfl Tryz.ntmps181 rfl ?_
  refine c_seq (fun K1 hK1 => ?_)
  refine c_reg ?_ -- region 0 formm.go:386
  refine wl (ro_assign rfl) ?_
  refine wl_nil (x_then (hK1 _ _ ?_))
  clear hK1 K1
  refine forget [(0, _), (1, _)] ⟨rfl, rfl, trivial⟩ (fun e => ?_)
  refine c_seq (fun K2 hK2 => ?_)
  refine c_reg ?_ -- region 1 formm.go:387
  refine wl (ro_move rfl) ?_
  refine wl (ro_move rfl) ?_
  refine wl (ro_move rfl) ?_
  refine wl (ro_indexAddr (et := 143) (k := 13) rfl rfl se_78 rfl (by omega)) ?_
  refine wl (ro_fieldAddr (k := 2) rfl fo_143_2) ?_
  refine wl (ro_loadB rfl sc_3 (hN) ((rw_get ndc_len hx (j := 2) (by omega) (show _ = some (i64c (i - 1)) from congrArg some (congrArg icv hac))))) ?_
  refine wl_call rfl en_138 (hS1 _ _ 1 _ _ _ hs hN) ?_
  rintro _ u3 ⟨rfl, G3⟩
  rw [lvl_no (by omega), show brkT false (txF n f ((i - 1 : Nat) : Int)) = txF n f ((i - 1 : Nat) : Int) from rfl]
  replace hF := hF.transG G3 (by intro k hk h; simp only [none'] at h ⊢ <;> omega)
  replace hN := G3.blkF hN (by intro h; simp only [none'] at h <;> omega)
  refine wl (ro_assign rfl) ?_
  refine wl_nil (x_then (hK2 _ _ ?_))
  clear hK2 K2
  refine c_seq (fun K3 hK3 => ?_)
  refine c_seq (fun K4 hK4 => ?_)
  refine c_reg ?_ -- region 2 formm.go:388
  refine wl (ro_move rfl) ?_
  refine wl (ro_move rfl) ?_
  refine wl (ro_indexAddr (et := 143) (k := 13) rfl rfl se_78 rfl (by omega)) ?_
  refine wl (ro_fieldAddr (k := 3) rfl fo_143_3) ?_
  refine wl (ro_loadB rfl sc_3 (hN) ((rw_get ndc_len hx (j := 3) (by omega) rfl))) ?_
  refine wl (ro_cmp (r := decide (x.b < 0)) rfl rfl rfl) ?_
  refine wl_nil (x_then (hK4 _ _ ?_))
  clear hK4 K4
  refine wc_cond rfl (fun hc18 => ?_) (fun hc18 => ?_)
  · try simp only [decide_eq_true_eq, decide_eq_false_iff_not, Bool.not_eq_true', Bool.not_eq_false', Bool.not_eq_eq_eq_not, Bool.not_true, Bool.not_false, beq_iff_eq, bne_iff_ne, ne_eq, beq_eq_false_iff_ne, bne_eq_false_iff_eq, gt_iff_lt, ge_iff_le, Int.not_lt, Int.not_le] at hc18
    refine c_seq (fun K5 hK5 => ?_)
    refine c_reg ?_ -- region 3 formm.go:389
    refine wl (ro_move rfl) ?_
    refine wl (ro_assign rfl) ?_
    refine wl_nil (x_then (hK5 _ _ ?_))
    clear hK5 K5
    refine c_ret (x_thenR ?_)
    refine bp_ret Tryz.results181 rfl ?_
    exact ⟨by rw [htx, if_pos hc18], hF⟩
  · try simp only [decide_eq_true_eq, decide_eq_false_iff_not, Bool.not_eq_true', Bool.not_eq_false', Bool.not_eq_eq_eq_not, Bool.not_true, Bool.not_false, beq_iff_eq, bne_iff_ne, ne_eq, beq_eq_false_iff_ne, bne_eq_false_iff_eq, gt_iff_lt, ge_iff_le, Int.not_lt, Int.not_le] at hc18
    have hr' : 1 ≤ m ∧ x.b = (m : Int) - 1 ∧ SgF n f true (k - 1) lo (m - 1) arg := by
      rcases hr with ⟨-, h, -⟩ | ⟨-, h⟩
      · omega
      · exact h
    obtain ⟨hm1, hb, hs2⟩ := hr'
    have hbc : x.b = ((m - 1 : Nat) : Int) := by omega
    rw [if_neg (by omega), hbc] at htx
    have hYl := congrArg List.length htx
    rw [List.length_append, List.length_cons] at hYl
    refine c_skip (x_then (hK3 _ _ ?_))
    clear hK3 K3
    refine forget [(0, _), (1, _), (5, _)] ⟨rfl, rfl, rfl, trivial⟩ (fun e => ?_)
    refine c_seq (fun K6 hK6 => ?_)
    refine c_reg ?_ -- region 4 formm.go:391
    refine wl (ro_move rfl) ?_
    refine wl (ro_move rfl) ?_
    refine wl (ro_move rfl) ?_
    refine wl (ro_indexAddr (et := 143) (k := 13) rfl rfl se_78 rfl (by omega)) ?_
    refine wl (ro_fieldAddr (k := 3) rfl fo_143_3) ?_
    refine wl (ro_loadB rfl sc_3 (hN) ((rw_get ndc_len hx (j := 3) (by omega) (show _ = some (i64c (m - 1)) from congrArg some (congrArg icv hbc))))) ?_
    refine wl_call rfl en_181 (hL1 _ _ _ _ _ _ hs2 hN) ?_
    rintro _ u4 ⟨rfl, G4⟩
    replace hF := hF.transG G4 (by intro k hk h; simp only [none'] at h ⊢ <;> omega)
    replace hN := G4.blkF hN (by intro h; simp only [none'] at h <;> omega)
    refine wl (ro_catS (m := [44]) rfl rfl (by simp only [List.length_cons, List.length_nil]; omega)) ?_
    refine wl (ro_move rfl) ?_
    refine wl (ro_catS rfl rfl (by simp only [List.length_append, List.length_cons, List.length_nil]; omega)) ?_
    refine wl (ro_assign rfl) ?_
    refine wl_nil (x_then (hK6 _ _ ?_))
    clear hK6 K6
    refine c_ret ?_
    refine bp_ret Tryz.results181 rfl ?_
    exact ⟨by rw [htx, show txF n f ((m - 1 : Nat) : Int) ++ 44 :: txF n f ((i - 1 : Nat) : Int) = txF n f ((m - 1 : Nat) : Int) ++ [44] ++ txF n f ((i - 1 : Nat) : Int) by simp], hF⟩
theorem sh_all {n : List Nd} (hA : AOK n) (hn : n.length ≤ 24) : ∀ f, ShC n f ∧ ArC n f
  | 0 => ⟨fun _ _ _ _ _ _ h => h.elim, fun _ _ _ _ _ _ h => h.elim⟩
  | f + 1 => by
    obtain ⟨h1, h2⟩ := sh_all hA hn f
    exact ⟨sh_step hA hn h1 h2, ar_step hA hn h1 h2⟩
theorem Print105 {w : World} {fb : Nat} {n : List Nd} {nb : Nat} (hD : DoneOK n) (hA : AOK n) (hnb : nb ≠ fb) (hM : MFm w fb) (hN : Blk w.heap nb (rws ndc n) 143) :
    Ret Tryz.prog 105 [ptr fb, trV nb n] w (fun v w' => v = .tuple #[S (textF n), icv 0] ∧ MFm w' fb ∧ Fram (one fb) w w') := by
  have hF : Fram (one fb) w w := Fram.refl _ _
  obtain ⟨hn1, hn24, f, hsg⟩ := id hD
  have hsg' := sg_fuel _ _ _ _ _ _ hsg
  rw [show n.length - 1 + 1 = n.length by omega] at hsg'
  obtain ⟨a, b, l, hB⟩ := hM
  have hm1 : one fb fb := rfl
  refine ret_of Tryz.func105 rfl Tryz.ntmps105 rfl ?_
  refine c_seq (fun K1 hK1 => ?_)
  refine c_reg ?_ -- region 0 formm.go:435
  refine wl_box (cs := [sl nb n.length, i64c (n.length - 1), icv 0, icv 0]) rfl rfl (fun b3 w1 hbb3 h3 F1 => ?_)
  have hbsb3 := Nat.le_trans hF.size hbb3
  have hnenbb3 : nb < b3 := Nat.lt_of_lt_of_le hN.lt hbb3
  have hnefbb3 : fb < b3 := Nat.lt_of_lt_of_le hB.lt hbb3
  replace hF := hF.thenDrew.thenN F1
  replace hN := F1.blkN hN
  replace hB := F1.blkN hB
  refine wl (ro_assign rfl) ?_
  refine wl (ro_assign rfl) ?_
  refine wl_nil (x_then (hK1 _ _ ?_))
  clear hK1 K1
  refine forget [(0, _), (3, _)] ⟨rfl, rfl, trivial⟩ (fun e => ?_)
  refine c_seq (fun K2 hK2 => ?_)
  refine c_reg ?_ -- region 1 formm.go:436
  refine wl (ro_move rfl) ?_
  refine wl (ro_nilCheck rfl) ?_
  refine wl (ro_fieldAddr (k := 1) rfl fo_125_1) ?_
  refine wl (ro_loadB rfl sc_3 (by assumption) rfl) ?_
  refine wl (ro_arithW rfl rfl rfl) ?_
  refine wl (ro_nilCheck rfl) ?_
  refine wl (ro_fieldAddr (k := 1) rfl fo_125_1) ?_
  refine wl_put rfl rfl rfl sz_3 hB ((by simp)) ((show _ = [icv a, icv (IntKind.i64.wrap (b + 1)), S l] from rfl)) (fun w2 hB F2 => ?_)
  replace hF := hF.thenDrew.thenO F2 (by first | exact .inr (by omega) | exact .inl rfl | exact .inl (by assumption))
  replace hN := F2.blkO hN (by omega)
  replace h3 := F2.blkO h3 (by omega)
  refine wl_nil (x_then (hK2 _ _ ?_))
  clear hK2 K2
  refine c_seq (fun K3 hK3 => ?_)
  refine c_seq (fun K4 hK4 => ?_)
  refine c_reg ?_ -- region 2 formm.go:437
  refine wl (ro_fieldAddr (k := 0) rfl fo_113_0) ?_
  refine wl (ro_loadB rfl sc_78 (by assumption) rfl) ?_
  refine wl (ro_lenL rfl se_78) ?_
  refine wl (ro_cmp (r := false) rfl rfl (congrArg some (decide_eq_false (by omega)))) ?_
  refine wl_nil (x_then (hK4 _ _ ?_))
  clear hK4 K4
  refine wc_condF rfl ?_
  refine c_skip (x_then (hK3 _ _ ?_))
  clear hK3 K3
  refine c_seq (fun K5 hK5 => ?_)
  refine c_seq (fun K6 hK6 => ?_)
  refine c_reg ?_ -- region 4 formm.go:440
  refine wl (ro_loadAggB rfl ag_113 (h3) (rfl) (rfl)) ?_
  refine wl_call rfl en_129 (TreeOK129 hA hD hN) ?_
  rintro _ u1 ⟨rfl, G1⟩
  replace hF := hF.transG G1 (by intro k hk h; simp only [none', one] at h ⊢ <;> omega)
  replace hN := G1.blkF hN (by intro h; simp only [none', one] at h <;> omega)
  replace hB := G1.blkF hB (by intro h; simp only [none', one] at h <;> omega)
  replace h3 := G1.blkF h3 (by intro h; simp only [none', one] at h <;> omega)
  refine wl (ro_not rfl) ?_
  refine wl_nil (x_then (hK6 _ _ ?_))
  clear hK6 K6
  refine wc_condF rfl ?_
  refine c_skip (x_then (hK5 _ _ ?_))
  clear hK5 K5
  refine forget [(3, _)] ⟨rfl, trivial⟩ (fun e => ?_)
  refine c_seq (fun K7 hK7 => ?_)
  refine c_reg ?_ -- region 6 formm.go:443
  refine wl (ro_fieldAddr (k := 0) rfl fo_113_0) ?_
  refine wl (ro_loadB rfl sc_78 (by assumption) rfl) ?_
  refine wl (ro_fieldAddr (k := 1) rfl fo_113_1) ?_
  refine wl (ro_loadB rfl sc_3 (by assumption) rfl) ?_
  refine wl_call rfl en_138 ((sh_all hA hn24 n.length).1 _ _ 1 _ _ _ hsg' hN) ?_
  rintro _ u2 ⟨rfl, G2⟩
  rw [lvl_no (by omega), show brkT false (txF n n.length ((n.length - 1 : Nat) : Int)) = textF n from rfl]
  replace hF := hF.transG G2 (by intro k hk h; simp only [none', one] at h ⊢ <;> omega)
  replace hN := G2.blkF hN (by intro h; simp only [none', one] at h <;> omega)
  replace hB := G2.blkF hB (by intro h; simp only [none', one] at h <;> omega)
  replace h3 := G2.blkF h3 (by intro h; simp only [none', one] at h <;> omega)
  refine wl (ro_assign rfl) ?_
  refine wl (ro_assign rfl) ?_
  refine wl_nil (x_then (hK7 _ _ ?_))
  clear hK7 K7
  refine c_ret ?_
  refine bp_ret Tryz.results105 rfl ?_
  exact ⟨rfl, ⟨_, _, _, hB⟩, hF⟩

end Go.Proofs.Qxb6500570aGreat
