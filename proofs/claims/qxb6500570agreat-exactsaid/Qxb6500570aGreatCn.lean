import Derived.Test.Qxb6500570aGreatCm
/- The model's reader: atoms. -/
namespace Go.Proofs.Qxb6500570aGreat
set_option linter.unusedVariables false
set_option linter.unusedSimpArgs false

theorem sgn_oth {c d : UInt8} (h35 : c ≠ 35) (h40 : c ≠ 40) (h45 : c ≠ 45) : (sgnT c d).1.k ≠ 2 ∧ (sgnT c d).1.k ≠ 4 ∧ (sgnT c d).1.k ≠ 5 ∧ (sgnT c d).1.k ≠ 40 ∧ ¬ ((sgnT c d).1.k = 6 ∧ (sgnT c d).1.n = 8) := by
  unfold sgnT
  split
  · rename_i h
    rcases h with rfl | rfl | rfl | rfl
    · exact absurd rfl h40
    all_goals decide
  · split
    · decide
    · repeat' split
      all_goals first | exact absurd (by assumption) h35 | exact absurd (by assumption) h45 | decide
theorem sgn35 (d : UInt8) : sgnT 35 d = if d = 35 then (⟨2, 5, 0, zR⟩, 2) else (⟨3, 0, 2, zR⟩, 1) := rfl
theorem at_err {rg : Bool} {t : Tk} {ts : List Tk} {ar : List Nd} (hk : t.k = 3) : AtF rg (t :: ts) ar := at_bad (show t.k ≠ 2 by omega) (show t.k ≠ 4 by omega) (show t.k ≠ 5 by omega) (show t.k ≠ 40 by omega) (fun h => absurd (show t.k = 6 from h.1) (by omega))

set_option maxHeartbeats 16000000 in
theorem at_step {n : Nat} (hE : ∀ m, n = m + 1 → ExC m) : AtC n := by
  intro w pb n0 s p ar bad rg h hn h45
  have hF : Fram (fre n0) w w := Fram.refl _ _
  have hlg := lk_ge s p
  have hn0 : n0 ≤ pb := by obtain ⟨V, er, at', M, _⟩ := h; exact M.lo
  have hm : fre n0 pb := hn0
  have hs40 : s.length ≤ 40 := by obtain ⟨V, er, at', M, _⟩ := h; exact M.sl40
  refine ret_of Tryz.func218 rfl Tryz.ntmps218 rfl ?_
  refine c_seq (fun K1 hK1 => ?_)
  refine c_reg ?_ -- region 0 formm.go:195
  refine wl (ro_assign rfl) ?_
  refine wl_nil (x_then (hK1 _ _ ?_))
  clear hK1 K1
  refine forget [(0, _), (1, _)] ⟨rfl, rfl, trivial⟩ (fun e => ?_)
  refine c_seq (fun K2 hK2 => ?_)
  refine c_reg ?_ -- region 1 formm.go:196
  refine wl (ro_move rfl) ?_
  refine wl_call rfl en_132 (lookM h) ?_
  rintro _ u1 ⟨rfl, M1, G1⟩
  replace hF := hF.transG G1 (by intro k hk h; simp only [one, none', fre] at h ⊢ <;> omega)
  generalize hcc : (lkc s p bad).1 = c at h45
  refine wl (ro_assign rfl) ?_
  refine wl_nil (x_then (hK2 _ _ ?_))
  clear hK2 K2
  refine c_mid (fun a' w' => w' = u1 ∧ ¬ (48 ≤ c.toNat ∧ c.toNat ≤ 57) ∧ ∃ e, a' = Fr 187 (upds e [(0, ptr pb), (1, .bool rg), (5, u8c c)]) []) ?_ ?_
  · skip
    refine c_seq (fun K3 hK3 => ?_)
    have hq : (48 ≤ c.toNat ∧ c.toNat ≤ 57) ∨ c.toNat < 48 ∨ 57 < c.toNat := by omega
    rcases hq with q | q | q
    · skip
      refine c_reg ?_ -- region 2 formm.go:197
      refine wl (ro_move rfl) ?_
      refine wl (ro_cmp (r := true) rfl rfl (congrArg some (decide_eq_true (by omega)))) ?_
      refine wl (ro_move rfl) ?_
      refine wlg_yes rfl (ro_move rfl) ?_
      refine wlg_yes rfl (ro_cmp (r := true) rfl rfl (congrArg some (decide_eq_true (by omega)))) ?_
      refine wl (ro_pick rfl rfl rfl) ?_
      refine wl_nil (x_then (hK3 _ _ ?_))
      clear hK3 K3
      refine wc_condT rfl ?_
      refine c_seq (fun K4 hK4 => ?_)
      have hc0 : c ≠ 0 := by rintro rfl; simp at q
      obtain ⟨rfl, hb6, hs6, hc32, hts⟩ := lk_sees hcc hc0
      have hdc0 : dg c = true := dg_iff.2 q
      rw [tkw_dg hs6 hdc0] at hts
      rw [hb6] at M1
      obtain ⟨V, er, at', M, hbb⟩ := M1
      have hB := M.blk
      have hsl6 := (List.getElem?_eq_some_iff.1 hs6).1
      have hDp : 1 ≤ ((s.drop (lk s p)).takeWhile dg).length := by rw [drop_get hs6]; exact tw_pos hdc0
      generalize hqe : lk s p = i at *
      generalize hD : (s.drop i).takeWhile dg = D at *
      have hDl : D.length ≤ s.length - i := by rw [← hD, ← List.length_drop]; exact tw_le _ _
      have hDa : ∀ c ∈ D, dg c = true := by rw [← hD]; exact tw_all
      refine c_reg ?_ -- region 3 formm.go:198
      refine wl (ro_move rfl) ?_
      refine wl (ro_nilCheck rfl) ?_
      refine wl (ro_fieldAddr (k := 1) rfl fo_168_1) ?_
      refine wl (ro_loadB rfl sc_3 (hB) (rfl)) ?_
      refine wl (ro_assign rfl) ?_
      refine wl (ro_assign rfl) ?_
      refine wl_nil (x_then (hK4 _ _ ?_))
      clear hK4 K4
      refine forget [(0, _), (6, _), (7, _)] ⟨rfl, rfl, rfl, trivial⟩ (fun e => ?_)
      refine c_seq (fun K5 hK5 => ?_)
      refine c_block ?_
      -- loop@r4: live slots [0, 6, 7]
      refine c_loopG (fun m a' w' => ∃ k, m = D.length - k ∧ k ≤ D.length ∧ MRV w' pb n0 s (i + k) ar V er at' ∧ Fram (fre n0) w w' ∧ ∃ e, a' = Fr 187 (upds e [(0, ptr pb), (6, i64c i), (7, i64c (numF (D.take (min k 9))))]) []) D.length ⟨0, rfl, by omega, M, hF, kp _ ⟨rfl, rfl, rfl, trivial⟩⟩ ?_
      clear hB hF M
      rintro m a' u3 ⟨k, rfl, hk, M, hF, e, rfl⟩
      have hB := M.blk
      refine c_seq (fun K6 hK6 => ?_)
      refine c_seq (fun K7 hK7 => ?_)
      have hcase : (k < D.length ∧ ∃ c, s[i + k]? = some c ∧ 48 ≤ c.toNat ∧ c.toNat ≤ 57 ∧ D[k]? = some c) ∨ (k = D.length ∧ ∃ c, s[i + k]? = some c ∧ c.toNat < 48) ∨ (k = D.length ∧ ∃ c, s[i + k]? = some c ∧ 57 < c.toNat) ∨ (k = D.length ∧ i + k = s.length) := by
        rcases Nat.lt_or_ge k D.length with h | h
        · left
          obtain ⟨c, h1, h2, h3⟩ := tw_lt (f := dg) (u := s.drop i) (k := k) (by rw [hD]; exact h)
          rw [List.getElem?_drop] at h1
          rw [hD] at h3
          exact ⟨h, c, h1, (dg_iff.1 h2).1, (dg_iff.1 h2).2, h3⟩
        · right
          have hkD : k = D.length := by omega
          cases hc : s[i + k]? with
          | none => right; right; exact ⟨hkD, by have := List.getElem?_eq_none_iff.1 hc; omega⟩
          | some c =>
            have := dg_not.1 (tw_end (f := dg) (u := s.drop i) (c := c) (by rw [hD, ← hkD, List.getElem?_drop]; exact hc))
            by_cases h48 : c.toNat < 48
            · exact .inl ⟨hkD, c, rfl, h48⟩
            · exact .inr (.inl ⟨hkD, c, rfl, by omega⟩)
      rcases hcase with ⟨hlt, x, hc, hd1, hd2, hDk⟩ | ⟨hkD, x, hc, hd1⟩ | ⟨hkD, x, hc, hd1⟩ | ⟨hkD, hend⟩
      · skip
        have hil : i + k < s.length := (List.getElem?_eq_some_iff.1 hc).1
        refine c_pi [(0, false), (1, false), (2, false), (3, false), (4, false), (5, false), (6, false), (7, false), (8, false), (9, false), (10, false), (11, false), (12, false), (13, false), (14, false), (15, false), (16, false), (17, false), (18, false), (19, false), (20, false), (21, false), (22, false), (23, false), (24, false), (25, false), (26, false), (27, false), (28, false), (29, false), (30, false), (31, false), (32, false), (33, false)] (SameH _) mixed (by kernel_rfl) rfl (by kernel_rfl) (po_then (po_then (po_then (po_blk (po_then (po_then (po_bp))))))) (sameH_now _ _) ?_ -- region 4 formm.go:199
        refine pi_ro rfl (fun w hS => ro_move rfl) ?_
        refine pi_ro rfl (fun w hS => ro_nilCheck rfl) ?_
        refine pi_ro rfl (fun w hS => ro_fieldAddr (k := 1) rfl fo_168_1) ?_
        refine pi_ro rfl (fun w hS => ro_loadB rfl sc_3 (Blk.of_heap hB hS) (rfl)) ?_
        refine pi_ro rfl (fun w hS => ro_move rfl) ?_
        refine pi_ro rfl (fun w hS => ro_nilCheck rfl) ?_
        refine pi_ro rfl (fun w hS => ro_fieldAddr (k := 0) rfl fo_168_0) ?_
        refine pi_ro rfl (fun w hS => ro_loadB rfl sc_9 (Blk.of_heap hB hS) (rfl)) ?_
        refine pi_ro rfl (fun w hS => ro_lenS rfl st_9) ?_
        refine pi_ro rfl (fun w hS => ro_cmp (r := true) rfl rfl (congrArg some (decide_eq_true (by show ((i + k : Nat) : Int) < (s.length : Int); omega)))) ?_
        refine pi_ro rfl (fun w hS => ro_move rfl) ?_
        refine pi_gyes rfl rfl (fun w hS => ro_move rfl) ?_
        refine pi_gyes rfl rfl (fun w hS => ro_nilCheck rfl) ?_
        refine pi_gyes rfl rfl (fun w hS => ro_fieldAddr (k := 0) rfl fo_168_0) ?_
        refine pi_gyes rfl rfl (fun w hS => ro_loadB rfl sc_9 (Blk.of_heap hB hS) (rfl)) ?_
        refine pi_gyes rfl rfl (fun w hS => ro_move rfl) ?_
        refine pi_gyes rfl rfl (fun w hS => ro_nilCheck rfl) ?_
        refine pi_gyes rfl rfl (fun w hS => ro_fieldAddr (k := 1) rfl fo_168_1) ?_
        refine pi_gyes rfl rfl (fun w hS => ro_loadB rfl sc_3 (Blk.of_heap hB hS) (rfl)) ?_
        refine pi_gyes rfl rfl (fun w hS => ro_indexS rfl rfl st_9 rfl (hc)) ?_
        refine pi_gyes rfl rfl (fun w hS => ro_cmp (r := true) rfl rfl (congrArg some (decide_eq_true (by omega)))) ?_
        refine pi_ro rfl (fun w hS => ro_pick rfl rfl rfl) ?_
        refine pi_ro rfl (fun w hS => ro_move rfl) ?_
        refine pi_gyes rfl rfl (fun w hS => ro_move rfl) ?_
        refine pi_gyes rfl rfl (fun w hS => ro_nilCheck rfl) ?_
        refine pi_gyes rfl rfl (fun w hS => ro_fieldAddr (k := 0) rfl fo_168_0) ?_
        refine pi_gyes rfl rfl (fun w hS => ro_loadB rfl sc_9 (Blk.of_heap hB hS) (rfl)) ?_
        refine pi_gyes rfl rfl (fun w hS => ro_move rfl) ?_
        refine pi_gyes rfl rfl (fun w hS => ro_nilCheck rfl) ?_
        refine pi_gyes rfl rfl (fun w hS => ro_fieldAddr (k := 1) rfl fo_168_1) ?_
        refine pi_gyes rfl rfl (fun w hS => ro_loadB rfl sc_3 (Blk.of_heap hB hS) (rfl)) ?_
        refine pi_gyes rfl rfl (fun w hS => ro_indexS rfl rfl st_9 rfl (hc)) ?_
        refine pi_gyes rfl rfl (fun w hS => ro_cmp (r := true) rfl rfl (congrArg some (decide_eq_true (by omega)))) ?_
        refine pi_ro rfl (fun w hS => ro_pick rfl rfl rfl) ?_
        refine pi_nil (x_then (hK7 _ _ ?_))
        clear hK7 K7
        refine wc_condT rfl ?_
        refine c_skip (x_then (hK6 _ _ ?_))
        clear hK6 K6
        refine c_block ?_
        refine c_seq (fun K8 hK8 => ?_)
        refine c_seq (fun K9 hK9 => ?_)
        refine c_reg ?_ -- region 5 formm.go:200
        refine wl (ro_move rfl) ?_
        refine wl (ro_nilCheck rfl) ?_
        refine wl (ro_fieldAddr (k := 1) rfl fo_168_1) ?_
        refine wl (ro_loadB rfl sc_3 (hB) (rfl)) ?_
        refine wl (ro_move rfl) ?_
        refine wl (ro_arith (r := (k : Int)) rfl rfl (congrArg some (by show ((i + k : Nat) : Int) - (i : Int) = k; omega)) (Go.IntWalk.i64_in _ (by omega))) ?_
        refine wl (ro_cmp (r := decide (k < 9)) rfl rfl (congrArg some (decide_eq_decide.2 (by omega)))) ?_
        refine wl_nil (x_then (hK9 _ _ ?_))
        clear hK9 K9
        refine wc_cond rfl (fun hc61 => ?_) (fun hc61 => ?_)
        · try simp only [decide_eq_true_eq, decide_eq_false_iff_not, Bool.not_eq_true', Bool.not_eq_false', Bool.not_eq_eq_eq_not, Bool.not_true, Bool.not_false, beq_iff_eq, bne_iff_ne, ne_eq, beq_eq_false_iff_ne, bne_eq_false_iff_eq, gt_iff_lt, ge_iff_le, Int.not_lt, Int.not_le] at hc61
          have hnf : numF (D.take (min (k + 1) 9)) = numF (D.take (min k 9)) * 10 + dv x := by
            rw [show min (k + 1) 9 = k + 1 by omega, show min k 9 = k by omega, take_snocG hDk, numF_snoc]
          have hb1 := numF_all (d := D) (min (k + 1) 9) hDa (by omega)
          refine c_pi [(0, false), (1, false), (2, false), (3, false), (4, false), (5, false), (6, false), (7, false), (8, false), (9, false), (10, false), (11, false), (12, false), (13, false), (14, false)] (SameH _) mixed (by kernel_rfl) rfl (by kernel_rfl) (po_then (po_blk (po_then (po_blk (po_then (po_then (po_bp))))))) (sameH_now _ _) ?_ -- region 6 formm.go:201
          refine pi_ro rfl (fun w hS => ro_move rfl) ?_
          refine pi_ro rfl (fun w hS => ro_arith (r := ((numF (D.take (min k 9)) * 10 : Nat) : Int)) rfl rfl (congrArg some (by show ((numF (D.take (min k 9)) : Nat) : Int) * 10 = ((numF (D.take (min k 9)) * 10 : Nat) : Int); omega)) (Go.IntWalk.i64_in _ (by omega))) ?_
          refine pi_ro rfl (fun w hS => ro_move rfl) ?_
          refine pi_ro rfl (fun w hS => ro_nilCheck rfl) ?_
          refine pi_ro rfl (fun w hS => ro_fieldAddr (k := 0) rfl fo_168_0) ?_
          refine pi_ro rfl (fun w hS => ro_loadB rfl sc_9 (Blk.of_heap hB hS) (rfl)) ?_
          refine pi_ro rfl (fun w hS => ro_move rfl) ?_
          refine pi_ro rfl (fun w hS => ro_nilCheck rfl) ?_
          refine pi_ro rfl (fun w hS => ro_fieldAddr (k := 1) rfl fo_168_1) ?_
          refine pi_ro rfl (fun w hS => ro_loadB rfl sc_3 (Blk.of_heap hB hS) (rfl)) ?_
          refine pi_ro rfl (fun w hS => ro_indexS rfl rfl st_9 rfl (hc)) ?_
          refine pi_ro rfl (fun w hS => ro_arith (r := ((dv x : Nat) : Int)) rfl rfl (congrArg some (by unfold dv; show ((x.toNat : Int)) - 48 = _; omega)) (Go.IntWalk.u8_in _ (by unfold dv; omega))) ?_
          refine pi_ro rfl (fun w hS => ro_conv rfl sc_5 in_3 (Go.IntWalk.i64_in _ (by unfold dv; omega))) ?_
          refine pi_ro rfl (fun w hS => ro_arith (r := ((numF (D.take (min (k + 1) 9)) : Nat) : Int)) rfl rfl (congrArg some (by rw [hnf]; omega)) (Go.IntWalk.i64_in _ (by omega))) ?_
          refine pi_ro rfl (fun w hS => ro_assign rfl) ?_
          refine pi_nil (x_then (hK8 _ _ ?_))
          clear hK8 K8
          refine c_reg ?_ -- region 7 formm.go:203
          refine wl (ro_move rfl) ?_
          refine wl (ro_nilCheck rfl) ?_
          refine wl (ro_fieldAddr (k := 1) rfl fo_168_1) ?_
          refine wl (ro_loadB rfl sc_3 (hB) (rfl)) ?_
          refine wl (ro_arith (r := ((i + (k + 1) : Nat) : Int)) rfl rfl (congrArg some (by omega)) (Go.IntWalk.i64_in _ (by omega))) ?_
          refine wl (ro_nilCheck rfl) ?_
          refine wl (ro_fieldAddr (k := 1) rfl fo_168_1) ?_
          refine wl_put rfl rfl rfl sz_3 hB ((by simp)) ((show _ = rdl s (i + (k + 1)) V er at' from rfl)) (fun w1 hB F1 => ?_)
          replace hF := hF.thenDrew.thenO F1 (by first | exact .inr (by omega) | exact .inl rfl | exact .inl (by assumption))
          have M2 := (by first | exact M.look hB F1 (show i + (k + 1) ≤ s.length by omega) | exact M.drew.look hB F1 (show i + (k + 1) ≤ s.length by omega) | exact M.drew.drew.look hB F1 (show i + (k + 1) ≤ s.length by omega) : MRV _ pb n0 s (i + (k + 1)) ar V er at')
          refine wl_nil (x_blk (x_then ?_))
          refine ⟨D.length - (k + 1), by omega, k + 1, rfl, by omega, M2, hF, ?_⟩
          first
            | exact kp _ ⟨rfl, rfl, rfl, trivial⟩
            | exact kp _ ⟨rfl, rfl, by rw [hnf]; rfl, trivial⟩
        · try simp only [decide_eq_true_eq, decide_eq_false_iff_not, Bool.not_eq_true', Bool.not_eq_false', Bool.not_eq_eq_eq_not, Bool.not_true, Bool.not_false, beq_iff_eq, bne_iff_ne, ne_eq, beq_eq_false_iff_ne, bne_eq_false_iff_eq, gt_iff_lt, ge_iff_le, Int.not_lt, Int.not_le] at hc61
          have hnf : numF (D.take (min (k + 1) 9)) = numF (D.take (min k 9)) := by rw [show min (k + 1) 9 = 9 by omega, show min k 9 = 9 by omega]
          refine c_skip (x_then (hK8 _ _ ?_))
          clear hK8 K8
          refine c_reg ?_ -- region 7 formm.go:203
          refine wl (ro_move rfl) ?_
          refine wl (ro_nilCheck rfl) ?_
          refine wl (ro_fieldAddr (k := 1) rfl fo_168_1) ?_
          refine wl (ro_loadB rfl sc_3 (hB) (rfl)) ?_
          refine wl (ro_arith (r := ((i + (k + 1) : Nat) : Int)) rfl rfl (congrArg some (by omega)) (Go.IntWalk.i64_in _ (by omega))) ?_
          refine wl (ro_nilCheck rfl) ?_
          refine wl (ro_fieldAddr (k := 1) rfl fo_168_1) ?_
          refine wl_put rfl rfl rfl sz_3 hB ((by simp)) ((show _ = rdl s (i + (k + 1)) V er at' from rfl)) (fun w2 hB F2 => ?_)
          replace hF := hF.thenDrew.thenO F2 (by first | exact .inr (by omega) | exact .inl rfl | exact .inl (by assumption))
          have M2 := (by first | exact M.look hB F2 (show i + (k + 1) ≤ s.length by omega) | exact M.drew.look hB F2 (show i + (k + 1) ≤ s.length by omega) | exact M.drew.drew.look hB F2 (show i + (k + 1) ≤ s.length by omega) : MRV _ pb n0 s (i + (k + 1)) ar V er at')
          refine wl_nil (x_blk (x_then ?_))
          refine ⟨D.length - (k + 1), by omega, k + 1, rfl, by omega, M2, hF, ?_⟩
          first
            | exact kp _ ⟨rfl, rfl, rfl, trivial⟩
            | exact kp _ ⟨rfl, rfl, by rw [hnf]; rfl, trivial⟩
      · skip
        have hil : i + k < s.length := (List.getElem?_eq_some_iff.1 hc).1
        refine c_pi [(0, false), (1, false), (2, false), (3, false), (4, false), (5, false), (6, false), (7, false), (8, false), (9, false), (10, false), (11, false), (12, false), (13, false), (14, false), (15, false), (16, false), (17, false), (18, false), (19, false), (20, false), (21, false), (22, false), (23, false), (24, false), (25, false), (26, false), (27, false), (28, false), (29, false), (30, false), (31, false), (32, false), (33, false)] (SameH _) mixed (by kernel_rfl) rfl (by kernel_rfl) (po_then (po_then (po_then (po_blk (po_then (po_then (po_bp))))))) (sameH_now _ _) ?_ -- region 4 formm.go:199
        refine pi_ro rfl (fun w hS => ro_move rfl) ?_
        refine pi_ro rfl (fun w hS => ro_nilCheck rfl) ?_
        refine pi_ro rfl (fun w hS => ro_fieldAddr (k := 1) rfl fo_168_1) ?_
        refine pi_ro rfl (fun w hS => ro_loadB rfl sc_3 (Blk.of_heap hB hS) (rfl)) ?_
        refine pi_ro rfl (fun w hS => ro_move rfl) ?_
        refine pi_ro rfl (fun w hS => ro_nilCheck rfl) ?_
        refine pi_ro rfl (fun w hS => ro_fieldAddr (k := 0) rfl fo_168_0) ?_
        refine pi_ro rfl (fun w hS => ro_loadB rfl sc_9 (Blk.of_heap hB hS) (rfl)) ?_
        refine pi_ro rfl (fun w hS => ro_lenS rfl st_9) ?_
        refine pi_ro rfl (fun w hS => ro_cmp (r := true) rfl rfl (congrArg some (decide_eq_true (by show ((i + k : Nat) : Int) < (s.length : Int); omega)))) ?_
        refine pi_ro rfl (fun w hS => ro_move rfl) ?_
        refine pi_gyes rfl rfl (fun w hS => ro_move rfl) ?_
        refine pi_gyes rfl rfl (fun w hS => ro_nilCheck rfl) ?_
        refine pi_gyes rfl rfl (fun w hS => ro_fieldAddr (k := 0) rfl fo_168_0) ?_
        refine pi_gyes rfl rfl (fun w hS => ro_loadB rfl sc_9 (Blk.of_heap hB hS) (rfl)) ?_
        refine pi_gyes rfl rfl (fun w hS => ro_move rfl) ?_
        refine pi_gyes rfl rfl (fun w hS => ro_nilCheck rfl) ?_
        refine pi_gyes rfl rfl (fun w hS => ro_fieldAddr (k := 1) rfl fo_168_1) ?_
        refine pi_gyes rfl rfl (fun w hS => ro_loadB rfl sc_3 (Blk.of_heap hB hS) (rfl)) ?_
        refine pi_gyes rfl rfl (fun w hS => ro_indexS rfl rfl st_9 rfl (hc)) ?_
        refine pi_gyes rfl rfl (fun w hS => ro_cmp (r := false) rfl rfl (congrArg some (decide_eq_false (by omega)))) ?_
        refine pi_ro rfl (fun w hS => ro_pick rfl rfl rfl) ?_
        refine pi_ro rfl (fun w hS => ro_move rfl) ?_
        refine pi_gno rfl rfl ?_
        refine pi_gno rfl rfl ?_
        refine pi_gno rfl rfl ?_
        refine pi_gno rfl rfl ?_
        refine pi_gno rfl rfl ?_
        refine pi_gno rfl rfl ?_
        refine pi_gno rfl rfl ?_
        refine pi_gno rfl rfl ?_
        refine pi_gno rfl rfl ?_
        refine pi_gno rfl rfl ?_
        refine pi_ro rfl (fun w hS => ro_pick rfl rfl rfl) ?_
        refine pi_nil (x_then (hK7 _ _ ?_))
        clear hK7 K7
        refine wc_condF rfl ?_
        refine c_exit (x_thenX (x_thenX (x_blkX (x_then (hK5 _ _ ?_)))))
        clear hK6 K6 hK5 K5
        refine c_seq (fun K10 hK10 => ?_)
        refine c_seq (fun K11 hK11 => ?_)
        subst hkD
        refine c_reg ?_ -- region 8 formm.go:205
        refine wl (ro_move rfl) ?_
        refine wl (ro_nilCheck rfl) ?_
        refine wl (ro_fieldAddr (k := 1) rfl fo_168_1) ?_
        refine wl (ro_loadB rfl sc_3 (hB) (rfl)) ?_
        refine wl (ro_move rfl) ?_
        refine wl (ro_arith (r := (D.length : Int)) rfl rfl (congrArg some (by show ((i + D.length : Nat) : Int) - (i : Int) = D.length; omega)) (Go.IntWalk.i64_in _ (by omega))) ?_
        refine wl (ro_cmp (r := decide (9 < D.length)) rfl rfl (congrArg some (decide_eq_decide.2 (by omega)))) ?_
        refine wl_nil (x_then (hK11 _ _ ?_))
        clear hK11 K11
        refine wc_cond rfl (fun hc89 => ?_) (fun hc89 => ?_)
        · try simp only [decide_eq_true_eq, decide_eq_false_iff_not, Bool.not_eq_true', Bool.not_eq_false', Bool.not_eq_eq_eq_not, Bool.not_true, Bool.not_false, beq_iff_eq, bne_iff_ne, ne_eq, beq_eq_false_iff_ne, bne_eq_false_iff_eq, gt_iff_lt, ge_iff_le, Int.not_lt, Int.not_le] at hc89
          have hres : numT D = ⟨3, 1, 4, zR⟩ := by unfold numT; rw [if_pos hc89]
          refine c_seq (fun K12 hK12 => ?_)
          refine c_reg ?_ -- region 9 formm.go:206
          refine wl (ro_move rfl) ?_
          refine wl (ro_move rfl) ?_
          refine wl_call rfl en_133 (failM (x := 4) (by decide) ⟨V, er, at', M.drew, hbb⟩) ?_
          rintro _ u5 ⟨rfl, M5, G5⟩
          replace hF := hF.transG G5 (by intro k hk h; simp only [one, none', fre] at h ⊢ <;> omega)
          refine wl (ro_assign rfl) ?_
          refine wl_nil (x_then (hK12 _ _ ?_))
          clear hK12 K12
          refine c_ret (x_thenR (x_thenR ?_))
          refine bp_ret Tryz.results218 rfl ?_
          refine ⟨?_, hF⟩
          replace hts : tsA s p = numT D :: tsA s (i + D.length) := hts
          rw [hres] at hts
          first
            | exact .inl ⟨_, _, _, rfl, M5, .inr (by rw [hts]; exact at_err rfl)⟩
            | (by_cases h24 : ar.length < 24
               · rw [addX_lt h24] at M5 ⊢
                 exact .inr ⟨_, _, rfl, by rw [rt_app]; rfl, M5, by omega, by simp, by rw [hts]; exact at_leafO (t := ⟨2, 1, _, zR⟩) rfl h24⟩
               · rw [addX_ge h24] at M5 ⊢
                 exact .inl ⟨_, _, _, rfl, M5, .inr (by rw [hts]; exact at_leafF (t := ⟨2, 1, _, zR⟩) rfl h24)⟩)
        · try simp only [decide_eq_true_eq, decide_eq_false_iff_not, Bool.not_eq_true', Bool.not_eq_false', Bool.not_eq_eq_eq_not, Bool.not_true, Bool.not_false, beq_iff_eq, bne_iff_ne, ne_eq, beq_eq_false_iff_ne, bne_eq_false_iff_eq, gt_iff_lt, ge_iff_le, Int.not_lt, Int.not_le] at hc89
          have hres : numT D = ⟨2, 1, numF (D.take (min D.length 9)), zR⟩ := by unfold numT; rw [if_neg (by omega), show min D.length 9 = D.length by omega, List.take_length]
          refine c_skip (x_then (hK10 _ _ ?_))
          clear hK10 K10
          refine forget [(0, _), (7, _)] ⟨rfl, rfl, trivial⟩ (fun e => ?_)
          refine c_seq (fun K13 hK13 => ?_)
          refine c_reg ?_ -- region 10 formm.go:208
          refine wl (ro_move rfl) ?_
          refine wl (ro_move rfl) ?_
          refine wl (ro_build rfl bld_143_0_2_3_4) ?_
          refine wl_call rfl en_175 (add175 (x := nLeaf 1 (numF (D.take (min D.length 9)))) ⟨V, er, at', M.drew, hbb⟩) ?_
          rintro _ u5 ⟨rfl, M5, G5⟩
          replace hF := hF.transG G5 (by intro k hk h; simp only [one, none', fre] at h ⊢ <;> omega)
          refine wl (ro_assign rfl) ?_
          refine wl_nil (x_then (hK13 _ _ ?_))
          clear hK13 K13
          refine c_ret (x_thenR ?_)
          refine bp_ret Tryz.results218 rfl ?_
          refine ⟨?_, hF⟩
          replace hts : tsA s p = numT D :: tsA s (i + D.length) := hts
          rw [hres] at hts
          first
            | exact .inl ⟨_, _, _, rfl, M5, .inr (by rw [hts]; exact at_err rfl)⟩
            | (by_cases h24 : ar.length < 24
               · rw [addX_lt h24] at M5 ⊢
                 exact .inr ⟨_, _, rfl, by rw [rt_app]; rfl, M5, by omega, by simp, by rw [hts]; exact at_leafO (t := ⟨2, 1, _, zR⟩) rfl h24⟩
               · rw [addX_ge h24] at M5 ⊢
                 exact .inl ⟨_, _, _, rfl, M5, .inr (by rw [hts]; exact at_leafF (t := ⟨2, 1, _, zR⟩) rfl h24)⟩)
      · skip
        have hil : i + k < s.length := (List.getElem?_eq_some_iff.1 hc).1
        refine c_pi [(0, false), (1, false), (2, false), (3, false), (4, false), (5, false), (6, false), (7, false), (8, false), (9, false), (10, false), (11, false), (12, false), (13, false), (14, false), (15, false), (16, false), (17, false), (18, false), (19, false), (20, false), (21, false), (22, false), (23, false), (24, false), (25, false), (26, false), (27, false), (28, false), (29, false), (30, false), (31, false), (32, false), (33, false)] (SameH _) mixed (by kernel_rfl) rfl (by kernel_rfl) (po_then (po_then (po_then (po_blk (po_then (po_then (po_bp))))))) (sameH_now _ _) ?_ -- region 4 formm.go:199
        refine pi_ro rfl (fun w hS => ro_move rfl) ?_
        refine pi_ro rfl (fun w hS => ro_nilCheck rfl) ?_
        refine pi_ro rfl (fun w hS => ro_fieldAddr (k := 1) rfl fo_168_1) ?_
        refine pi_ro rfl (fun w hS => ro_loadB rfl sc_3 (Blk.of_heap hB hS) (rfl)) ?_
        refine pi_ro rfl (fun w hS => ro_move rfl) ?_
        refine pi_ro rfl (fun w hS => ro_nilCheck rfl) ?_
        refine pi_ro rfl (fun w hS => ro_fieldAddr (k := 0) rfl fo_168_0) ?_
        refine pi_ro rfl (fun w hS => ro_loadB rfl sc_9 (Blk.of_heap hB hS) (rfl)) ?_
        refine pi_ro rfl (fun w hS => ro_lenS rfl st_9) ?_
        refine pi_ro rfl (fun w hS => ro_cmp (r := true) rfl rfl (congrArg some (decide_eq_true (by show ((i + k : Nat) : Int) < (s.length : Int); omega)))) ?_
        refine pi_ro rfl (fun w hS => ro_move rfl) ?_
        refine pi_gyes rfl rfl (fun w hS => ro_move rfl) ?_
        refine pi_gyes rfl rfl (fun w hS => ro_nilCheck rfl) ?_
        refine pi_gyes rfl rfl (fun w hS => ro_fieldAddr (k := 0) rfl fo_168_0) ?_
        refine pi_gyes rfl rfl (fun w hS => ro_loadB rfl sc_9 (Blk.of_heap hB hS) (rfl)) ?_
        refine pi_gyes rfl rfl (fun w hS => ro_move rfl) ?_
        refine pi_gyes rfl rfl (fun w hS => ro_nilCheck rfl) ?_
        refine pi_gyes rfl rfl (fun w hS => ro_fieldAddr (k := 1) rfl fo_168_1) ?_
        refine pi_gyes rfl rfl (fun w hS => ro_loadB rfl sc_3 (Blk.of_heap hB hS) (rfl)) ?_
        refine pi_gyes rfl rfl (fun w hS => ro_indexS rfl rfl st_9 rfl (hc)) ?_
        refine pi_gyes rfl rfl (fun w hS => ro_cmp (r := true) rfl rfl (congrArg some (decide_eq_true (by omega)))) ?_
        refine pi_ro rfl (fun w hS => ro_pick rfl rfl rfl) ?_
        refine pi_ro rfl (fun w hS => ro_move rfl) ?_
        refine pi_gyes rfl rfl (fun w hS => ro_move rfl) ?_
        refine pi_gyes rfl rfl (fun w hS => ro_nilCheck rfl) ?_
        refine pi_gyes rfl rfl (fun w hS => ro_fieldAddr (k := 0) rfl fo_168_0) ?_
        refine pi_gyes rfl rfl (fun w hS => ro_loadB rfl sc_9 (Blk.of_heap hB hS) (rfl)) ?_
        refine pi_gyes rfl rfl (fun w hS => ro_move rfl) ?_
        refine pi_gyes rfl rfl (fun w hS => ro_nilCheck rfl) ?_
        refine pi_gyes rfl rfl (fun w hS => ro_fieldAddr (k := 1) rfl fo_168_1) ?_
        refine pi_gyes rfl rfl (fun w hS => ro_loadB rfl sc_3 (Blk.of_heap hB hS) (rfl)) ?_
        refine pi_gyes rfl rfl (fun w hS => ro_indexS rfl rfl st_9 rfl (hc)) ?_
        refine pi_gyes rfl rfl (fun w hS => ro_cmp (r := false) rfl rfl (congrArg some (decide_eq_false (by omega)))) ?_
        refine pi_ro rfl (fun w hS => ro_pick rfl rfl rfl) ?_
        refine pi_nil (x_then (hK7 _ _ ?_))
        clear hK7 K7
        refine wc_condF rfl ?_
        refine c_exit (x_thenX (x_thenX (x_blkX (x_then (hK5 _ _ ?_)))))
        clear hK6 K6 hK5 K5
        refine c_seq (fun K14 hK14 => ?_)
        refine c_seq (fun K15 hK15 => ?_)
        subst hkD
        refine c_reg ?_ -- region 8 formm.go:205
        refine wl (ro_move rfl) ?_
        refine wl (ro_nilCheck rfl) ?_
        refine wl (ro_fieldAddr (k := 1) rfl fo_168_1) ?_
        refine wl (ro_loadB rfl sc_3 (hB) (rfl)) ?_
        refine wl (ro_move rfl) ?_
        refine wl (ro_arith (r := (D.length : Int)) rfl rfl (congrArg some (by show ((i + D.length : Nat) : Int) - (i : Int) = D.length; omega)) (Go.IntWalk.i64_in _ (by omega))) ?_
        refine wl (ro_cmp (r := decide (9 < D.length)) rfl rfl (congrArg some (decide_eq_decide.2 (by omega)))) ?_
        refine wl_nil (x_then (hK15 _ _ ?_))
        clear hK15 K15
        refine wc_cond rfl (fun hc89 => ?_) (fun hc89 => ?_)
        · try simp only [decide_eq_true_eq, decide_eq_false_iff_not, Bool.not_eq_true', Bool.not_eq_false', Bool.not_eq_eq_eq_not, Bool.not_true, Bool.not_false, beq_iff_eq, bne_iff_ne, ne_eq, beq_eq_false_iff_ne, bne_eq_false_iff_eq, gt_iff_lt, ge_iff_le, Int.not_lt, Int.not_le] at hc89
          have hres : numT D = ⟨3, 1, 4, zR⟩ := by unfold numT; rw [if_pos hc89]
          refine c_seq (fun K16 hK16 => ?_)
          refine c_reg ?_ -- region 9 formm.go:206
          refine wl (ro_move rfl) ?_
          refine wl (ro_move rfl) ?_
          refine wl_call rfl en_133 (failM (x := 4) (by decide) ⟨V, er, at', M.drew, hbb⟩) ?_
          rintro _ u5 ⟨rfl, M5, G5⟩
          replace hF := hF.transG G5 (by intro k hk h; simp only [one, none', fre] at h ⊢ <;> omega)
          refine wl (ro_assign rfl) ?_
          refine wl_nil (x_then (hK16 _ _ ?_))
          clear hK16 K16
          refine c_ret (x_thenR (x_thenR ?_))
          refine bp_ret Tryz.results218 rfl ?_
          refine ⟨?_, hF⟩
          replace hts : tsA s p = numT D :: tsA s (i + D.length) := hts
          rw [hres] at hts
          first
            | exact .inl ⟨_, _, _, rfl, M5, .inr (by rw [hts]; exact at_err rfl)⟩
            | (by_cases h24 : ar.length < 24
               · rw [addX_lt h24] at M5 ⊢
                 exact .inr ⟨_, _, rfl, by rw [rt_app]; rfl, M5, by omega, by simp, by rw [hts]; exact at_leafO (t := ⟨2, 1, _, zR⟩) rfl h24⟩
               · rw [addX_ge h24] at M5 ⊢
                 exact .inl ⟨_, _, _, rfl, M5, .inr (by rw [hts]; exact at_leafF (t := ⟨2, 1, _, zR⟩) rfl h24)⟩)
        · try simp only [decide_eq_true_eq, decide_eq_false_iff_not, Bool.not_eq_true', Bool.not_eq_false', Bool.not_eq_eq_eq_not, Bool.not_true, Bool.not_false, beq_iff_eq, bne_iff_ne, ne_eq, beq_eq_false_iff_ne, bne_eq_false_iff_eq, gt_iff_lt, ge_iff_le, Int.not_lt, Int.not_le] at hc89
          have hres : numT D = ⟨2, 1, numF (D.take (min D.length 9)), zR⟩ := by unfold numT; rw [if_neg (by omega), show min D.length 9 = D.length by omega, List.take_length]
          refine c_skip (x_then (hK14 _ _ ?_))
          clear hK14 K14
          refine forget [(0, _), (7, _)] ⟨rfl, rfl, trivial⟩ (fun e => ?_)
          refine c_seq (fun K17 hK17 => ?_)
          refine c_reg ?_ -- region 10 formm.go:208
          refine wl (ro_move rfl) ?_
          refine wl (ro_move rfl) ?_
          refine wl (ro_build rfl bld_143_0_2_3_4) ?_
          refine wl_call rfl en_175 (add175 (x := nLeaf 1 (numF (D.take (min D.length 9)))) ⟨V, er, at', M.drew, hbb⟩) ?_
          rintro _ u5 ⟨rfl, M5, G5⟩
          replace hF := hF.transG G5 (by intro k hk h; simp only [one, none', fre] at h ⊢ <;> omega)
          refine wl (ro_assign rfl) ?_
          refine wl_nil (x_then (hK17 _ _ ?_))
          clear hK17 K17
          refine c_ret (x_thenR ?_)
          refine bp_ret Tryz.results218 rfl ?_
          refine ⟨?_, hF⟩
          replace hts : tsA s p = numT D :: tsA s (i + D.length) := hts
          rw [hres] at hts
          first
            | exact .inl ⟨_, _, _, rfl, M5, .inr (by rw [hts]; exact at_err rfl)⟩
            | (by_cases h24 : ar.length < 24
               · rw [addX_lt h24] at M5 ⊢
                 exact .inr ⟨_, _, rfl, by rw [rt_app]; rfl, M5, by omega, by simp, by rw [hts]; exact at_leafO (t := ⟨2, 1, _, zR⟩) rfl h24⟩
               · rw [addX_ge h24] at M5 ⊢
                 exact .inl ⟨_, _, _, rfl, M5, .inr (by rw [hts]; exact at_leafF (t := ⟨2, 1, _, zR⟩) rfl h24)⟩)
      · skip
        refine c_pi [(0, false), (1, false), (2, false), (3, false), (4, false), (5, false), (6, false), (7, false), (8, false), (9, false), (10, false), (11, false), (12, false), (13, false), (14, false), (15, false), (16, false), (17, false), (18, false), (19, false), (20, false), (21, false), (22, false), (23, false), (24, false), (25, false), (26, false), (27, false), (28, false), (29, false), (30, false), (31, false), (32, false), (33, false)] (SameH _) mixed (by kernel_rfl) rfl (by kernel_rfl) (po_then (po_then (po_then (po_blk (po_then (po_then (po_bp))))))) (sameH_now _ _) ?_ -- region 4 formm.go:199
        refine pi_ro rfl (fun w hS => ro_move rfl) ?_
        refine pi_ro rfl (fun w hS => ro_nilCheck rfl) ?_
        refine pi_ro rfl (fun w hS => ro_fieldAddr (k := 1) rfl fo_168_1) ?_
        refine pi_ro rfl (fun w hS => ro_loadB rfl sc_3 (Blk.of_heap hB hS) (rfl)) ?_
        refine pi_ro rfl (fun w hS => ro_move rfl) ?_
        refine pi_ro rfl (fun w hS => ro_nilCheck rfl) ?_
        refine pi_ro rfl (fun w hS => ro_fieldAddr (k := 0) rfl fo_168_0) ?_
        refine pi_ro rfl (fun w hS => ro_loadB rfl sc_9 (Blk.of_heap hB hS) (rfl)) ?_
        refine pi_ro rfl (fun w hS => ro_lenS rfl st_9) ?_
        refine pi_ro rfl (fun w hS => ro_cmp (r := false) rfl rfl (congrArg some (decide_eq_false (by show ¬ (((i + k : Nat) : Int) < (s.length : Int)); omega)))) ?_
        refine pi_ro rfl (fun w hS => ro_move rfl) ?_
        refine pi_gno rfl rfl ?_
        refine pi_gno rfl rfl ?_
        refine pi_gno rfl rfl ?_
        refine pi_gno rfl rfl ?_
        refine pi_gno rfl rfl ?_
        refine pi_gno rfl rfl ?_
        refine pi_gno rfl rfl ?_
        refine pi_gno rfl rfl ?_
        refine pi_gno rfl rfl ?_
        refine pi_gno rfl rfl ?_
        refine pi_ro rfl (fun w hS => ro_pick rfl rfl rfl) ?_
        refine pi_ro rfl (fun w hS => ro_move rfl) ?_
        refine pi_gno rfl rfl ?_
        refine pi_gno rfl rfl ?_
        refine pi_gno rfl rfl ?_
        refine pi_gno rfl rfl ?_
        refine pi_gno rfl rfl ?_
        refine pi_gno rfl rfl ?_
        refine pi_gno rfl rfl ?_
        refine pi_gno rfl rfl ?_
        refine pi_gno rfl rfl ?_
        refine pi_gno rfl rfl ?_
        refine pi_ro rfl (fun w hS => ro_pick rfl rfl rfl) ?_
        refine pi_nil (x_then (hK7 _ _ ?_))
        clear hK7 K7
        refine wc_condF rfl ?_
        refine c_exit (x_thenX (x_thenX (x_blkX (x_then (hK5 _ _ ?_)))))
        clear hK6 K6 hK5 K5
        refine c_seq (fun K18 hK18 => ?_)
        refine c_seq (fun K19 hK19 => ?_)
        subst hkD
        refine c_reg ?_ -- region 8 formm.go:205
        refine wl (ro_move rfl) ?_
        refine wl (ro_nilCheck rfl) ?_
        refine wl (ro_fieldAddr (k := 1) rfl fo_168_1) ?_
        refine wl (ro_loadB rfl sc_3 (hB) (rfl)) ?_
        refine wl (ro_move rfl) ?_
        refine wl (ro_arith (r := (D.length : Int)) rfl rfl (congrArg some (by show ((i + D.length : Nat) : Int) - (i : Int) = D.length; omega)) (Go.IntWalk.i64_in _ (by omega))) ?_
        refine wl (ro_cmp (r := decide (9 < D.length)) rfl rfl (congrArg some (decide_eq_decide.2 (by omega)))) ?_
        refine wl_nil (x_then (hK19 _ _ ?_))
        clear hK19 K19
        refine wc_cond rfl (fun hc89 => ?_) (fun hc89 => ?_)
        · try simp only [decide_eq_true_eq, decide_eq_false_iff_not, Bool.not_eq_true', Bool.not_eq_false', Bool.not_eq_eq_eq_not, Bool.not_true, Bool.not_false, beq_iff_eq, bne_iff_ne, ne_eq, beq_eq_false_iff_ne, bne_eq_false_iff_eq, gt_iff_lt, ge_iff_le, Int.not_lt, Int.not_le] at hc89
          have hres : numT D = ⟨3, 1, 4, zR⟩ := by unfold numT; rw [if_pos hc89]
          refine c_seq (fun K20 hK20 => ?_)
          refine c_reg ?_ -- region 9 formm.go:206
          refine wl (ro_move rfl) ?_
          refine wl (ro_move rfl) ?_
          refine wl_call rfl en_133 (failM (x := 4) (by decide) ⟨V, er, at', M.drew, hbb⟩) ?_
          rintro _ u5 ⟨rfl, M5, G5⟩
          replace hF := hF.transG G5 (by intro k hk h; simp only [one, none', fre] at h ⊢ <;> omega)
          refine wl (ro_assign rfl) ?_
          refine wl_nil (x_then (hK20 _ _ ?_))
          clear hK20 K20
          refine c_ret (x_thenR (x_thenR ?_))
          refine bp_ret Tryz.results218 rfl ?_
          refine ⟨?_, hF⟩
          replace hts : tsA s p = numT D :: tsA s (i + D.length) := hts
          rw [hres] at hts
          first
            | exact .inl ⟨_, _, _, rfl, M5, .inr (by rw [hts]; exact at_err rfl)⟩
            | (by_cases h24 : ar.length < 24
               · rw [addX_lt h24] at M5 ⊢
                 exact .inr ⟨_, _, rfl, by rw [rt_app]; rfl, M5, by omega, by simp, by rw [hts]; exact at_leafO (t := ⟨2, 1, _, zR⟩) rfl h24⟩
               · rw [addX_ge h24] at M5 ⊢
                 exact .inl ⟨_, _, _, rfl, M5, .inr (by rw [hts]; exact at_leafF (t := ⟨2, 1, _, zR⟩) rfl h24)⟩)
        · try simp only [decide_eq_true_eq, decide_eq_false_iff_not, Bool.not_eq_true', Bool.not_eq_false', Bool.not_eq_eq_eq_not, Bool.not_true, Bool.not_false, beq_iff_eq, bne_iff_ne, ne_eq, beq_eq_false_iff_ne, bne_eq_false_iff_eq, gt_iff_lt, ge_iff_le, Int.not_lt, Int.not_le] at hc89
          have hres : numT D = ⟨2, 1, numF (D.take (min D.length 9)), zR⟩ := by unfold numT; rw [if_neg (by omega), show min D.length 9 = D.length by omega, List.take_length]
          refine c_skip (x_then (hK18 _ _ ?_))
          clear hK18 K18
          refine forget [(0, _), (7, _)] ⟨rfl, rfl, trivial⟩ (fun e => ?_)
          refine c_seq (fun K21 hK21 => ?_)
          refine c_reg ?_ -- region 10 formm.go:208
          refine wl (ro_move rfl) ?_
          refine wl (ro_move rfl) ?_
          refine wl (ro_build rfl bld_143_0_2_3_4) ?_
          refine wl_call rfl en_175 (add175 (x := nLeaf 1 (numF (D.take (min D.length 9)))) ⟨V, er, at', M.drew, hbb⟩) ?_
          rintro _ u5 ⟨rfl, M5, G5⟩
          replace hF := hF.transG G5 (by intro k hk h; simp only [one, none', fre] at h ⊢ <;> omega)
          refine wl (ro_assign rfl) ?_
          refine wl_nil (x_then (hK21 _ _ ?_))
          clear hK21 K21
          refine c_ret (x_thenR ?_)
          refine bp_ret Tryz.results218 rfl ?_
          refine ⟨?_, hF⟩
          replace hts : tsA s p = numT D :: tsA s (i + D.length) := hts
          rw [hres] at hts
          first
            | exact .inl ⟨_, _, _, rfl, M5, .inr (by rw [hts]; exact at_err rfl)⟩
            | (by_cases h24 : ar.length < 24
               · rw [addX_lt h24] at M5 ⊢
                 exact .inr ⟨_, _, rfl, by rw [rt_app]; rfl, M5, by omega, by simp, by rw [hts]; exact at_leafO (t := ⟨2, 1, _, zR⟩) rfl h24⟩
               · rw [addX_ge h24] at M5 ⊢
                 exact .inl ⟨_, _, _, rfl, M5, .inr (by rw [hts]; exact at_leafF (t := ⟨2, 1, _, zR⟩) rfl h24)⟩)
    · skip
      refine c_reg ?_ -- region 2 formm.go:197
      refine wl (ro_move rfl) ?_
      refine wl (ro_cmp (r := false) rfl rfl (congrArg some (decide_eq_false (by omega)))) ?_
      refine wl (ro_move rfl) ?_
      refine wlg_no rfl ?_
      refine wlg_no rfl ?_
      refine wl (ro_pick rfl rfl rfl) ?_
      refine wl_nil (x_then (hK3 _ _ ?_))
      clear hK3 K3
      refine wc_condF rfl ?_
      refine c_skip (x_then ?_)
      exact ⟨rfl, by omega, kp _ ⟨rfl, rfl, rfl, trivial⟩⟩
    · skip
      refine c_reg ?_ -- region 2 formm.go:197
      refine wl (ro_move rfl) ?_
      refine wl (ro_cmp (r := true) rfl rfl (congrArg some (decide_eq_true (by omega)))) ?_
      refine wl (ro_move rfl) ?_
      refine wlg_yes rfl (ro_move rfl) ?_
      refine wlg_yes rfl (ro_cmp (r := false) rfl rfl (congrArg some (decide_eq_false (by omega)))) ?_
      refine wl (ro_pick rfl rfl rfl) ?_
      refine wl_nil (x_then (hK3 _ _ ?_))
      clear hK3 K3
      refine wc_condF rfl ?_
      refine c_skip (x_then ?_)
      exact ⟨rfl, by omega, kp _ ⟨rfl, rfl, rfl, trivial⟩⟩
  rintro a' u2 ⟨rfl, hnd, e, rfl⟩
  refine c_mid (fun a' w' => w' = u2 ∧ ¬ (65 ≤ c.toNat ∧ c.toNat ≤ 90) ∧ c.toNat ≠ 36 ∧ ∃ e, a' = Fr 187 (upds e [(0, ptr pb), (5, u8c c)]) []) ?_ ?_
  · skip
    refine c_seq (fun K22 hK22 => ?_)
    have hq : (65 ≤ c.toNat ∧ c.toNat ≤ 90) ∨ c.toNat = 36 ∨ (c.toNat < 65 ∧ c.toNat ≠ 36) ∨ 90 < c.toNat := by omega
    rcases hq with q | q | q | q
    · skip
      refine c_reg ?_ -- region 11 formm.go:210
      refine wl (ro_move rfl) ?_
      refine wl (ro_cmp (r := true) rfl rfl (congrArg some (decide_eq_true (by omega)))) ?_
      refine wl (ro_move rfl) ?_
      refine wlg_yes rfl (ro_move rfl) ?_
      refine wlg_yes rfl (ro_cmp (r := true) rfl rfl (congrArg some (decide_eq_true (by omega)))) ?_
      refine wl (ro_pick rfl rfl rfl) ?_
      refine wl (ro_move rfl) ?_
      refine wlg_no rfl ?_
      refine wlg_no rfl ?_
      refine wl (ro_pick rfl rfl rfl) ?_
      refine wl_nil (x_then (hK22 _ _ ?_))
      clear hK22 K22
      refine wc_condT rfl ?_
      refine c_seq (fun K23 hK23 => ?_)
      have hc0 : c ≠ 0 := by rintro rfl; simp at q
      obtain ⟨rfl, hb6, hs6, hc32, -⟩ := lk_sees hcc hc0
      have hdc0 : dg c = false := dg_not.2 (by omega)
      have hwc0 : wy c = true := wy_iff.2 (by omega)
      rw [hb6] at M1
      have hsl6 := (List.getElem?_eq_some_iff.1 hs6).1
      obtain ⟨nm, rfl⟩ : ∃ m, n = m + 1 := ⟨n - 1, by omega⟩
      refine c_reg ?_ -- region 12 formm.go:211
      refine wl (ro_move rfl) ?_
      refine wl (ro_move rfl) ?_
      refine wl_call rfl en_228 (name228 (hE nm rfl) M1 hs6 hdc0 hwc0 (by omega)) ?_
      rintro _ u5 ⟨hG, G5⟩
      replace hF := hF.transG G5 (by intro k hk h; simp only [one, none', fre] at h ⊢ <;> omega)
      refine wl (ro_assign rfl) ?_
      refine wl_nil (x_then (hK23 _ _ ?_))
      clear hK23 K23
      refine c_ret (x_thenR ?_)
      refine bp_ret Tryz.results218 rfl ?_
      exact ⟨GO.look (bad := false) (by rw [hb6]; exact hG) at_char, hF⟩
    · skip
      refine c_reg ?_ -- region 11 formm.go:210
      refine wl (ro_move rfl) ?_
      refine wl (ro_cmp (r := false) rfl rfl (congrArg some (decide_eq_false (by omega)))) ?_
      refine wl (ro_move rfl) ?_
      refine wlg_no rfl ?_
      refine wlg_no rfl ?_
      refine wl (ro_pick rfl rfl rfl) ?_
      refine wl (ro_move rfl) ?_
      refine wlg_yes rfl (ro_move rfl) ?_
      refine wlg_yes rfl (ro_cmp (r := true) rfl rfl (congrArg some ((beqc c.toNat 36).trans (decide_eq_true (by omega))))) ?_
      refine wl (ro_pick rfl rfl rfl) ?_
      refine wl_nil (x_then (hK22 _ _ ?_))
      clear hK22 K22
      refine wc_condT rfl ?_
      refine c_seq (fun K24 hK24 => ?_)
      have hc0 : c ≠ 0 := by rintro rfl; simp at q
      obtain ⟨rfl, hb6, hs6, hc32, -⟩ := lk_sees hcc hc0
      have hdc0 : dg c = false := dg_not.2 (by omega)
      have hwc0 : wy c = true := wy_iff.2 (by omega)
      rw [hb6] at M1
      have hsl6 := (List.getElem?_eq_some_iff.1 hs6).1
      obtain ⟨nm, rfl⟩ : ∃ m, n = m + 1 := ⟨n - 1, by omega⟩
      refine c_reg ?_ -- region 12 formm.go:211
      refine wl (ro_move rfl) ?_
      refine wl (ro_move rfl) ?_
      refine wl_call rfl en_228 (name228 (hE nm rfl) M1 hs6 hdc0 hwc0 (by omega)) ?_
      rintro _ u5 ⟨hG, G5⟩
      replace hF := hF.transG G5 (by intro k hk h; simp only [one, none', fre] at h ⊢ <;> omega)
      refine wl (ro_assign rfl) ?_
      refine wl_nil (x_then (hK24 _ _ ?_))
      clear hK24 K24
      refine c_ret (x_thenR ?_)
      refine bp_ret Tryz.results218 rfl ?_
      exact ⟨GO.look (bad := false) (by rw [hb6]; exact hG) at_char, hF⟩
    · skip
      refine c_reg ?_ -- region 11 formm.go:210
      refine wl (ro_move rfl) ?_
      refine wl (ro_cmp (r := false) rfl rfl (congrArg some (decide_eq_false (by omega)))) ?_
      refine wl (ro_move rfl) ?_
      refine wlg_no rfl ?_
      refine wlg_no rfl ?_
      refine wl (ro_pick rfl rfl rfl) ?_
      refine wl (ro_move rfl) ?_
      refine wlg_yes rfl (ro_move rfl) ?_
      refine wlg_yes rfl (ro_cmp (r := false) rfl rfl (congrArg some ((beqc c.toNat 36).trans (decide_eq_false (by omega))))) ?_
      refine wl (ro_pick rfl rfl rfl) ?_
      refine wl_nil (x_then (hK22 _ _ ?_))
      clear hK22 K22
      refine wc_condF rfl ?_
      refine c_skip (x_then ?_)
      exact ⟨rfl, by omega, by omega, kp _ ⟨rfl, rfl, trivial⟩⟩
    · skip
      refine c_reg ?_ -- region 11 formm.go:210
      refine wl (ro_move rfl) ?_
      refine wl (ro_cmp (r := true) rfl rfl (congrArg some (decide_eq_true (by omega)))) ?_
      refine wl (ro_move rfl) ?_
      refine wlg_yes rfl (ro_move rfl) ?_
      refine wlg_yes rfl (ro_cmp (r := false) rfl rfl (congrArg some (decide_eq_false (by omega)))) ?_
      refine wl (ro_pick rfl rfl rfl) ?_
      refine wl (ro_move rfl) ?_
      refine wlg_yes rfl (ro_move rfl) ?_
      refine wlg_yes rfl (ro_cmp (r := false) rfl rfl (congrArg some ((beqc c.toNat 36).trans (decide_eq_false (by omega))))) ?_
      refine wl (ro_pick rfl rfl rfl) ?_
      refine wl_nil (x_then (hK22 _ _ ?_))
      clear hK22 K22
      refine wc_condF rfl ?_
      refine c_skip (x_then ?_)
      exact ⟨rfl, by omega, by omega, kp _ ⟨rfl, rfl, trivial⟩⟩
  rintro a' u3 ⟨rfl, hncp, hn36, e, rfl⟩
  refine c_seq (fun K25 hK25 => ?_)
  refine c_seq (fun K26 hK26 => ?_)
  refine c_reg ?_ -- region 13 formm.go:213
  refine wl (ro_move rfl) ?_
  refine wl (ro_cmp (r := decide (c.toNat = 35)) rfl rfl (congrArg some (beqc c.toNat 35))) ?_
  refine wl_nil (x_then (hK26 _ _ ?_))
  clear hK26 K26
  refine wc_cond rfl (fun hc111 => ?_) (fun hc111 => ?_)
  · try simp only [decide_eq_true_eq, decide_eq_false_iff_not, Bool.not_eq_true', Bool.not_eq_false', Bool.not_eq_eq_eq_not, Bool.not_true, Bool.not_false, beq_iff_eq, bne_iff_ne, ne_eq, beq_eq_false_iff_ne, bne_eq_false_iff_eq, gt_iff_lt, ge_iff_le, Int.not_lt, Int.not_le] at hc111
    have hc35 : c = 35 := (u8_eq (n := 35) (by omega)).2 hc111
    subst hc35
    obtain ⟨rfl, hb6, hs6, hc32, hts⟩ := lk_sees hcc (by decide)
    rw [tkw_sgn hs6 rfl rfl, sgn35] at hts
    rw [hb6] at M1
    have hsl6 := (List.getElem?_eq_some_iff.1 hs6).1
    obtain ⟨V, er, at', M, hbb⟩ := M1
    have hB := M.blk
    refine c_seq (fun K27 hK27 => ?_)
    refine c_seq (fun K28 hK28 => ?_)
    have hcs8 : s.length ≤ lk s p + 1 ∨ (∃ d, s[lk s p + 1]? = some d ∧ d.toNat ≠ 35) ∨ (∃ d, s[lk s p + 1]? = some d ∧ d.toNat = 35) := by
      cases hd8 : s[lk s p + 1]? with
      | none => exact .inl (List.getElem?_eq_none_iff.1 hd8)
      | some d =>
        by_cases h35 : d.toNat = 35
        · exact .inr (.inr ⟨d, rfl, h35⟩)
        · exact .inr (.inl ⟨d, rfl, h35⟩)
    rcases hcs8 with hge | ⟨d, hd8, hd35⟩ | ⟨d, hd8, hd35⟩
    · skip
      rw [headD_end hge, if_neg (by decide)] at hts
      refine c_pi [(0, false), (1, false), (2, false), (3, false), (4, false), (5, false), (6, false), (7, false), (8, false), (9, false), (10, false), (11, false), (12, false), (13, false), (14, false), (15, false), (16, false), (17, false), (18, false), (19, false), (20, false), (21, false), (22, false), (23, false)] (SameH _) mixed (by kernel_rfl) rfl (by kernel_rfl) (po_then (po_then (po_then (po_bp)))) (sameH_now _ _) ?_ -- region 14 formm.go:214
      refine pi_ro rfl (fun w hS => ro_move rfl) ?_
      refine pi_ro rfl (fun w hS => ro_nilCheck rfl) ?_
      refine pi_ro rfl (fun w hS => ro_fieldAddr (k := 1) rfl fo_168_1) ?_
      refine pi_ro rfl (fun w hS => ro_loadB rfl sc_3 (Blk.of_heap hB hS) (rfl)) ?_
      refine pi_ro rfl (fun w hS => ro_arith (r := ((lk s p + 1 : Nat) : Int)) rfl rfl rfl (Go.IntWalk.i64_in _ (by omega))) ?_
      refine pi_ro rfl (fun w hS => ro_move rfl) ?_
      refine pi_ro rfl (fun w hS => ro_nilCheck rfl) ?_
      refine pi_ro rfl (fun w hS => ro_fieldAddr (k := 0) rfl fo_168_0) ?_
      refine pi_ro rfl (fun w hS => ro_loadB rfl sc_9 (Blk.of_heap hB hS) (rfl)) ?_
      refine pi_ro rfl (fun w hS => ro_lenS rfl st_9) ?_
      refine pi_ro rfl (fun w hS => ro_cmp (r := true) rfl rfl (congrArg some (decide_eq_true (by show ((lk s p + 1 : Nat) : Int) ≥ (s.length : Int); omega)))) ?_
      refine pi_ro rfl (fun w hS => ro_move rfl) ?_
      refine pi_gno rfl rfl ?_
      refine pi_gno rfl rfl ?_
      refine pi_gno rfl rfl ?_
      refine pi_gno rfl rfl ?_
      refine pi_gno rfl rfl ?_
      refine pi_gno rfl rfl ?_
      refine pi_gno rfl rfl ?_
      refine pi_gno rfl rfl ?_
      refine pi_gno rfl rfl ?_
      refine pi_gno rfl rfl ?_
      refine pi_gno rfl rfl ?_
      refine pi_ro rfl (fun w hS => ro_pick rfl rfl rfl) ?_
      refine pi_nil (x_then (hK28 _ _ ?_))
      clear hK28 K28
      refine wc_condT rfl ?_
      refine c_seq (fun K29 hK29 => ?_)
      refine c_reg ?_ -- region 15 formm.go:215
      refine wl (ro_move rfl) ?_
      refine wl (ro_move rfl) ?_
      refine wl (ro_nilCheck rfl) ?_
      refine wl (ro_fieldAddr (k := 1) rfl fo_168_1) ?_
      refine wl (ro_loadB rfl sc_3 (hB) (rfl)) ?_
      refine wl_call rfl en_133 (failM (x := 2) (by decide) ⟨V, er, at', M.drew, hbb⟩) ?_
      rintro _ u5 ⟨rfl, M5, G5⟩
      replace hF := hF.transG G5 (by intro k hk h; simp only [one, none', fre] at h ⊢ <;> omega)
      refine wl (ro_assign rfl) ?_
      refine wl_nil (x_then (hK29 _ _ ?_))
      clear hK29 K29
      refine c_ret (x_thenR (x_thenR ?_))
      refine bp_ret Tryz.results218 rfl ?_
      exact ⟨.inl ⟨_, _, _, rfl, M5, .inr (by rw [hts]; exact at_err rfl)⟩, hF⟩
    · skip
      have hsl8 := (List.getElem?_eq_some_iff.1 hd8).1
      rw [headD_at hd8, if_neg (fun hh => hd35 (by rw [hh]; rfl))] at hts
      refine c_pi [(0, false), (1, false), (2, false), (3, false), (4, false), (5, false), (6, false), (7, false), (8, false), (9, false), (10, false), (11, false), (12, false), (13, false), (14, false), (15, false), (16, false), (17, false), (18, false), (19, false), (20, false), (21, false), (22, false), (23, false)] (SameH _) mixed (by kernel_rfl) rfl (by kernel_rfl) (po_then (po_then (po_then (po_bp)))) (sameH_now _ _) ?_ -- region 14 formm.go:214
      refine pi_ro rfl (fun w hS => ro_move rfl) ?_
      refine pi_ro rfl (fun w hS => ro_nilCheck rfl) ?_
      refine pi_ro rfl (fun w hS => ro_fieldAddr (k := 1) rfl fo_168_1) ?_
      refine pi_ro rfl (fun w hS => ro_loadB rfl sc_3 (Blk.of_heap hB hS) (rfl)) ?_
      refine pi_ro rfl (fun w hS => ro_arith (r := ((lk s p + 1 : Nat) : Int)) rfl rfl rfl (Go.IntWalk.i64_in _ (by omega))) ?_
      refine pi_ro rfl (fun w hS => ro_move rfl) ?_
      refine pi_ro rfl (fun w hS => ro_nilCheck rfl) ?_
      refine pi_ro rfl (fun w hS => ro_fieldAddr (k := 0) rfl fo_168_0) ?_
      refine pi_ro rfl (fun w hS => ro_loadB rfl sc_9 (Blk.of_heap hB hS) (rfl)) ?_
      refine pi_ro rfl (fun w hS => ro_lenS rfl st_9) ?_
      refine pi_ro rfl (fun w hS => ro_cmp (r := false) rfl rfl (congrArg some (decide_eq_false (by show ¬ ((lk s p + 1 : Nat) : Int) ≥ (s.length : Int); omega)))) ?_
      refine pi_ro rfl (fun w hS => ro_move rfl) ?_
      refine pi_gyes rfl rfl (fun w hS => ro_move rfl) ?_
      refine pi_gyes rfl rfl (fun w hS => ro_nilCheck rfl) ?_
      refine pi_gyes rfl rfl (fun w hS => ro_fieldAddr (k := 0) rfl fo_168_0) ?_
      refine pi_gyes rfl rfl (fun w hS => ro_loadB rfl sc_9 (Blk.of_heap hB hS) (rfl)) ?_
      refine pi_gyes rfl rfl (fun w hS => ro_move rfl) ?_
      refine pi_gyes rfl rfl (fun w hS => ro_nilCheck rfl) ?_
      refine pi_gyes rfl rfl (fun w hS => ro_fieldAddr (k := 1) rfl fo_168_1) ?_
      refine pi_gyes rfl rfl (fun w hS => ro_loadB rfl sc_3 (Blk.of_heap hB hS) (rfl)) ?_
      refine pi_gyes rfl rfl (fun w hS => ro_arith (r := ((lk s p + 1 : Nat) : Int)) rfl rfl rfl (Go.IntWalk.i64_in _ (by omega))) ?_
      refine pi_gyes rfl rfl (fun w hS => ro_indexS rfl rfl st_9 rfl (hd8)) ?_
      refine pi_gyes rfl rfl (fun w hS => ro_cmp (r := true) rfl rfl (congrArg some ((bnec d.toNat 35).trans (decide_eq_true hd35)))) ?_
      refine pi_ro rfl (fun w hS => ro_pick rfl rfl rfl) ?_
      refine pi_nil (x_then (hK28 _ _ ?_))
      clear hK28 K28
      refine wc_condT rfl ?_
      refine c_seq (fun K30 hK30 => ?_)
      refine c_reg ?_ -- region 15 formm.go:215
      refine wl (ro_move rfl) ?_
      refine wl (ro_move rfl) ?_
      refine wl (ro_nilCheck rfl) ?_
      refine wl (ro_fieldAddr (k := 1) rfl fo_168_1) ?_
      refine wl (ro_loadB rfl sc_3 (hB) (rfl)) ?_
      refine wl_call rfl en_133 (failM (x := 2) (by decide) ⟨V, er, at', M.drew, hbb⟩) ?_
      rintro _ u5 ⟨rfl, M5, G5⟩
      replace hF := hF.transG G5 (by intro k hk h; simp only [one, none', fre] at h ⊢ <;> omega)
      refine wl (ro_assign rfl) ?_
      refine wl_nil (x_then (hK30 _ _ ?_))
      clear hK30 K30
      refine c_ret (x_thenR (x_thenR ?_))
      refine bp_ret Tryz.results218 rfl ?_
      exact ⟨.inl ⟨_, _, _, rfl, M5, .inr (by rw [hts]; exact at_err rfl)⟩, hF⟩
    · skip
      have hsl8 := (List.getElem?_eq_some_iff.1 hd8).1
      rw [headD_at hd8, if_pos (show d = 35 from (u8_eq (n := 35) (by omega)).2 hd35)] at hts
      refine c_pi [(0, false), (1, false), (2, false), (3, false), (4, false), (5, false), (6, false), (7, false), (8, false), (9, false), (10, false), (11, false), (12, false), (13, false), (14, false), (15, false), (16, false), (17, false), (18, false), (19, false), (20, false), (21, false), (22, false), (23, false)] (SameH _) mixed (by kernel_rfl) rfl (by kernel_rfl) (po_then (po_then (po_then (po_bp)))) (sameH_now _ _) ?_ -- region 14 formm.go:214
      refine pi_ro rfl (fun w hS => ro_move rfl) ?_
      refine pi_ro rfl (fun w hS => ro_nilCheck rfl) ?_
      refine pi_ro rfl (fun w hS => ro_fieldAddr (k := 1) rfl fo_168_1) ?_
      refine pi_ro rfl (fun w hS => ro_loadB rfl sc_3 (Blk.of_heap hB hS) (rfl)) ?_
      refine pi_ro rfl (fun w hS => ro_arith (r := ((lk s p + 1 : Nat) : Int)) rfl rfl rfl (Go.IntWalk.i64_in _ (by omega))) ?_
      refine pi_ro rfl (fun w hS => ro_move rfl) ?_
      refine pi_ro rfl (fun w hS => ro_nilCheck rfl) ?_
      refine pi_ro rfl (fun w hS => ro_fieldAddr (k := 0) rfl fo_168_0) ?_
      refine pi_ro rfl (fun w hS => ro_loadB rfl sc_9 (Blk.of_heap hB hS) (rfl)) ?_
      refine pi_ro rfl (fun w hS => ro_lenS rfl st_9) ?_
      refine pi_ro rfl (fun w hS => ro_cmp (r := false) rfl rfl (congrArg some (decide_eq_false (by show ¬ ((lk s p + 1 : Nat) : Int) ≥ (s.length : Int); omega)))) ?_
      refine pi_ro rfl (fun w hS => ro_move rfl) ?_
      refine pi_gyes rfl rfl (fun w hS => ro_move rfl) ?_
      refine pi_gyes rfl rfl (fun w hS => ro_nilCheck rfl) ?_
      refine pi_gyes rfl rfl (fun w hS => ro_fieldAddr (k := 0) rfl fo_168_0) ?_
      refine pi_gyes rfl rfl (fun w hS => ro_loadB rfl sc_9 (Blk.of_heap hB hS) (rfl)) ?_
      refine pi_gyes rfl rfl (fun w hS => ro_move rfl) ?_
      refine pi_gyes rfl rfl (fun w hS => ro_nilCheck rfl) ?_
      refine pi_gyes rfl rfl (fun w hS => ro_fieldAddr (k := 1) rfl fo_168_1) ?_
      refine pi_gyes rfl rfl (fun w hS => ro_loadB rfl sc_3 (Blk.of_heap hB hS) (rfl)) ?_
      refine pi_gyes rfl rfl (fun w hS => ro_arith (r := ((lk s p + 1 : Nat) : Int)) rfl rfl rfl (Go.IntWalk.i64_in _ (by omega))) ?_
      refine pi_gyes rfl rfl (fun w hS => ro_indexS rfl rfl st_9 rfl (hd8)) ?_
      refine pi_gyes rfl rfl (fun w hS => ro_cmp (r := false) rfl rfl (congrArg some ((bnec d.toNat 35).trans (decide_eq_false (by omega))))) ?_
      refine pi_ro rfl (fun w hS => ro_pick rfl rfl rfl) ?_
      refine pi_nil (x_then (hK28 _ _ ?_))
      clear hK28 K28
      refine wc_condF rfl ?_
      refine c_skip (x_then (hK27 _ _ ?_))
      clear hK27 K27
      refine forget [(0, _)] ⟨rfl, trivial⟩ (fun e => ?_)
      refine c_seq (fun K31 hK31 => ?_)
      refine c_reg ?_ -- region 16 formm.go:217
      refine wl (ro_move rfl) ?_
      refine wl (ro_move rfl) ?_
      refine wl (ro_nilCheck rfl) ?_
      refine wl (ro_fieldAddr (k := 1) rfl fo_168_1) ?_
      refine wl (ro_loadB rfl sc_3 (hB) (rfl)) ?_
      refine wl (ro_arith (r := ((lk s p + 2 : Nat) : Int)) rfl rfl rfl (Go.IntWalk.i64_in _ (by omega))) ?_
      refine wl (ro_nilCheck rfl) ?_
      refine wl (ro_fieldAddr (k := 1) rfl fo_168_1) ?_
      refine wl_put rfl rfl rfl sz_3 hB ((by simp)) ((show _ = rdl s (lk s p + 2) V er at' from rfl)) (fun w3 hB F3 => ?_)
      replace hF := hF.thenDrew.thenO F3 (by first | exact .inr (by omega) | exact .inl rfl | exact .inl (by assumption))
      have M2 : MR _ pb n0 s (lk s p + 2) ar false := ⟨V, er, at', M.drew.look hB F3 (show lk s p + 2 ≤ s.length by omega), hbb⟩
      refine wl_nil (x_then (hK31 _ _ ?_))
      clear hK31 K31
      refine forget [(0, _)] ⟨rfl, trivial⟩ (fun e => ?_)
      refine c_seq (fun K32 hK32 => ?_)
      refine c_reg ?_ -- region 17 formm.go:218
      refine wl (ro_move rfl) ?_
      refine wl (ro_build rfl bld_143_0_2_3) ?_
      refine wl_call rfl en_175 (add175 (x := nLeaf 5 0) M2) ?_
      rintro _ u5 ⟨rfl, M5, G5⟩
      replace hF := hF.transG G5 (by intro k hk h; simp only [one, none', fre] at h ⊢ <;> omega)
      refine wl (ro_assign rfl) ?_
      refine wl_nil (x_then (hK32 _ _ ?_))
      clear hK32 K32
      refine c_ret (x_thenR ?_)
      refine bp_ret Tryz.results218 rfl ?_
      refine ⟨?_, hF⟩
      by_cases h24 : ar.length < 24
      · rw [addX_lt h24] at M5 ⊢
        exact .inr ⟨_, _, rfl, by rw [rt_app]; rfl, M5, by omega, by simp, by rw [hts]; exact at_leafO (t := ⟨2, 5, 0, zR⟩) rfl h24⟩
      · rw [addX_ge h24] at M5 ⊢
        exact .inl ⟨_, _, _, rfl, M5, .inr (by rw [hts]; exact at_leafF (t := ⟨2, 5, 0, zR⟩) rfl h24)⟩
  · try simp only [decide_eq_true_eq, decide_eq_false_iff_not, Bool.not_eq_true', Bool.not_eq_false', Bool.not_eq_eq_eq_not, Bool.not_true, Bool.not_false, beq_iff_eq, bne_iff_ne, ne_eq, beq_eq_false_iff_ne, bne_eq_false_iff_eq, gt_iff_lt, ge_iff_le, Int.not_lt, Int.not_le] at hc111
    refine c_skip (x_then (hK25 _ _ ?_))
    clear hK25 K25
    refine c_seq (fun K33 hK33 => ?_)
    refine c_seq (fun K34 hK34 => ?_)
    refine c_reg ?_ -- region 18 formm.go:220
    refine wl (ro_move rfl) ?_
    refine wl (ro_cmp (r := decide (c.toNat = 40)) rfl rfl (congrArg some (beqc c.toNat 40))) ?_
    refine wl_nil (x_then (hK34 _ _ ?_))
    clear hK34 K34
    refine wc_cond rfl (fun hc154 => ?_) (fun hc154 => ?_)
    · try simp only [decide_eq_true_eq, decide_eq_false_iff_not, Bool.not_eq_true', Bool.not_eq_false', Bool.not_eq_eq_eq_not, Bool.not_true, Bool.not_false, beq_iff_eq, bne_iff_ne, ne_eq, beq_eq_false_iff_ne, bne_eq_false_iff_eq, gt_iff_lt, ge_iff_le, Int.not_lt, Int.not_le] at hc154
      have hc40 : c = 40 := (u8_eq (n := 40) (by omega)).2 hc154
      subst hc40
      obtain ⟨rfl, hb6, hs6, hc32, hts⟩ := lk_sees hcc (by decide)
      rw [tkw_sgn hs6 rfl rfl] at hts
      replace hts : tsA s p = ⟨40, 0, 0, zR⟩ :: tsA s (lk s p + 1) := hts
      rw [hb6] at M1
      have hsl6 := (List.getElem?_eq_some_iff.1 hs6).1
      obtain ⟨V, er, at', M, hbb⟩ := M1
      have hB := M.blk
      obtain ⟨nm, rfl⟩ : ∃ m, n = m + 1 := ⟨n - 1, by omega⟩
      refine c_seq (fun K35 hK35 => ?_)
      refine c_reg ?_ -- region 19 formm.go:221
      refine wl (ro_move rfl) ?_
      refine wl (ro_nilCheck rfl) ?_
      refine wl (ro_fieldAddr (k := 1) rfl fo_168_1) ?_
      refine wl (ro_loadB rfl sc_3 (hB) (rfl)) ?_
      refine wl (ro_arith (r := ((lk s p + 1 : Nat) : Int)) rfl rfl rfl (Go.IntWalk.i64_in _ (by omega))) ?_
      refine wl (ro_nilCheck rfl) ?_
      refine wl (ro_fieldAddr (k := 1) rfl fo_168_1) ?_
      refine wl_put rfl rfl rfl sz_3 hB ((by simp)) ((show _ = rdl s (lk s p + 1) V er at' from rfl)) (fun w4 hB F4 => ?_)
      replace hF := hF.thenDrew.thenO F4 (by first | exact .inr (by omega) | exact .inl rfl | exact .inl (by assumption))
      have M2 : MR _ pb n0 s (lk s p + 1) ar false := ⟨V, er, at', M.look hB F4 (show lk s p + 1 ≤ s.length by omega), hbb⟩
      refine wl_nil (x_then (hK35 _ _ ?_))
      clear hK35 K35
      refine forget [(0, _)] ⟨rfl, trivial⟩ (fun e => ?_)
      refine c_seq (fun K36 hK36 => ?_)
      refine c_reg ?_ -- region 20 formm.go:222
      refine wl (ro_move rfl) ?_
      refine wl_call rfl en_131 (hE nm rfl (rg := false) M2 (by omega)) ?_
      rintro _ u4 ⟨hG, G4⟩
      replace hF := hF.transG G4 (by intro k hk h; simp only [one, none', fre] at h ⊢ <;> omega)
      obtain ⟨p2, ar2, b2, z2, rfl, M4, hcs⟩ := hG.uni
      refine wl (ro_assign rfl) ?_
      refine wl_nil (x_then (hK36 _ _ ?_))
      clear hK36 K36
      refine c_seq (fun K37 hK37 => ?_)
      refine c_seq (fun K38 hK38 => ?_)
      refine c_reg ?_ -- region 21 formm.go:223
      refine wl (ro_move rfl) ?_
      refine wl_call rfl en_132 (lookM M4) ?_
      rintro _ u5 ⟨rfl, M5, G5⟩
      replace hF := hF.transG G5 (by intro k hk h; simp only [one, none', fre] at h ⊢ <;> omega)
      generalize hc2 : (lkc s p2 b2).1 = c2
      refine wl (ro_cmp (r := decide (c2.toNat ≠ 41)) rfl rfl (congrArg some (bnec c2.toNat 41))) ?_
      refine wl_nil (x_then (hK38 _ _ ?_))
      clear hK38 K38
      refine wc_cond rfl (fun hc166 => ?_) (fun hc166 => ?_)
      · try simp only [decide_eq_true_eq, decide_eq_false_iff_not, Bool.not_eq_true', Bool.not_eq_false', Bool.not_eq_eq_eq_not, Bool.not_true, Bool.not_false, beq_iff_eq, bne_iff_ne, ne_eq, beq_eq_false_iff_ne, bne_eq_false_iff_eq, gt_iff_lt, ge_iff_le, Int.not_lt, Int.not_le] at hc166
        have hAF : AtF rg (tsA s p) ar := by
          rw [hts]
          rcases hcs with ⟨rfl, hf | hf⟩ | ⟨rfl, -, rfl, hp2, hl2, ho2⟩
          · cases hf
          · exact at_openX rfl hf
          · refine at_openF rfl ho2 ?_
            cases hb5 : (lkc s p2 false).2 with
            | true => rw [lk1 hb5]; decide
            | false => exact fun hh => hc166 (by rw [(lk_kind hc2 hb5).1.1 hh]; rfl)
        obtain ⟨V, er, at', M, hbb⟩ := M5
        have hB := M.blk
        refine c_seq (fun K39 hK39 => ?_)
        refine c_reg ?_ -- region 22 formm.go:224
        refine wl (ro_move rfl) ?_
        refine wl (ro_move rfl) ?_
        refine wl (ro_nilCheck rfl) ?_
        refine wl (ro_fieldAddr (k := 1) rfl fo_168_1) ?_
        refine wl (ro_loadB rfl sc_3 (hB) (rfl)) ?_
        refine wl_call rfl en_133 (failM (x := 3) (by decide) ⟨V, er, at', M, hbb⟩) ?_
        rintro _ u7 ⟨rfl, M7, G7⟩
        replace hF := hF.transG G7 (by intro k hk h; simp only [one, none', fre] at h ⊢ <;> omega)
        refine wl (ro_assign rfl) ?_
        refine wl_nil (x_then (hK39 _ _ ?_))
        clear hK39 K39
        refine c_ret (x_thenR (x_thenR ?_))
        refine bp_ret Tryz.results218 rfl ?_
        exact ⟨.inl ⟨_, _, _, rfl, M7, .inr hAF⟩, hF⟩
      · try simp only [decide_eq_true_eq, decide_eq_false_iff_not, Bool.not_eq_true', Bool.not_eq_false', Bool.not_eq_eq_eq_not, Bool.not_true, Bool.not_false, beq_iff_eq, bne_iff_ne, ne_eq, beq_eq_false_iff_ne, bne_eq_false_iff_eq, gt_iff_lt, ge_iff_le, Int.not_lt, Int.not_le] at hc166
        have hc2e : (lkc s p2 b2).1 = 41 := by rw [hc2]; exact (u8_eq (n := 41) (by decide)).2 (Decidable.not_not.1 hc166)
        obtain ⟨rfl, hb7, hs7, -, hts7⟩ := lk_sees hc2e (by decide)
        rw [tkw_sgn hs7 rfl rfl] at hts7
        obtain ⟨rfl, hp2, hl2, ho2⟩ : z2 = (rt ar2 : Int) ∧ lk s p + 1 < p2 ∧ 1 ≤ ar2.length ∧ ExO false (tsA s (lk s p + 1)) ar (tsA s p2) ar2 := by
          rcases hcs with ⟨h1, -⟩ | ⟨-, -, h3, h4, h5, h6⟩
          · cases h1
          · exact ⟨h3, h4, h5, h6⟩
        rw [hb7] at M5
        have hsl7 := (List.getElem?_eq_some_iff.1 hs7).1
        have hlg2 := lk_ge s p2
        obtain ⟨V, er, at', M, hbb⟩ := M5
        have hB := M.blk
        refine c_skip (x_then (hK37 _ _ ?_))
        clear hK37 K37
        refine forget [(0, _), (8, _)] ⟨rfl, rfl, trivial⟩ (fun e => ?_)
        refine c_seq (fun K40 hK40 => ?_)
        refine c_reg ?_ -- region 23 formm.go:226
        refine wl (ro_move rfl) ?_
        refine wl (ro_nilCheck rfl) ?_
        refine wl (ro_fieldAddr (k := 1) rfl fo_168_1) ?_
        refine wl (ro_loadB rfl sc_3 (hB) (rfl)) ?_
        refine wl (ro_arith (r := ((lk s p2 + 1 : Nat) : Int)) rfl rfl rfl (Go.IntWalk.i64_in _ (by omega))) ?_
        refine wl (ro_nilCheck rfl) ?_
        refine wl (ro_fieldAddr (k := 1) rfl fo_168_1) ?_
        refine wl_put rfl rfl rfl sz_3 hB ((by simp)) ((show _ = rdl s (lk s p2 + 1) V er at' from rfl)) (fun w5 hB F5 => ?_)
        replace hF := hF.thenDrew.thenO F5 (by first | exact .inr (by omega) | exact .inl rfl | exact .inl (by assumption))
        have M8 : MR _ pb n0 s (lk s p2 + 1) ar2 false := ⟨V, er, at', M.look hB F5 (show lk s p2 + 1 ≤ s.length by omega), hbb⟩
        refine wl_nil (x_then (hK40 _ _ ?_))
        clear hK40 K40
        refine forget [(8, _)] ⟨rfl, trivial⟩ (fun e => ?_)
        refine c_seq (fun K41 hK41 => ?_)
        refine c_reg ?_ -- region 24 formm.go:227
        refine wl (ro_move rfl) ?_
        refine wl (ro_assign rfl) ?_
        refine wl_nil (x_then (hK41 _ _ ?_))
        clear hK41 K41
        refine c_ret (x_thenR ?_)
        refine bp_ret Tryz.results218 rfl ?_
        refine ⟨.inr ⟨_, _, rfl, rfl, M8, by omega, hl2, ?_⟩, hF⟩
        rw [hts]
        have := at_openO (rg := rg) (t := ⟨40, 0, 0, zR⟩) rfl ho2 (by rw [hts7]; rfl)
        rw [hts7] at this
        exact this
    · try simp only [decide_eq_true_eq, decide_eq_false_iff_not, Bool.not_eq_true', Bool.not_eq_false', Bool.not_eq_eq_eq_not, Bool.not_true, Bool.not_false, beq_iff_eq, bne_iff_ne, ne_eq, beq_eq_false_iff_ne, bne_eq_false_iff_eq, gt_iff_lt, ge_iff_le, Int.not_lt, Int.not_le] at hc154
      refine c_skip (x_then (hK33 _ _ ?_))
      clear hK33 K33
      refine forget [(0, _)] ⟨rfl, trivial⟩ (fun e => ?_)
      refine c_seq (fun K42 hK42 => ?_)
      have hAF : bad = true ∨ AtF rg (tsA s p) ar := by
        cases bad with
        | true => exact .inl rfl
        | false =>
          right
          rcases lk_cs s p with ⟨h1, h2⟩ | ⟨h1, h2, h3⟩ | ⟨c', h1, h2, h3, h4, h5⟩
          · exact at_char h2
          · rw [h2]
            exact at_bad (by decide) (by decide) (by decide) (by decide) (by decide)
          · have hcc' : c' = c := by rw [h1] at hcc; exact hcc
            subst hcc'
            rw [h5, tkw_sgn h2 (dg_not.2 (by omega)) (wy_not.2 (by omega))]
            obtain ⟨k1, k2, k3, k4, k5⟩ := sgn_oth (c := c') (d := (s.drop (lk s p + 1)).headD 0) (fun e => hc111 (by rw [e]; rfl)) (fun e => hc154 (by rw [e]; rfl)) h45
            exact at_bad k1 k2 k3 k4 k5
      obtain ⟨V, er, at', M, hbb⟩ := M1
      have hB := M.blk
      refine c_reg ?_ -- region 25 formm.go:229
      refine wl (ro_move rfl) ?_
      refine wl (ro_move rfl) ?_
      refine wl (ro_nilCheck rfl) ?_
      refine wl (ro_fieldAddr (k := 1) rfl fo_168_1) ?_
      refine wl (ro_loadB rfl sc_3 (hB) (rfl)) ?_
      refine wl_call rfl en_133 (failM (x := 3) (by decide) ⟨V, er, at', M, hbb⟩) ?_
      rintro _ u7 ⟨rfl, M7, G7⟩
      replace hF := hF.transG G7 (by intro k hk h; simp only [one, none', fre] at h ⊢ <;> omega)
      refine wl (ro_assign rfl) ?_
      refine wl_nil (x_then (hK42 _ _ ?_))
      clear hK42 K42
      refine c_ret ?_
      refine bp_ret Tryz.results218 rfl ?_
      exact ⟨.inl ⟨_, _, _, rfl, M7, hAF⟩, hF⟩

end Go.Proofs.Qxb6500570aGreat
