import Derived.Test.Qxb6500568aGreatDoorYk
/- The interpreter: call. -/
namespace Go.Proofs.Qxb6500568aGreatDoor
open Ieee
set_option linter.unusedVariables false
set_option linter.unusedSimpArgs false
set_option linter.unusedSectionVars false

def i64s (xs : List Nat) : List Value := xs.map fun x => i64c x
theorem i64s_len (xs : List Nat) : (i64s xs).length = xs.length := by simp [i64s]
theorem arr_set {xs : List Nat} {a : Nat} (h : xs.length < 3) : (i64s xs ++ List.replicate (3 - xs.length) (i64c 0)).set (0 + xs.length * 1) (i64c a) = i64s (xs ++ [a]) ++ List.replicate (3 - (xs ++ [a]).length) (i64c 0) := by
  have e : 3 - xs.length = (3 - (xs ++ [a]).length) + 1 := by simp; omega
  rw [e, List.replicate_succ, Nat.zero_add, Nat.mul_one, List.set_append_right _ _ (by rw [i64s_len]; exact Nat.le_refl _), i64s_len, Nat.sub_self]
  simp [i64s]
theorem arr_get {xs : List Nat} {r : List Value} {j x : Nat} (h : xs[j]? = some x) : (i64s xs ++ r)[0 + j * 1]? = some (i64c x) := by
  have hl := (List.getElem?_eq_some_iff.1 h).1
  rw [Nat.zero_add, Nat.mul_one, List.getElem?_append_left (by rw [i64s_len]; exact hl)]
  simp [i64s, h]
theorem drop_pred {xs : List Nat} {j x : Nat} (h : xs[j]? = some x) : xs.drop j = x :: xs.drop (j + 1) := by
  obtain ⟨hl, rfl⟩ := List.getElem?_eq_some_iff.1 h
  exact List.drop_eq_getElem_cons hl
set_option maxHeartbeats 8000000 in
theorem call107 {G : Arena} {root : Nat} {np : Value} {tb rb : Nat} {nv : Value} {w : World} {ow : Nat → Nat} {β τ : List Nat} {m : Nat} {s : IS} (hR : RM G root np tb rb nv w ow β τ m s) (hG : 0 < G.length) {n ev : Nat} {o : Option Addr} (he : EP β ev o) (hn : n < G.length) {zs : ExL} (hz : IsEL G (nd G n).B zs) (hm : m ≤ 19990) :
    Ret Tryz.prog 107 [ptr rb, i64c n, .pointer o] w (fun r w' => r = .tuple #[] ∧ RP G root np tb rb nv w ow β τ (m + 5) (icall G n ev s) w') := by
  have hF : Fram (tg ow cmT) w w := Fram.refl _ _
  have hX : Xt w ow ow := Xt.refl _ _
  obtain ⟨gn, capn, ln, rfl, hN, khN, hcapn, hrow⟩ := hR.nodes hG
  obtain ⟨pn, hpn⟩ := hrow n hn
  have hi3 : iargs G 3 (nd G n).B = [] ++ iargs G (3 - 0) (nd G n).B := rfl
  refine ret_of Tryz.func107 rfl Tryz.ntmps107 rfl ?_
  refine c_seq (fun K1 hK1 => ?_)
  refine c_reg ?_ -- region 0 compm.go:268
  refine wl_new (ze_281) (fun b6 w1 hbb6 h6 F1 => ?_)
  have hbsb6 := Nat.le_trans hF.size hbb6
  have hnegnb6 : gn < b6 := Nat.lt_of_lt_of_le hN.lt hbb6
  have kh6 := hR.df b6 hbb6
  replace hF := hF.thenDrew.thenN F1
  replace hR := hR.thruN ((Fram.refl none' _).thenDrew.thenN F1)
  replace hN := F1.blkN hN
  refine wl_nil (x_then (hK1 _ _ ?_))
  clear hK1 K1
  refine forget [(0, _), (1, _), (2, _), (6, _)] ⟨rfl, rfl, rfl, rfl, trivial⟩ (fun e => ?_)
  refine c_seq (fun K2 hK2 => ?_)
  refine c_reg ?_ -- region 1 compm.go:269
  refine wl (ro_assign rfl) ?_
  refine wl_nil (x_then (hK2 _ _ ?_))
  clear hK2 K2
  refine c_seq (fun K3 hK3 => ?_)
  refine c_seq (fun K4 hK4 => ?_)
  obtain ⟨cv, hv_, a0, a1, a2, a3, a4, hXr, hq2, hq3, hq4⟩ := hR.r
  unfold rnc at hXr
  have hk70 := hR.t70
  refine c_reg ?_ -- region 2 compm.go:270
  refine wl (ro_move rfl) ?_
  refine wl (ro_nilCheck rfl) ?_
  refine wl (ro_fieldAddr (k := 2) rfl fo_112_2) ?_
  refine wl (ro_loadB rfl sc_77 (by assumption) rfl) ?_
  refine wl (ro_move rfl) ?_
  refine wl (ro_indexAddr (et := 148) (k := 8) rfl rfl se_77 rfl (by omega)) ?_
  refine wl (ro_fieldAddr (k := 2) rfl fo_148_2) ?_
  refine wl (ro_loadB rfl sc_3 (hN) (row_get hpn (by decide))) ?_
  refine wl (ro_assign rfl) ?_
  refine wl_nil (x_then (hK4 _ _ ?_))
  clear hK4 K4
  refine c_block ?_
  -- loop@r3: live slots [0, 1, 2, 6, 7, 8]
  refine c_loopG (fun mm a' w' => ∃ xs a, mm = 3 - xs.length ∧ xs.length ≤ 3 ∧ iargs G 3 (nd G n).B = xs ++ iargs G (3 - xs.length) a ∧ (∃ l, IsEL G a l) ∧ Blk w'.heap b6 (i64s xs ++ List.replicate (3 - xs.length) (i64c 0)) 281 ∧ Blk w'.heap gn ln 148 ∧ Fram (tg ow cmT) w w' ∧ RM G root np tb rb (.slice (some ⟨gn, 0, none⟩) G.length capn) w' ow β τ m s ∧ ∃ e, a' = Fr 65 (upds e [(0, ptr rb), (1, i64c n), (2, .pointer o), (6, ptr b6), (7, i64c xs.length), (8, i64c a)]) []) 3 ⟨[], (nd G n).B, rfl, by decide, hi3, ⟨zs, hz⟩, h6, hN, hF, hR, kp _ ⟨rfl, rfl, rfl, rfl, rfl, rfl, trivial⟩⟩ ?_
  clear hF hR h6 hN hXr hbsb6
  rintro mm a' u1 ⟨xs, a, rfl, hx3, hxs, ⟨l, hl⟩, h6, hN, hF, hR, e, rfl⟩
  have hbsb6 := hbb6
  refine c_seq (fun K5 hK5 => ?_)
  refine c_seq (fun K6 hK6 => ?_)
  refine c_reg ?_ -- region 3 compm.go:270
  refine wl (ro_move rfl) ?_
  refine wl (ro_cmp rfl rfl rfl) ?_
  refine wl_fork rfl (fun hg20 => ?_) (fun hg20 => ?_)
  · try simp only [decide_eq_true_eq, decide_eq_false_iff_not, Bool.not_eq_true', Bool.not_eq_false', Bool.not_eq_eq_eq_not, Bool.not_true, Bool.not_false, beq_iff_eq, bne_iff_ne, ne_eq, beq_eq_false_iff_ne, bne_eq_false_iff_eq, gt_iff_lt, ge_iff_le, Int.not_lt, Int.not_le] at hg20
    refine wlg_yes rfl (ro_move rfl) ?_
    refine wlg_yes rfl (ro_cmp rfl rfl rfl) ?_
    refine wl (ro_pick rfl rfl rfl) ?_
    refine wl_nil (x_then (hK6 _ _ ?_))
    clear hK6 K6
    refine wc_cond rfl (fun hc23 => ?_) (fun hc23 => ?_)
    · try simp only [decide_eq_true_eq, decide_eq_false_iff_not, Bool.not_eq_true', Bool.not_eq_false', Bool.not_eq_eq_eq_not, Bool.not_true, Bool.not_false, beq_iff_eq, bne_iff_ne, ne_eq, beq_eq_false_iff_ne, bne_eq_false_iff_eq, gt_iff_lt, ge_iff_le, Int.not_lt, Int.not_le] at hc23
      refine c_skip (x_then (hK5 _ _ ?_))
      clear hK5 K5
      refine forget [(0, _), (1, _), (2, _), (6, _), (7, _), (8, _), (21, _), (22, _)] ⟨rfl, rfl, rfl, rfl, rfl, rfl, rfl, rfl, trivial⟩ (fun e => ?_)
      refine c_seq (fun K7 hK7 => ?_)
      refine c_block ?_
      refine c_seq (fun K8 hK8 => ?_)
      refine c_reg ?_ -- region 5 compm.go:271
      refine wl (ro_move rfl) ?_
      refine wl (ro_move rfl) ?_
      refine wl (ro_indexAddrA (et := 3) (k := 1) rfl rfl ar_281 (rfl) ((by omega))) ?_
      refine wl_put rfl rfl rfl sz_3 h6 ((by rw [List.length_append, i64s_len, List.length_replicate]; omega)) (rfl) (fun w2 h6 F2 => ?_)
      replace hF := hF.thenDrew.thenO F2 (by first | exact .inr (by omega) | exact .inl rfl | exact .inl (by assumption) | assumption)
      replace hR := hR.hbput ((Fram.refl (one b6) _).thenDrew.thenO F2 (.inl rfl))
      replace hN := F2.blkO hN (by first | omega | exact ow_ne (by assumption) (by assumption) (by omega))
      rw [arr_set (by omega)] at h6
      refine wl_nil (x_then (hK8 _ _ ?_))
      clear hK8 K8
      refine c_reg ?_ -- region 6 compm.go:272
      refine wl (ro_move rfl) ?_
      refine wl (ro_arith rfl rfl rfl (Go.IntWalk.i64_in _ (by omega))) ?_
      refine wl (ro_assign rfl) ?_
      refine wl_nil (x_blk (x_then (hK7 _ _ ?_)))
      clear hK7 K7
      obtain ⟨cv, hv_, a0, a1, a2, a3, a4, hXr, hq2, hq3, hq4⟩ := hR.r
      unfold rnc at hXr
      have hk70 := hR.t70
      have hal : a < G.length := hl.lt hG
      obtain ⟨pa, hpa⟩ := hrow a hal
      obtain ⟨l2, hl2⟩ : ∃ l2, IsEL G (nd G a).Nx l2 := by
        rcases hl.inv with rfl | ⟨ex, l', rfl⟩
        · have := IsEL_nil.1 hl; omega
        · exact ⟨l', (IsEL_cons.1 hl).2.2⟩
      refine c_reg ?_ -- region 4 compm.go:270
      refine wl (ro_move rfl) ?_
      refine wl (ro_nilCheck rfl) ?_
      refine wl (ro_fieldAddr (k := 2) rfl fo_112_2) ?_
      refine wl (ro_loadB rfl sc_77 (by assumption) rfl) ?_
      refine wl (ro_move rfl) ?_
      refine wl (ro_indexAddr (et := 148) (k := 8) rfl rfl se_77 rfl (by omega)) ?_
      refine wl (ro_fieldAddr (k := 4) rfl fo_148_4) ?_
      refine wl (ro_loadB rfl sc_3 (hN) (row_get hpa (by decide))) ?_
      refine wl (ro_assign rfl) ?_
      refine wl_nil (x_then ?_)
      refine ⟨3 - (xs ++ [a]).length, by simp; omega, xs ++ [a], (nd G a).Nx, rfl, by simp; omega, ?_, ⟨l2, hl2⟩, h6, hN, hF, hR, ?_⟩
      · rw [hxs, List.append_assoc]
        congr 1
        rw [show 3 - xs.length = (3 - (xs ++ [a]).length) + 1 by simp; omega, iargs, if_neg (by omega)]
        rfl
      · rw [List.length_append]
        exact kp _ ⟨rfl, rfl, rfl, rfl, rfl, rfl, trivial⟩
    · try simp only [decide_eq_true_eq, decide_eq_false_iff_not, Bool.not_eq_true', Bool.not_eq_false', Bool.not_eq_eq_eq_not, Bool.not_true, Bool.not_false, beq_iff_eq, bne_iff_ne, ne_eq, beq_eq_false_iff_ne, bne_eq_false_iff_eq, gt_iff_lt, ge_iff_le, Int.not_lt, Int.not_le] at hc23
      refine c_exit (x_thenX (x_thenX (x_blkX (x_then (hK3 _ _ ?_)))))
      clear hK5 K5 hK3 K3
      refine forget [(0, _), (1, _), (2, _), (6, _), (7, _)] ⟨rfl, rfl, rfl, rfl, rfl, trivial⟩ (fun e => ?_)
      refine c_seq (fun K9 hK9 => ?_)
      refine c_reg ?_ -- region 7 compm.go:274
      refine wl (ro_move rfl) ?_
      refine wl (ro_move rfl) ?_
      refine wl (ro_move rfl) ?_
      refine wl (ro_move rfl) ?_
      refine wl_call rfl en_55 (do55 (k := 22) (n := n) (x := xs.length) hR.dr he (by omega)) ?_
      rintro _ u3 ⟨rfl, ow3, x3, f3, r3⟩
      obtain ⟨h6, kh6⟩ := cm_loc x3 f3 h6 kh6
      obtain ⟨hN, khN⟩ := cm_loc x3 f3 hN khN
      have hs3 := hF.size
      replace hF := cm_trans hX hF f3
      replace hX := hX.trans hs3 x3
      replace hR := r3
      refine wl_nil (x_then (hK9 _ _ ?_))
      clear hK9 K9
      refine c_seq (fun K10 hK10 => ?_)
      refine c_seq (fun K11 hK11 => ?_)
      refine c_reg ?_ -- region 8 compm.go:275
      refine wl (ro_move rfl) ?_
      refine wl (ro_arith rfl rfl rfl (Go.IntWalk.i64_in _ (by omega))) ?_
      refine wl (ro_assign rfl) ?_
      refine wl_nil (x_then (hK11 _ _ ?_))
      clear hK11 K11
      refine c_block ?_
      -- loop@r9: live slots [0, 1, 2, 6, 9]
      refine c_loopG (fun mm a' w' => ∃ j ow', mm = j ∧ j ≤ xs.length ∧ Xt w ow ow' ∧ Fram (tg ow cmT) w w' ∧ RM G root np tb rb (.slice (some ⟨gn, 0, none⟩) G.length capn) w' ow' β τ (m + 1 + (xs.length - j)) ((xs.drop j).foldr (fun a s => ido 2 a 0 ev s) (ido 22 n xs.length ev s)) ∧ Blk w'.heap b6 (i64s xs ++ List.replicate (3 - xs.length) (i64c 0)) 281 ∧ ow' b6 = 66 ∧ Blk w'.heap gn ln 148 ∧ ow' gn = 67 ∧ ∃ e, a' = Fr 65 (upds e [(0, ptr rb), (1, i64c n), (2, .pointer o), (6, ptr b6), (9, .int .i64 ((j : Int) - 1))]) []) xs.length ⟨xs.length, _, rfl, Nat.le_refl _, hX, hF, by rw [Nat.sub_self, List.drop_length]; exact hR, h6, kh6, hN, khN, kp _ ⟨rfl, rfl, rfl, rfl, rfl, trivial⟩⟩ ?_
      clear hF hR h6 hN kh6 khN hX
      rintro mm a' u3 ⟨j, ow3, rfl, hj, hX, hF, hR, h6, kh6, hN, khN, e, rfl⟩
      refine c_seq (fun K12 hK12 => ?_)
      refine c_seq (fun K13 hK13 => ?_)
      refine c_reg ?_ -- region 9 compm.go:275
      refine wl (ro_move rfl) ?_
      refine wl (ro_cmp rfl rfl rfl) ?_
      refine wl_nil (x_then (hK13 _ _ ?_))
      clear hK13 K13
      refine wc_cond rfl (fun hc45 => ?_) (fun hc45 => ?_)
      · try simp only [decide_eq_true_eq, decide_eq_false_iff_not, Bool.not_eq_true', Bool.not_eq_false', Bool.not_eq_eq_eq_not, Bool.not_true, Bool.not_false, beq_iff_eq, bne_iff_ne, ne_eq, beq_eq_false_iff_ne, bne_eq_false_iff_eq, gt_iff_lt, ge_iff_le, Int.not_lt, Int.not_le] at hc45
        obtain ⟨i, rfl⟩ : ∃ i, mm = i + 1 := ⟨mm - 1, by omega⟩
        obtain ⟨x, hx⟩ : ∃ x, xs[i]? = some x := ⟨_, List.getElem?_eq_getElem (by omega)⟩
        refine c_skip (x_then (hK12 _ _ ?_))
        clear hK12 K12
        refine forget [(0, _), (1, _), (2, _), (6, _), (9, _)] ⟨rfl, rfl, rfl, rfl, rfl, trivial⟩ (fun e => ?_)
        refine c_seq (fun K14 hK14 => ?_)
        refine c_block ?_
        refine c_reg ?_ -- region 11 compm.go:276
        refine wl (ro_move rfl) ?_
        refine wl (ro_move rfl) ?_
        refine wl (ro_indexAddrA (et := 3) (k := 1) rfl rfl ar_281 ((show (((i + 1 : Nat) : Int) - 1) = ((i : Nat) : Int) by omega)) ((by omega))) ?_
        refine wl (ro_loadB rfl sc_3 (h6) (arr_get hx)) ?_
        refine wl (ro_move rfl) ?_
        refine wl_call rfl en_55 (do55 (k := 2) (n := x) (x := 0) hR.dr he (by omega)) ?_
        rintro _ u4 ⟨rfl, ow4, x4, f4, r4⟩
        obtain ⟨h6, kh6⟩ := cm_loc x4 f4 h6 kh6
        obtain ⟨hN, khN⟩ := cm_loc x4 f4 hN khN
        have hs4 := hF.size
        replace hF := cm_trans hX hF f4
        replace hX := hX.trans hs4 x4
        replace hR := r4
        refine wl_nil (x_blk (x_then (hK14 _ _ ?_)))
        clear hK14 K14
        refine c_reg ?_ -- region 10 compm.go:275
        refine wl (ro_move rfl) ?_
        refine wl (ro_arith rfl rfl rfl (Go.IntWalk.i64_in _ (by omega))) ?_
        refine wl (ro_assign rfl) ?_
        refine wl_nil (x_then ?_)
        refine ⟨i, by omega, i, _, rfl, by omega, hX, hF, ?_, h6, kh6, hN, khN, ?_⟩
        · rw [drop_pred hx, show m + 1 + (xs.length - i) = m + 1 + (xs.length - (i + 1)) + 1 by omega]
          exact hR
        · rw [show (((i : Nat) : Int) - 1) = (((i + 1 : Nat) : Int) - 1) - 1 by omega]
          exact kp _ ⟨rfl, rfl, rfl, rfl, rfl, trivial⟩
      · try simp only [decide_eq_true_eq, decide_eq_false_iff_not, Bool.not_eq_true', Bool.not_eq_false', Bool.not_eq_eq_eq_not, Bool.not_true, Bool.not_false, beq_iff_eq, bne_iff_ne, ne_eq, beq_eq_false_iff_ne, bne_eq_false_iff_eq, gt_iff_lt, ge_iff_le, Int.not_lt, Int.not_le] at hc45
        have hj0 : mm = 0 := by omega
        subst hj0
        refine c_exit (x_thenX (x_thenX (x_blkX (x_then (hK10 _ _ ?_)))))
        clear hK12 K12 hK10 K10
        obtain ⟨cv, hv_, a0, a1, a2, a3, a4, hXr, hq2, hq3, hq4⟩ := hR.r
        unfold rnc at hXr
        have hk70 := hR.t70
        refine c_reg ?_ -- region 12 compm.go:278
        refine wl (ro_move rfl) ?_
        refine wl (ro_move rfl) ?_
        refine wl (ro_nilCheck rfl) ?_
        refine wl (ro_fieldAddr (k := 2) rfl fo_112_2) ?_
        refine wl (ro_loadB rfl sc_77 (by assumption) rfl) ?_
        refine wl (ro_move rfl) ?_
        refine wl (ro_indexAddr (et := 148) (k := 8) rfl rfl se_77 rfl (by omega)) ?_
        refine wl (ro_fieldAddr (k := 1) rfl fo_148_1) ?_
        refine wl (ro_loadB rfl sc_3 (hN) (row_get hpn (by decide))) ?_
        refine wl (ro_move rfl) ?_
        refine wl_call rfl en_55 (do55 (k := 2) (n := (nd G n).A) (x := 0) hR.dr he (by omega)) ?_
        rintro _ u5 ⟨rfl, ow5, x5, f5, r5⟩
        obtain ⟨h6, kh6⟩ := cm_loc x5 f5 h6 kh6
        obtain ⟨hN, khN⟩ := cm_loc x5 f5 hN khN
        have hs5 := hF.size
        replace hF := cm_trans hX hF f5
        replace hX := hX.trans hs5 x5
        replace hR := r5
        refine wl_nil ?_
        refine bp_end Tryz.results107 rfl ?_
        refine ⟨rfl, _, hX, hF, ?_⟩
        have ei : iargs G (3 - xs.length) a = [] := by
          first
          | (rw [show 3 - xs.length = 0 by omega]; rfl)
          | (rw [show a = 0 by omega]; cases 3 - xs.length <;> rfl)
        rw [ei, List.append_nil] at hxs
        unfold icall
        rw [hxs]
        exact hR.le (m' := m + 5) (by omega)
  · try simp only [decide_eq_true_eq, decide_eq_false_iff_not, Bool.not_eq_true', Bool.not_eq_false', Bool.not_eq_eq_eq_not, Bool.not_true, Bool.not_false, beq_iff_eq, bne_iff_ne, ne_eq, beq_eq_false_iff_ne, bne_eq_false_iff_eq, gt_iff_lt, ge_iff_le, Int.not_lt, Int.not_le] at hg20
    refine wlg_no rfl ?_
    refine wlg_no rfl ?_
    refine wl (ro_pick rfl rfl rfl) ?_
    refine wl_nil (x_then (hK6 _ _ ?_))
    clear hK6 K6
    refine wc_condF rfl ?_
    refine c_exit (x_thenX (x_thenX (x_blkX (x_then (hK3 _ _ ?_)))))
    clear hK5 K5 hK3 K3
    refine forget [(0, _), (1, _), (2, _), (6, _), (7, _)] ⟨rfl, rfl, rfl, rfl, rfl, trivial⟩ (fun e => ?_)
    refine c_seq (fun K15 hK15 => ?_)
    refine c_reg ?_ -- region 7 compm.go:274
    refine wl (ro_move rfl) ?_
    refine wl (ro_move rfl) ?_
    refine wl (ro_move rfl) ?_
    refine wl (ro_move rfl) ?_
    refine wl_call rfl en_55 (do55 (k := 22) (n := n) (x := xs.length) hR.dr he (by omega)) ?_
    rintro _ u6 ⟨rfl, ow6, x6, f6, r6⟩
    obtain ⟨h6, kh6⟩ := cm_loc x6 f6 h6 kh6
    obtain ⟨hN, khN⟩ := cm_loc x6 f6 hN khN
    have hs6 := hF.size
    replace hF := cm_trans hX hF f6
    replace hX := hX.trans hs6 x6
    replace hR := r6
    refine wl_nil (x_then (hK15 _ _ ?_))
    clear hK15 K15
    refine c_seq (fun K16 hK16 => ?_)
    refine c_seq (fun K17 hK17 => ?_)
    refine c_reg ?_ -- region 8 compm.go:275
    refine wl (ro_move rfl) ?_
    refine wl (ro_arith rfl rfl rfl (Go.IntWalk.i64_in _ (by omega))) ?_
    refine wl (ro_assign rfl) ?_
    refine wl_nil (x_then (hK17 _ _ ?_))
    clear hK17 K17
    refine c_block ?_
    -- loop@r9: live slots [0, 1, 2, 6, 9]
    refine c_loopG (fun mm a' w' => ∃ j ow', mm = j ∧ j ≤ xs.length ∧ Xt w ow ow' ∧ Fram (tg ow cmT) w w' ∧ RM G root np tb rb (.slice (some ⟨gn, 0, none⟩) G.length capn) w' ow' β τ (m + 1 + (xs.length - j)) ((xs.drop j).foldr (fun a s => ido 2 a 0 ev s) (ido 22 n xs.length ev s)) ∧ Blk w'.heap b6 (i64s xs ++ List.replicate (3 - xs.length) (i64c 0)) 281 ∧ ow' b6 = 66 ∧ Blk w'.heap gn ln 148 ∧ ow' gn = 67 ∧ ∃ e, a' = Fr 65 (upds e [(0, ptr rb), (1, i64c n), (2, .pointer o), (6, ptr b6), (9, .int .i64 ((j : Int) - 1))]) []) xs.length ⟨xs.length, _, rfl, Nat.le_refl _, hX, hF, by rw [Nat.sub_self, List.drop_length]; exact hR, h6, kh6, hN, khN, kp _ ⟨rfl, rfl, rfl, rfl, rfl, trivial⟩⟩ ?_
    clear hF hR h6 hN kh6 khN hX
    rintro mm a' u3 ⟨j, ow3, rfl, hj, hX, hF, hR, h6, kh6, hN, khN, e, rfl⟩
    refine c_seq (fun K18 hK18 => ?_)
    refine c_seq (fun K19 hK19 => ?_)
    refine c_reg ?_ -- region 9 compm.go:275
    refine wl (ro_move rfl) ?_
    refine wl (ro_cmp rfl rfl rfl) ?_
    refine wl_nil (x_then (hK19 _ _ ?_))
    clear hK19 K19
    refine wc_cond rfl (fun hc45 => ?_) (fun hc45 => ?_)
    · try simp only [decide_eq_true_eq, decide_eq_false_iff_not, Bool.not_eq_true', Bool.not_eq_false', Bool.not_eq_eq_eq_not, Bool.not_true, Bool.not_false, beq_iff_eq, bne_iff_ne, ne_eq, beq_eq_false_iff_ne, bne_eq_false_iff_eq, gt_iff_lt, ge_iff_le, Int.not_lt, Int.not_le] at hc45
      obtain ⟨i, rfl⟩ : ∃ i, mm = i + 1 := ⟨mm - 1, by omega⟩
      obtain ⟨x, hx⟩ : ∃ x, xs[i]? = some x := ⟨_, List.getElem?_eq_getElem (by omega)⟩
      refine c_skip (x_then (hK18 _ _ ?_))
      clear hK18 K18
      refine forget [(0, _), (1, _), (2, _), (6, _), (9, _)] ⟨rfl, rfl, rfl, rfl, rfl, trivial⟩ (fun e => ?_)
      refine c_seq (fun K20 hK20 => ?_)
      refine c_block ?_
      refine c_reg ?_ -- region 11 compm.go:276
      refine wl (ro_move rfl) ?_
      refine wl (ro_move rfl) ?_
      refine wl (ro_indexAddrA (et := 3) (k := 1) rfl rfl ar_281 ((show (((i + 1 : Nat) : Int) - 1) = ((i : Nat) : Int) by omega)) ((by omega))) ?_
      refine wl (ro_loadB rfl sc_3 (h6) (arr_get hx)) ?_
      refine wl (ro_move rfl) ?_
      refine wl_call rfl en_55 (do55 (k := 2) (n := x) (x := 0) hR.dr he (by omega)) ?_
      rintro _ u7 ⟨rfl, ow7, x7, f7, r7⟩
      obtain ⟨h6, kh6⟩ := cm_loc x7 f7 h6 kh6
      obtain ⟨hN, khN⟩ := cm_loc x7 f7 hN khN
      have hs7 := hF.size
      replace hF := cm_trans hX hF f7
      replace hX := hX.trans hs7 x7
      replace hR := r7
      refine wl_nil (x_blk (x_then (hK20 _ _ ?_)))
      clear hK20 K20
      refine c_reg ?_ -- region 10 compm.go:275
      refine wl (ro_move rfl) ?_
      refine wl (ro_arith rfl rfl rfl (Go.IntWalk.i64_in _ (by omega))) ?_
      refine wl (ro_assign rfl) ?_
      refine wl_nil (x_then ?_)
      refine ⟨i, by omega, i, _, rfl, by omega, hX, hF, ?_, h6, kh6, hN, khN, ?_⟩
      · rw [drop_pred hx, show m + 1 + (xs.length - i) = m + 1 + (xs.length - (i + 1)) + 1 by omega]
        exact hR
      · rw [show (((i : Nat) : Int) - 1) = (((i + 1 : Nat) : Int) - 1) - 1 by omega]
        exact kp _ ⟨rfl, rfl, rfl, rfl, rfl, trivial⟩
    · try simp only [decide_eq_true_eq, decide_eq_false_iff_not, Bool.not_eq_true', Bool.not_eq_false', Bool.not_eq_eq_eq_not, Bool.not_true, Bool.not_false, beq_iff_eq, bne_iff_ne, ne_eq, beq_eq_false_iff_ne, bne_eq_false_iff_eq, gt_iff_lt, ge_iff_le, Int.not_lt, Int.not_le] at hc45
      have hj0 : mm = 0 := by omega
      subst hj0
      refine c_exit (x_thenX (x_thenX (x_blkX (x_then (hK16 _ _ ?_)))))
      clear hK18 K18 hK16 K16
      obtain ⟨cv, hv_, a0, a1, a2, a3, a4, hXr, hq2, hq3, hq4⟩ := hR.r
      unfold rnc at hXr
      have hk70 := hR.t70
      refine c_reg ?_ -- region 12 compm.go:278
      refine wl (ro_move rfl) ?_
      refine wl (ro_move rfl) ?_
      refine wl (ro_nilCheck rfl) ?_
      refine wl (ro_fieldAddr (k := 2) rfl fo_112_2) ?_
      refine wl (ro_loadB rfl sc_77 (by assumption) rfl) ?_
      refine wl (ro_move rfl) ?_
      refine wl (ro_indexAddr (et := 148) (k := 8) rfl rfl se_77 rfl (by omega)) ?_
      refine wl (ro_fieldAddr (k := 1) rfl fo_148_1) ?_
      refine wl (ro_loadB rfl sc_3 (hN) (row_get hpn (by decide))) ?_
      refine wl (ro_move rfl) ?_
      refine wl_call rfl en_55 (do55 (k := 2) (n := (nd G n).A) (x := 0) hR.dr he (by omega)) ?_
      rintro _ u8 ⟨rfl, ow8, x8, f8, r8⟩
      obtain ⟨h6, kh6⟩ := cm_loc x8 f8 h6 kh6
      obtain ⟨hN, khN⟩ := cm_loc x8 f8 hN khN
      have hs8 := hF.size
      replace hF := cm_trans hX hF f8
      replace hX := hX.trans hs8 x8
      replace hR := r8
      refine wl_nil ?_
      refine bp_end Tryz.results107 rfl ?_
      refine ⟨rfl, _, hX, hF, ?_⟩
      have ei : iargs G (3 - xs.length) a = [] := by
        first
        | (rw [show 3 - xs.length = 0 by omega]; rfl)
        | (rw [show a = 0 by omega]; cases 3 - xs.length <;> rfl)
      rw [ei, List.append_nil] at hxs
      unfold icall
      rw [hxs]
      exact hR.le (m' := m + 5) (by omega)

end Go.Proofs.Qxb6500568aGreatDoor
