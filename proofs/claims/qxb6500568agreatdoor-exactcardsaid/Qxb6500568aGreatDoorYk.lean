import Derived.Test.Qxb6500568aGreatDoorYj
/- The interpreter: items, set, call. -/
namespace Go.Proofs.Qxb6500568aGreatDoor
open Ieee
set_option linter.unusedVariables false
set_option linter.unusedSimpArgs false
set_option linter.unusedSectionVars false

theorem items71 {G : Arena} {root : Nat} {np : Value} {tb rb : Nat} {nv : Value} {w : World} {ow : Nat → Nat} {β τ : List Nat} {m : Nat} {s : IS} (hR : RM G root np tb rb nv w ow β τ m s) {n i e : Nat} {o : Option Addr} (he : EP β e o) (hm : m ≤ 19990) :
    Ret Tryz.prog 71 [ptr rb, i64c n, i64c i, .pointer o] w (fun r w' => r = .tuple #[] ∧ RP G root np tb rb nv w ow β τ (m + 2) (iitems n i e s) w') := by
  have hF : Fram (tg ow cmT) w w := Fram.refl _ _
  have hX : Xt w ow ow := Xt.refl _ _
  refine ret_of Tryz.func71 rfl Tryz.ntmps71 rfl ?_
  refine c_seq (fun K1 hK1 => ?_)
  refine c_seq (fun K2 hK2 => ?_)
  refine c_reg ?_ -- region 0 compm.go:428
  refine wl (ro_move rfl) ?_
  refine wl (ro_cmp rfl rfl rfl) ?_
  refine wl_nil (x_then (hK2 _ _ ?_))
  clear hK2 K2
  refine wc_cond rfl (fun hc9 => ?_) (fun hc9 => ?_)
  · try simp only [decide_eq_true_eq, decide_eq_false_iff_not, Bool.not_eq_true', Bool.not_eq_false', Bool.not_eq_eq_eq_not, Bool.not_true, Bool.not_false, beq_iff_eq, bne_iff_ne, ne_eq, beq_eq_false_iff_ne, bne_eq_false_iff_eq, gt_iff_lt, ge_iff_le, Int.not_lt, Int.not_le] at hc9
    refine c_ret (x_thenR ?_)
    refine bp_ret Tryz.results71 rfl ?_
    refine ⟨rfl, ow, Xt.refl _ _, hF, ?_⟩
    unfold iitems
    rw [if_pos (by omega)]
    exact hR.le (by omega)
  · try simp only [decide_eq_true_eq, decide_eq_false_iff_not, Bool.not_eq_true', Bool.not_eq_false', Bool.not_eq_eq_eq_not, Bool.not_true, Bool.not_false, beq_iff_eq, bne_iff_ne, ne_eq, beq_eq_false_iff_ne, bne_eq_false_iff_eq, gt_iff_lt, ge_iff_le, Int.not_lt, Int.not_le] at hc9
    refine c_skip (x_then (hK1 _ _ ?_))
    clear hK1 K1
    refine forget [(0, _), (1, _), (2, _), (3, _)] ⟨rfl, rfl, rfl, rfl, trivial⟩ (fun e => ?_)
    refine c_seq (fun K3 hK3 => ?_)
    refine c_reg ?_ -- region 1 compm.go:431
    refine wl (ro_move rfl) ?_
    refine wl (ro_move rfl) ?_
    refine wl (ro_move rfl) ?_
    refine wl (ro_move rfl) ?_
    refine wl_call rfl en_55 (do55 (k := 23) (n := n) (x := i) hR.dr he (by omega)) ?_
    rintro _ u1 ⟨rfl, ow1, x1, f1, r1⟩
    have hs1 := hF.size
    replace hF := cm_trans hX hF f1
    replace hX := hX.trans hs1 x1
    replace hR := r1
    refine wl_nil (x_then (hK3 _ _ ?_))
    clear hK3 K3
    refine c_reg ?_ -- region 2 compm.go:432
    refine wl (ro_move rfl) ?_
    refine wl (ro_move rfl) ?_
    refine wl (ro_move rfl) ?_
    refine wl_call rfl en_55 (do55 (k := 2) (n := n) (x := 0) hR.dr he (by omega)) ?_
    rintro _ u2 ⟨rfl, ow2, x2, f2, r2⟩
    have hs2 := hF.size
    replace hF := cm_trans hX hF f2
    replace hX := hX.trans hs2 x2
    replace hR := r2
    refine wl_nil ?_
    refine bp_end Tryz.results71 rfl ?_
    refine ⟨rfl, _, hX, hF, ?_⟩
    unfold iitems
    rw [if_neg (by omega)]
    exact hR

section
variable {G : Arena} {root : Nat} {np : Value} {tb rb : Nat} {nv : Value} {w w' : World} {ow : Nat → Nat} {β τ : List Nat} {m : Nat} {s : IS} {n : Nat} {k v : PV}
theorem RtP.tabs (h : RtP s) (T : List Tb) : RtP { s with tabs := T } := ⟨h.d, h.x, h.k⟩
theorem mt_cm {ow : Nat → Nat} (f : Fram (tg ow mtag) w w') : Fram (tg ow cmT) w w' := f.mono (fun b _ q => .inr (.inr (.inr q)))
theorem tab_at (hn : n < s.tabs.length) : s.tabs[n]? = some (s.tabs.getD n []) := by rw [List.getD_eq_getElem?_getD, List.getElem?_eq_getElem hn]; rfl
theorem RM.set31 (hR : RM G root np tb rb nv w ow β τ m s) (hn : n < s.tabs.length) (hk : wfV k = true) (hN : W64 k.N) (hv : wfV v = true) (hvN : W64 v.N) (hok : TOK (tSet (s.tabs.getD n []) k v).2) :
    Ret Tryz.prog 31 [ptr tb, i64c n, pv k, pv v] w (fun r w' => r = i64c (tSet (s.tabs.getD n []) k v).1 ∧ RP G root np tb rb nv w ow β τ m { s with tabs := s.tabs.set n (tSet (s.tabs.getD n []) k v).2 } w') :=
  (Set31 hR.M (tab_at hn) hk hN hv hvN hok).mono fun r w' ⟨h1, ow', h2, h3, h4⟩ => ⟨h1, cut66 w' ow', (fun b hb => by rw [cut66_xt w' ow' b (by have := h4.size; omega)]; exact h2 b hb), mt_cm h4, hR.turnM h4 h2 h3⟩
theorem RM.get74 (hR : RM G root np tb rb nv w ow β τ m s) (hn : n < s.tabs.length) (hk : wfV k = true) (hN : W64 k.N) : Ret Tryz.prog 74 [ptr tb, i64c n, pv k] w (fun r w' => r = .tuple #[pv (tGet (s.tabs.getD n []) k), icv 0] ∧ Fram none' w w') := Get74 hR.M (tab_at hn) hk hN
theorem RM.len126 (hR : RM G root np tb rb nv w ow β τ m s) (hn : n < s.tabs.length) : Ret Tryz.prog 126 [ptr tb, i64c n] w (fun r w' => r = .tuple #[i64c (tLen (s.tabs.getD n [])), icv 0] ∧ Fram none' w w') := Len126 hR.M (tab_at hn)
theorem RM.next68 (hR : RM G root np tb rb nv w ow β τ m s) (hn : n < s.tabs.length) (hk : wfV k = true) (hN : W64 k.N) : Ret Tryz.prog 68 [ptr tb, i64c n, pv k] w (fun r w' => nxR (s.tabs.getD n []) k r ∧ Fram none' w w') := Next68 hR.M (tab_at hn) hk hN
/-- a new table. -/
theorem RM.make29 (hR : RM G root np tb rb nv w ow β τ m s) (hn : s.tabs.length < 12) : Ret Tryz.prog 29 [ptr tb] w (fun r w' => r = .tuple #[i64c s.tabs.length, icv 0] ∧ RP G root np tb rb nv w ow β τ m { s with tabs := s.tabs ++ [[]] } w') :=
  (Make29 hR.M).mono fun r w' h => by
    rw [if_neg (by omega)] at h
    obtain ⟨h1, ow', h2, h3, h4⟩ := h
    exact ⟨h1, cut66 w' ow', (fun b hb => by rw [cut66_xt w' ow' b (by have := h4.size; omega)]; exact h2 b hb), mt_cm h4, hR.turnM h4 h2 h3⟩
theorem RM.make29N (hR : RM G root np tb rb nv w ow β τ m s) (hn : 12 ≤ s.tabs.length) : Ret Tryz.prog 29 [ptr tb] w (fun r w' => r = .tuple #[icv (-1), icv 8] ∧ Fram none' w w') :=
  (Make29 hR.M).mono fun r w' h => by
    rw [if_pos hn] at h
    exact ⟨h.1, h.2.2⟩
theorem tSet_er {t : Tb} {k v : PV} (h : (tSet t k v).1 ≠ 0) : (tSet t k v).2 = t := by
  unfold tSet at h ⊢
  split
  · rfl
  · split
    · rfl
    · split
      · simp_all
      · split
        · rfl
        · split
          · rfl
          · simp_all
theorem set_same {T : List Tb} {n : Nat} (h : n < T.length) : T.set n (T.getD n []) = T := by
  apply List.ext_getElem?
  intro j
  rw [List.getElem?_set]
  by_cases e : n = j
  · subst e; rw [if_pos rfl, if_pos h, List.getD_eq_getElem?_getD, List.getElem?_eq_getElem h]; rfl
  · rw [if_neg e]
end
set_option maxHeartbeats 4000000 in
theorem set61 {G : Arena} {root : Nat} {np : Value} {tb rb : Nat} {nv : Value} {w : World} {ow : Nat → Nat} {β τ : List Nat} {m : Nat} {s : IS} (hR : RM G root np tb rb nv w ow β τ m s) {t k v : PV} (ht : t.T = 4 → t.N < s.tabs.length) (hk : wfV k = true) (hN : W64 k.N) (hv : wfV v = true) (hvN : W64 v.N) (hok : TOK (tSet (s.tabs.getD t.N []) k v).2) (hP : RtP s) (hm : m ≤ 19990) :
    Ret Tryz.prog 61 [ptr rb, pv t, pv k, pv v] w (fun r w' => r = .tuple #[] ∧ RP G root np tb rb nv w ow β τ (m + 2) (iset t k v s) w') := by
  have hF : Fram (tg ow cmT) w w := Fram.refl _ _
  have hX : Xt w ow ow := Xt.refl _ _
  have h12 := hR.M.len
  refine ret_of Tryz.func61 rfl Tryz.ntmps61 rfl ?_
  refine c_seq (fun K1 hK1 => ?_)
  refine c_reg ?_ -- region 0 compm.go:435
  refine wl_box (cs := (pvc t)) rfl rfl (fun b5 w1 hbb5 h5 F1 => ?_)
  have hbsb5 := Nat.le_trans hF.size hbb5
  have kh5 := hR.df b5 hbb5
  replace hF := hF.thenDrew.thenN F1
  replace hR := hR.thruN ((Fram.refl none' _).thenDrew.thenN F1)
  refine wl_box (cs := (pvc k)) rfl rfl (fun b6 w2 hbb6 h6 F2 => ?_)
  have hbsb6 := Nat.le_trans hF.size hbb6
  have hneb5b6 : b5 < b6 := Nat.lt_of_lt_of_le h5.lt hbb6
  have kh6 := hR.df b6 hbb6
  replace hF := hF.thenDrew.thenN F2
  replace hR := hR.thruN ((Fram.refl none' _).thenDrew.thenN F2)
  replace h5 := F2.blkN h5
  refine wl_box (cs := (pvc v)) rfl rfl (fun b7 w3 hbb7 h7 F3 => ?_)
  have hbsb7 := Nat.le_trans hF.size hbb7
  have hneb5b7 : b5 < b7 := Nat.lt_of_lt_of_le h5.lt hbb7
  have hneb6b7 : b6 < b7 := Nat.lt_of_lt_of_le h6.lt hbb7
  have kh7 := hR.df b7 hbb7
  replace hF := hF.thenDrew.thenN F3
  replace hR := hR.thruN ((Fram.refl none' _).thenDrew.thenN F3)
  replace h5 := F3.blkN h5
  replace h6 := F3.blkN h6
  refine wl_nil (x_then (hK1 _ _ ?_))
  clear hK1 K1
  refine c_seq (fun K2 hK2 => ?_)
  refine c_seq (fun K3 hK3 => ?_)
  refine c_reg ?_ -- region 1 compm.go:436
  refine wl (ro_fieldAddr (k := 0) rfl fo_119_0) ?_
  refine wl (ro_loadB rfl sc_3 (by assumption) rfl) ?_
  refine wl (ro_cmp rfl rfl rfl) ?_
  refine wl_nil (x_then (hK3 _ _ ?_))
  clear hK3 K3
  refine wc_cond rfl (fun hc11 => ?_) (fun hc11 => ?_)
  · try simp only [decide_eq_true_eq, decide_eq_false_iff_not, Bool.not_eq_true', Bool.not_eq_false', Bool.not_eq_eq_eq_not, Bool.not_true, Bool.not_false, beq_iff_eq, bne_iff_ne, ne_eq, beq_eq_false_iff_ne, bne_eq_false_iff_eq, gt_iff_lt, ge_iff_le, Int.not_lt, Int.not_le] at hc11
    refine c_seq (fun K4 hK4 => ?_)
    refine c_reg ?_ -- region 2 compm.go:437
    refine wl (ro_move rfl) ?_
    refine wl_call rfl en_64 (raise64 (z := mIndex) hR.dr (by decide) hP hm) ?_
    rintro _ u4 ⟨rfl, ow4, x4, f4, r4⟩
    obtain ⟨h5, kh5⟩ := cm_loc x4 f4 h5 kh5
    obtain ⟨h6, kh6⟩ := cm_loc x4 f4 h6 kh6
    obtain ⟨h7, kh7⟩ := cm_loc x4 f4 h7 kh7
    have hs4 := hF.size
    replace hF := cm_trans hX hF f4
    replace hX := hX.trans hs4 x4
    replace hR := r4
    refine wl_nil (x_then (hK4 _ _ ?_))
    clear hK4 K4
    refine c_ret (x_thenR ?_)
    refine bp_ret Tryz.results61 rfl ?_
    refine ⟨rfl, _, hX, hF, ?_⟩
    unfold iset
    rw [if_pos (by omega)]
    exact hR
  · try simp only [decide_eq_true_eq, decide_eq_false_iff_not, Bool.not_eq_true', Bool.not_eq_false', Bool.not_eq_eq_eq_not, Bool.not_true, Bool.not_false, beq_iff_eq, bne_iff_ne, ne_eq, beq_eq_false_iff_ne, bne_eq_false_iff_eq, gt_iff_lt, ge_iff_le, Int.not_lt, Int.not_le] at hc11
    refine c_skip (x_then (hK2 _ _ ?_))
    clear hK2 K2
    refine forget [(0, _), (5, _), (6, _), (7, _)] ⟨rfl, rfl, rfl, rfl, trivial⟩ (fun e => ?_)
    refine c_seq (fun K5 hK5 => ?_)
    have htN := ht (by omega)
    refine c_pi [(0, false), (1, false), (2, false), (3, false), (4, false), (5, false), (6, false), (7, false), (8, false), (9, true), (10, false)] (La b5 _ _ (La b6 _ _ (La b7 _ _ (Lz rb _ _ _)))) mixed (by kernel_rfl) rfl (by kernel_rfl) (po_then (po_bp)) (⟨h5, h6, h7, hR.rz⟩) ?_ -- region 3 compm.go:440
    refine pi_ro rfl (fun w hS => ro_move rfl) ?_
    refine pi_ro rfl (fun w hS => ro_nilCheck rfl) ?_
    refine pi_ro rfl (fun w hS => ro_fieldAddr (k := 1) rfl fo_112_1) ?_
    refine pi_ro rfl (fun w hS => let ⟨_, hc⟩ := hS.2.2.2; ro_loadB rfl sc_48 hc rfl) ?_
    refine pi_ro rfl (fun w hS => ro_fieldAddr (k := 1) rfl fo_119_1) ?_
    refine pi_ro rfl (fun w hS => ro_loadB rfl sc_117 (hS.1) rfl) ?_
    refine pi_ro rfl (fun w hS => ro_conv rfl sc_117 in_3 (Go.IntWalk.i64_in _ (by omega))) ?_
    refine pi_ro rfl (fun w hS => ro_loadAggB rfl ag_119 (hS.2.1) rfl rfl) ?_
    refine pi_ro rfl (fun w hS => ro_loadAggB rfl ag_119 (hS.2.2.1) rfl rfl) ?_
    refine pi_call rfl rfl en_31 (hR.dr.set31 htN hk hN hv hvN hok) ?_
    rintro _ u5 ⟨rfl, ow5, x5, f5, r5⟩
    obtain ⟨h5, kh5⟩ := cm_loc x5 f5 h5 kh5
    obtain ⟨h6, kh6⟩ := cm_loc x5 f5 h6 kh6
    obtain ⟨h7, kh7⟩ := cm_loc x5 f5 h7 kh7
    have hs5 := hF.size
    replace hF := cm_trans hX hF f5
    replace hX := hX.trans hs5 x5
    replace hR := r5
    refine ⟨⟨h5, h6, h7, hR.rz⟩, ?_⟩
    refine pi_ro rfl (fun w hS => ro_assign rfl) ?_
    refine pi_nil (x_then (hK5 _ _ ?_))
    clear hK5 K5
    refine c_seq (fun K6 hK6 => ?_)
    refine c_seq (fun K7 hK7 => ?_)
    refine c_reg ?_ -- region 4 compm.go:441
    refine wl (ro_move rfl) ?_
    refine wl (ro_cmp rfl rfl rfl) ?_
    refine wl_nil (x_then (hK7 _ _ ?_))
    clear hK7 K7
    refine wc_cond rfl (fun hc25 => ?_) (fun hc25 => ?_)
    · try simp only [decide_eq_true_eq, decide_eq_false_iff_not, Bool.not_eq_true', Bool.not_eq_false', Bool.not_eq_eq_eq_not, Bool.not_true, Bool.not_false, beq_iff_eq, bne_iff_ne, ne_eq, beq_eq_false_iff_ne, bne_eq_false_iff_eq, gt_iff_lt, ge_iff_le, Int.not_lt, Int.not_le] at hc25
      have h8 : (tSet (s.tabs.getD t.N []) k v).1 = 8 := by omega
      have hsm : ({ s with tabs := s.tabs.set t.N (tSet (s.tabs.getD t.N []) k v).2 } : IS) = s := by rw [tSet_er (by omega), set_same htN]
      rw [hsm] at hR
      refine c_seq (fun K8 hK8 => ?_)
      refine c_reg ?_ -- region 5 compm.go:442
      refine wl (ro_move rfl) ?_
      refine wl_call rfl en_109 (finish109 hR.dr) ?_
      rintro _ u6 ⟨rfl, ow6, x6, f6, r6⟩
      obtain ⟨h5, kh5⟩ := cm_loc x6 f6 h5 kh5
      obtain ⟨h6, kh6⟩ := cm_loc x6 f6 h6 kh6
      obtain ⟨h7, kh7⟩ := cm_loc x6 f6 h7 kh7
      have hs6 := hF.size
      replace hF := cm_trans hX hF f6
      replace hX := hX.trans hs6 x6
      replace hR := r6
      refine wl_nil (x_then (hK8 _ _ ?_))
      clear hK8 K8
      refine c_ret (x_thenR ?_)
      refine bp_ret Tryz.results61 rfl ?_
      refine ⟨rfl, _, hX, hF, ?_⟩
      unfold iset
      rw [if_neg (by omega)]
      simp only
      rw [if_pos h8]
      exact hR.le (by omega)
    · try simp only [decide_eq_true_eq, decide_eq_false_iff_not, Bool.not_eq_true', Bool.not_eq_false', Bool.not_eq_eq_eq_not, Bool.not_true, Bool.not_false, beq_iff_eq, bne_iff_ne, ne_eq, beq_eq_false_iff_ne, bne_eq_false_iff_eq, gt_iff_lt, ge_iff_le, Int.not_lt, Int.not_le] at hc25
      refine c_skip (x_then (hK6 _ _ ?_))
      clear hK6 K6
      refine forget [(0, _), (8, _)] ⟨rfl, rfl, trivial⟩ (fun e => ?_)
      refine c_seq (fun K9 hK9 => ?_)
      refine c_reg ?_ -- region 6 compm.go:445
      refine wl (ro_move rfl) ?_
      refine wl (ro_cmp rfl rfl rfl) ?_
      refine wl_nil (x_then (hK9 _ _ ?_))
      clear hK9 K9
      refine wc_cond rfl (fun hc29 => ?_) (fun hc29 => ?_)
      · try simp only [decide_eq_true_eq, decide_eq_false_iff_not, Bool.not_eq_true', Bool.not_eq_false', Bool.not_eq_eq_eq_not, Bool.not_true, Bool.not_false, beq_iff_eq, bne_iff_ne, ne_eq, beq_eq_false_iff_ne, bne_eq_false_iff_eq, gt_iff_lt, ge_iff_le, Int.not_lt, Int.not_le] at hc29
        have hsm : ({ s with tabs := s.tabs.set t.N (tSet (s.tabs.getD t.N []) k v).2 } : IS) = s := by rw [tSet_er (by omega), set_same htN]
        rw [hsm] at hR
        refine c_reg ?_ -- region 7 compm.go:446
        refine wl (ro_move rfl) ?_
        refine wl_call rfl en_64 (raise64 (z := mKey) hR.dr (by decide) hP hm) ?_
        rintro _ u7 ⟨rfl, ow7, x7, f7, r7⟩
        obtain ⟨h5, kh5⟩ := cm_loc x7 f7 h5 kh5
        obtain ⟨h6, kh6⟩ := cm_loc x7 f7 h6 kh6
        obtain ⟨h7, kh7⟩ := cm_loc x7 f7 h7 kh7
        have hs7 := hF.size
        replace hF := cm_trans hX hF f7
        replace hX := hX.trans hs7 x7
        replace hR := r7
        refine wl_nil ?_
        refine bp_end Tryz.results61 rfl ?_
        refine ⟨rfl, _, hX, hF, ?_⟩
        unfold iset
        rw [if_neg (by omega)]
        simp only
        rw [if_neg (by omega), if_pos (by omega)]
        exact hR
      · try simp only [decide_eq_true_eq, decide_eq_false_iff_not, Bool.not_eq_true', Bool.not_eq_false', Bool.not_eq_eq_eq_not, Bool.not_true, Bool.not_false, beq_iff_eq, bne_iff_ne, ne_eq, beq_eq_false_iff_ne, bne_eq_false_iff_eq, gt_iff_lt, ge_iff_le, Int.not_lt, Int.not_le] at hc29
        refine c_skip ?_
        refine bp_end Tryz.results61 rfl ?_
        refine ⟨rfl, _, hX, hF, ?_⟩
        unfold iset
        rw [if_neg (by omega)]
        simp only
        rw [if_neg (by omega), if_neg (by omega)]
        exact hR.le (by omega)

end Go.Proofs.Qxb6500568aGreatDoor
