import Derived.Test.Qxb6500570aGreatEe
/- The real graph: the order, by counting. -/
namespace Go.Proofs.Qxb6500570aGreat
set_option linter.unusedVariables false
set_option linter.unusedSimpArgs false

theorem cP_or {p q : Nat → Bool} : ∀ {n}, (∀ j, j < n → p j = true → q j = false) → cP (fun j => p j || q j) n = cP p n + cP q n
  | 0, _ => rfl
  | n + 1, h => by
    have ih := cP_or (p := p) (q := q) (n := n) (fun j hj => h j (by omega))
    have := h n (by omega)
    unfold cP
    rw [ih]
    cases hp : p n <;> cases hq : q n <;> simp_all <;> omega
/-- The rank of a cell in a set. -/
def rkF (L : Nat → Int) (m : Nat) (x : Nat) : Nat := cP (fun y => m.testBit y && decide (L y < L x ∨ (L y = L x ∧ y < x))) 24
theorem rk_lt {L : Nat → Int} {m x y : Nat} (hx : x < 24) (hm : m.testBit x = true) (h : lexP L x y) : rkF L m x < rkF L m y := by
  unfold rkF
  refine cP_more (k := x) (fun j hj q => ?_) hx ?_ ?_
  · simp only [Bool.and_eq_true, decide_eq_true_eq] at q ⊢
    unfold lexP at h
    exact ⟨q.1, by omega⟩
  · simp
  · simp only [Bool.and_eq_true, decide_eq_true_eq]
    exact ⟨hm, h⟩
theorem rk_n {L : Nat → Int} {m x : Nat} (hx : x < 24) (hm : m.testBit x = true) : rkF L m x < cP (fun y => m.testBit y) 24 := by
  unfold rkF
  refine cP_more (k := x) (fun j hj q => ?_) hx ?_ hm
  · simp only [Bool.and_eq_true] at q; exact q.1
  · simp
set_option maxHeartbeats 8000000 in
theorem OrderG92 {w : World} {B : GB} {R : Nat → Nat} {s : Nat} (hG : GrR w B R) (hs : s < 2 ^ 24) :
    Ret Tryz.prog 92 [ptr B.g, u32c s] w (fun v w' => (∃ l L, LvOK R L ∧ OrdOK L s l ∧ Own w'.heap v 3 1 l.length (rws onc l) ∧ ∀ b, v.ownBlock = some b → w.heap.size ≤ b) ∧ Fram none' w w') := by
  have hF : Fram none' w w := Fram.refl _ _
  obtain ⟨RL, BL, LL, NL, cy, tc, V, -, -, hlv, hcy, hcb⟩ := hG
  have hB := V.hB
  have hL := V.hL
  have hll := V.ll
  have hsa : s &&& 16777215 = s := by rw [show (16777215 : Nat) = 2 ^ 24 - 1 from rfl, and_mod, Nat.mod_eq_of_lt hs]
  have hLb : ∀ c, c < 24 → lF LL c ≤ 23 := fun c hc => (hlv.bd c hc).2
  have hmx : ∀ x, x < 24 → (dif s cy).testBit x = (s.testBit x && decide (0 ≤ lF LL x)) := by
    intro x hx
    rw [dif_bit]
    have h1 := hcb x hx
    have h2 := (hlv.bd x hx).1
    cases hq : cy.testBit x with
    | true => have := h1.1 hq; simp [this]
    | false =>
      have h3 : lF LL x ≠ -1 := fun e => by rw [h1.2 e] at hq; cases hq
      have h4 : 0 ≤ lF LL x := by omega
      simp [h4]
  have hm24 : dif s cy < 2 ^ 24 := dif_lt hs
  generalize hmm : dif s cy = m at hmx hm24
  have hmb : ∀ x, x < 24 → m.testBit x = true → 0 ≤ lF LL x ∧ lF LL x ≤ 23 := by
    intro x hx q
    rw [hmx x hx] at q
    simp only [Bool.and_eq_true, decide_eq_true_eq] at q
    exact ⟨q.2, hLb x hx⟩
  have hrk : ∀ x, cP (fun y => s.testBit y && decide (0 ≤ lF LL y) && decide (lF LL y < lF LL x ∨ (lF LL y = lF LL x ∧ y < x))) 24 = rkF (lF LL) m x := fun x => cP_ext (fun j hj => by rw [hmx j hj])
  have hcm : cP (fun x => s.testBit x && decide (0 ≤ lF LL x)) 24 = cP (fun y => m.testBit y) 24 := cP_ext (fun j hj => by rw [hmx j hj])
  have hn24 := cP_le (fun y => m.testBit y) 24
  refine ret_of Tryz.func92 rfl Tryz.ntmps92 rfl ?_
  refine c_seq (fun K1 hK1 => ?_)
  refine c_reg ?_ -- region 0 graph.go:115
  refine wl (ro_assign rfl) ?_
  refine wl_nil (x_then (hK1 _ _ ?_))
  clear hK1 K1
  refine forget [(0, _), (1, _)] ⟨rfl, rfl, trivial⟩ (fun e => ?_)
  refine c_seq (fun K2 hK2 => ?_)
  refine c_reg ?_ -- region 1 graph.go:116
  refine wl (ro_move rfl) ?_
  refine wl (ro_and32 rfl rfl (by omega) (by decide)) ?_
  refine wl (ro_move rfl) ?_
  refine wl (ro_nilCheck rfl) ?_
  refine wl (ro_fieldAddr (k := 3) rfl fo_91_3) ?_
  refine wl (ro_loadB rfl sc_85 (by assumption) rfl) ?_
  refine wl (ro_dif32 rfl rfl (by rw [hsa]; omega) (by omega)) ?_
  refine wl (ro_assign rfl) ?_
  refine wl_nil (x_then (hK2 _ _ ?_))
  clear hK2 K2
  refine c_seq (fun K3 hK3 => ?_)
  refine c_seq (fun K4 hK4 => ?_)
  rw [hsa, hmm]
  refine c_reg ?_ -- region 2 graph.go:117
  refine wl (ro_move rfl) ?_
  refine wl (ro_cmp (r := decide (m = 0)) rfl rfl (congrArg some (eq0 m))) ?_
  refine wl_nil (x_then (hK4 _ _ ?_))
  clear hK4 K4
  refine wc_cond rfl (fun hc21 => ?_) (fun hc21 => ?_)
  · try simp only [decide_eq_true_eq, decide_eq_false_iff_not, Bool.not_eq_true', Bool.not_eq_false', Bool.not_eq_eq_eq_not, Bool.not_true, Bool.not_false, beq_iff_eq, bne_iff_ne, ne_eq, beq_eq_false_iff_ne, bne_eq_false_iff_eq, gt_iff_lt, ge_iff_le, Int.not_lt, Int.not_le] at hc21
    refine c_seq (fun K5 hK5 => ?_)
    refine c_reg ?_ -- region 3 graph.go:118
    refine wl (ro_assign rfl) ?_
    refine wl_nil (x_then (hK5 _ _ ?_))
    clear hK5 K5
    refine c_ret (x_thenR ?_)
    refine bp_ret Tryz.results92 rfl ?_
    refine ⟨⟨[], lF LL, hlv, ⟨fun x => ⟨fun q => by simp at q, fun q => ?_⟩, List.Pairwise.nil⟩, Own.nil _ _ _, fun b hb => by simp [Value.ownBlock] at hb⟩, hF⟩
    have := hmx x q.1
    rw [hc21, q.2.1] at this
    simp [q.2.2] at this
  · try simp only [decide_eq_true_eq, decide_eq_false_iff_not, Bool.not_eq_true', Bool.not_eq_false', Bool.not_eq_eq_eq_not, Bool.not_true, Bool.not_false, beq_iff_eq, bne_iff_ne, ne_eq, beq_eq_false_iff_ne, bne_eq_false_iff_eq, gt_iff_lt, ge_iff_le, Int.not_lt, Int.not_le] at hc21
    refine c_skip (x_then (hK3 _ _ ?_))
    clear hK3 K3
    refine forget [(0, _), (1, _)] ⟨rfl, rfl, trivial⟩ (fun e => ?_)
    refine c_seq (fun K6 hK6 => ?_)
    refine c_reg ?_ -- region 4 graph.go:120
    refine wl_make (len := 25) (cap := 25) rfl rfl se_79 ze_3 (by simp) (by omega) (by omega) rfl bb_3 (fun ab w1 hbab hA F1 => ?_)
    have hbsab := Nat.le_trans hF.size hbab
    have hneBgab : B.g < ab := Nat.lt_of_lt_of_le hB.lt hbab
    have hneBlab : B.l < ab := Nat.lt_of_lt_of_le hL.lt hbab
    replace hF := hF.thenDrew.thenN F1
    replace hB := F1.blkN hB
    replace hL := F1.blkN hL
    have hA0 : Blk _ ab (rws onc (List.replicate 25 0)) 3 := (by rw [← zc_rws (enc := onc) (x0 := 0) rfl onc_len 25]; exact hA)
    refine wl (ro_assign rfl) ?_
    refine wl_nil (x_then (hK6 _ _ ?_))
    clear hK6 K6
    refine forget [(0, _), (1, _), (5, _)] ⟨rfl, rfl, rfl, trivial⟩ (fun e => ?_)
    refine c_seq (fun K7 hK7 => ?_)
    refine c_reg ?_ -- region 5 graph.go:121
    refine wl (ro_assign rfl) ?_
    refine wl_nil (x_then (hK7 _ _ ?_))
    clear hK7 K7
    refine c_seq (fun K8 hK8 => ?_)
    refine c_seq (fun K9 hK9 => ?_)
    refine c_reg ?_ -- region 6 graph.go:122
    refine wl (ro_move rfl) ?_
    refine wl (ro_assign rfl) ?_
    refine wl_nil (x_then (hK9 _ _ ?_))
    clear hK9 K9
    refine c_block ?_
    -- loop@r7: live slots [0, 1, 5, 6, 7]
    refine c_loopG (fun q a' w' => ∃ t n AL, q = cntN t 24 ∧ t < 2 ^ 24 ∧ AL.length = 25 ∧ (∀ j, j < 24 → t.testBit j = true → m.testBit j = true) ∧ n = cP (fun x => m.testBit x && !t.testBit x) 24 ∧ (∀ j, j ≤ 24 → rF AL j = cP (fun x => m.testBit x && !t.testBit x && decide (lF LL x + 1 = (j : Int))) 24) ∧ Blk w'.heap ab (rws onc AL) 3 ∧ Blk w'.heap B.g (gst B cy tc) 91 ∧ Blk w'.heap B.l (rws ivc LL) 3 ∧ Fram none' w w' ∧ ∃ e, a' = Fr 101 (upds e [(0, ptr B.g), (1, u32c m), (5, sl ab 25), (6, i64c n), (7, u32c t)]) []) _ ⟨m, 0, List.replicate 25 0, rfl, hm24, List.length_replicate, fun _ _ q => q, ?_, fun j hj => ?_, hA0, hB, hL, hF, kp _ ⟨rfl, rfl, rfl, rfl, rfl, trivial⟩⟩ ?_
    · rw [cP_ext (q := fun _ => false) (fun j _ => by cases m.testBit j <;> rfl)]
      rfl
    · rw [rF_rep, cP_ext (q := fun _ => false) (fun j _ => by cases m.testBit j <;> simp)]
      rfl
    clear hA hB hL hF hA0
    rintro q a' u1 ⟨t, n, AL, rfl, ht, hal, i1, i2, i3, hA, hB, hL, hF, e, rfl⟩
    have hnn := cP_le (fun x => m.testBit x && !t.testBit x) 24
    refine c_seq (fun K10 hK10 => ?_)
    refine c_seq (fun K11 hK11 => ?_)
    refine c_reg ?_ -- region 7 graph.go:122
    refine wl (ro_move rfl) ?_
    refine wl (ro_cmp (r := decide (t ≠ 0)) rfl rfl (congrArg some (bnec t 0))) ?_
    refine wl_nil (x_then (hK11 _ _ ?_))
    clear hK11 K11
    refine wc_cond rfl (fun hc25 => ?_) (fun hc25 => ?_)
    · try simp only [decide_eq_true_eq, decide_eq_false_iff_not, Bool.not_eq_true', Bool.not_eq_false', Bool.not_eq_eq_eq_not, Bool.not_true, Bool.not_false, beq_iff_eq, bne_iff_ne, ne_eq, beq_eq_false_iff_ne, bne_eq_false_iff_eq, gt_iff_lt, ge_iff_le, Int.not_lt, Int.not_le] at hc25
      obtain ⟨k, hk⟩ := low_ex _ _ (Nat.le_refl _) hc25
      have hk24 := hk.lt ht
      have hla := low_and hk
      have hlt : t &&& (t - 1) < 2 ^ 24 := Nat.lt_of_le_of_lt Nat.and_le_left ht
      have hs1 : 1 ≤ t := by omega
      have e1 := cntN_off (s := t) (t := t &&& (t - 1)) hk.1 hla (n := 24) hk24
      have hoff : ∀ j, (t &&& (t - 1)).testBit j = true → t.testBit j = true ∧ j ≠ k := fun j q => by rw [hla] at q; simpa using q
      have hon : ∀ j, (t &&& (t - 1)).testBit j = false → j ≠ k → t.testBit j = false := fun j q hj => by rw [hla] at q; simpa [hj] using q
      have hmk := i1 k hk24 hk.1
      obtain ⟨lk, hlk⟩ : ∃ lk : Nat, lF LL k = (lk : Int) := ⟨(lF LL k).toNat, by have := (hmb k hk24 hmk).1; omega⟩
      have hlk23 := (hmb k hk24 hmk).2
      have hav := i3 (lk + 1) (by omega)
      have havl := cP_le (fun x => m.testBit x && !t.testBit x && decide (lF LL x + 1 = ((lk + 1 : Nat) : Int))) 24
      have hset : ∀ x, rF (AL.set (lk + 1) (rF AL (lk + 1) + 1)) x = if x = lk + 1 then rF AL (lk + 1) + 1 else rF AL x := fun x => rF_set (by omega)
      refine c_skip (x_then (hK10 _ _ ?_))
      clear hK10 K10
      refine forget [(0, _), (1, _), (5, _), (6, _), (7, _)] ⟨rfl, rfl, rfl, rfl, rfl, trivial⟩ (fun e => ?_)
      refine c_seq (fun K12 hK12 => ?_)
      refine c_block ?_
      refine c_seq (fun K13 hK13 => ?_)
      refine c_reg ?_ -- region 9 graph.go:123
      refine wl (ro_move rfl) ?_
      refine wl_call rfl en_114 (first114 (by omega) hk) ?_
      rintro _ _ ⟨rfl, rfl⟩
      refine wl (ro_assign rfl) ?_
      refine wl_nil (x_then (hK13 _ _ ?_))
      clear hK13 K13
      refine forget [(0, _), (1, _), (5, _), (6, _), (7, _), (8, _)] ⟨rfl, rfl, rfl, rfl, rfl, rfl, trivial⟩ (fun e => ?_)
      refine c_seq (fun K14 hK14 => ?_)
      refine c_reg ?_ -- region 10 graph.go:124
      refine wl (ro_move rfl) ?_
      refine wl (ro_move rfl) ?_
      refine wl (ro_nilCheck rfl) ?_
      refine wl (ro_fieldAddr (k := 2) rfl fo_91_2) ?_
      refine wl (ro_loadB rfl sc_79 (by assumption) rfl) ?_
      refine wl (ro_move rfl) ?_
      refine wl (ro_indexAddr (et := 3) (k := 1) rfl rfl se_79 rfl (by omega)) ?_
      refine wl (ro_loadB rfl sc_3 (hL) ((rw_get ivc_len (lF_get (RL := LL) (c := k) (by omega)) (j := 0) (by omega) rfl))) ?_
      refine wl (ro_arith (r := ((lk + 1 : Nat) : Int)) rfl rfl (congrArg some (by rw [hlk]; omega)) (Go.IntWalk.i64_in _ (by omega))) ?_
      refine wl (ro_indexAddr (et := 3) (k := 1) rfl rfl se_79 rfl (by omega)) ?_
      refine wl (ro_loadB rfl sc_3 (hA) ((rw_get onc_len (rF_get (RL := AL) (c := lk + 1) (by omega)) (j := 0) (by omega) rfl))) ?_
      refine wl (ro_arith (r := ((rF AL (lk + 1) + 1 : Nat) : Int)) rfl rfl rfl (Go.IntWalk.i64_in _ (by omega))) ?_
      refine wl (ro_indexAddr (et := 3) (k := 1) rfl rfl se_79 rfl (by omega)) ?_
      refine wl_put rfl rfl rfl sz_3 hA ((rw_fit onc_len (i := lk + 1) (j := 0) (m := 1) (by omega) (by omega) (by omega))) ((rw_put onc_len (i := lk + 1) (j := 0) (x := rF AL (lk + 1)) (x' := rF AL (lk + 1) + 1) (rF_get (by omega)) (by omega) (by omega) rfl)) (fun w2 hA F2 => ?_)
      replace hF := hF.thenDrew.thenO F2 (by first | exact .inr (by omega) | exact .inl rfl | exact .inl (by assumption))
      replace hB := F2.blkO hB (by omega)
      replace hL := F2.blkO hL (by omega)
      refine wl_nil (x_then (hK14 _ _ ?_))
      clear hK14 K14
      refine c_reg ?_ -- region 11 graph.go:125
      refine wl (ro_move rfl) ?_
      refine wl (ro_arith (r := ((n + 1 : Nat) : Int)) rfl rfl rfl (Go.IntWalk.i64_in _ (by omega))) ?_
      refine wl (ro_assign rfl) ?_
      refine wl_nil (x_blk (x_then (hK12 _ _ ?_)))
      clear hK12 K12
      refine c_reg ?_ -- region 8 graph.go:122
      refine wl (ro_move rfl) ?_
      refine wl (ro_move rfl) ?_
      refine wl (ro_arith (r := ((t - 1 : Nat) : Int)) rfl rfl (congrArg some (by omega)) (Go.IntWalk.u32_in _ (by omega))) ?_
      refine wl (ro_and32 rfl rfl (by omega) (by omega)) ?_
      refine wl (ro_assign rfl) ?_
      refine wl_nil (x_then ?_)
      refine ⟨_, by omega, t &&& (t - 1), n + 1, AL.set (lk + 1) (rF AL (lk + 1) + 1), rfl, hlt, by rw [List.length_set]; exact hal, fun j hj q => i1 j hj (hoff j q).1, ?_, fun j hj => ?_, hA, hB, hL, hF, kp _ ⟨rfl, rfl, rfl, rfl, rfl, trivial⟩⟩
      · rw [i2]
        refine (cP_add (k := k) hk24 ?_ ?_ (fun j hj hne => ?_)).symm
        · simp [hk.1]
        · simp [hmk, hla]
        · simp [hla, hne]
      · rw [hset]
        by_cases ej : j = lk + 1
        · rw [if_pos ej, hav, ej]
          refine (cP_add (k := k) hk24 ?_ ?_ (fun j hj hne => ?_)).symm
          · simp [hk.1]
          · simp [hmk, hla, hlk]
          · simp [hla, hne]
        · rw [if_neg ej, i3 j hj]
          refine cP_ext (fun x hx => ?_)
          by_cases ex : x = k
          · subst ex
            have : ¬ (lF LL x + 1 = (j : Int)) := by omega
            simp [this]
          · simp [hla, ex]
    · try simp only [decide_eq_true_eq, decide_eq_false_iff_not, Bool.not_eq_true', Bool.not_eq_false', Bool.not_eq_eq_eq_not, Bool.not_true, Bool.not_false, beq_iff_eq, bne_iff_ne, ne_eq, beq_eq_false_iff_ne, bne_eq_false_iff_eq, gt_iff_lt, ge_iff_le, Int.not_lt, Int.not_le] at hc25
      have ht0 : t = 0 := Decidable.not_not.1 hc25
      subst ht0
      have hnm : n = cP (fun y => m.testBit y) 24 := by rw [i2]; exact cP_ext (fun j _ => by simp)
      have j3 : ∀ j, j ≤ 24 → rF AL j = cP (fun x => m.testBit x && decide (lF LL x + 1 = (j : Int))) 24 := fun j hj => by rw [i3 j hj]; exact cP_ext (fun x _ => by simp)
      clear i2 i3 i1
      refine c_exit (x_thenX (x_thenX (x_blkX (x_then (hK8 _ _ ?_)))))
      clear hK10 K10 hK8 K8
      refine c_seq (fun K15 hK15 => ?_)
      refine c_seq (fun K16 hK16 => ?_)
      refine c_reg ?_ -- region 12 graph.go:127
      refine wl (ro_assign rfl) ?_
      refine wl_nil (x_then (hK16 _ _ ?_))
      clear hK16 K16
      refine c_block ?_
      -- loop@r13: live slots [0, 1, 5, 6, 9]
      refine c_loopG (fun q a' w' => ∃ l AL, q = 25 - l ∧ 1 ≤ l ∧ l ≤ 25 ∧ AL.length = 25 ∧ (∀ j, j < l → rF AL j = cP (fun x => m.testBit x && decide (lF LL x < (j : Int))) 24) ∧ (∀ j, l ≤ j → j ≤ 24 → rF AL j = cP (fun x => m.testBit x && decide (lF LL x + 1 = (j : Int))) 24) ∧ Blk w'.heap ab (rws onc AL) 3 ∧ Blk w'.heap B.g (gst B cy tc) 91 ∧ Blk w'.heap B.l (rws ivc LL) 3 ∧ Fram none' w w' ∧ ∃ e, a' = Fr 101 (upds e [(0, ptr B.g), (1, u32c m), (5, sl ab 25), (6, i64c n), (9, i64c l)]) []) 24 ⟨1, AL, rfl, by omega, by omega, hal, fun j hj => ?_, fun j _ hj => j3 j hj, hA, hB, hL, hF, kp _ ⟨rfl, rfl, rfl, rfl, rfl, trivial⟩⟩ ?_
      · rw [j3 j (by omega)]
        refine cP_ext (fun x hx => ?_)
        cases hq : m.testBit x with
        | false => rfl
        | true =>
          have := (hmb x hx hq).1
          have h1 : ¬ (lF LL x + 1 = (j : Int)) := by omega
          have h2 : ¬ (lF LL x < (j : Int)) := by omega
          simp [h1, h2]
      clear hA hB hL hF j3 hal
      rintro q a' u2 ⟨l, AL, rfl, hl1, hl2, hal, i1, i2, hA, hB, hL, hF, e, rfl⟩
      refine c_seq (fun K17 hK17 => ?_)
      refine c_seq (fun K18 hK18 => ?_)
      refine c_reg ?_ -- region 13 graph.go:127
      refine wl (ro_move rfl) ?_
      refine wl (ro_cmp (r := decide (l ≤ 24)) rfl rfl (congrArg some (decide_eq_decide.2 (by omega)))) ?_
      refine wl_nil (x_then (hK18 _ _ ?_))
      clear hK18 K18
      refine wc_cond rfl (fun hc48 => ?_) (fun hc48 => ?_)
      · try simp only [decide_eq_true_eq, decide_eq_false_iff_not, Bool.not_eq_true', Bool.not_eq_false', Bool.not_eq_eq_eq_not, Bool.not_true, Bool.not_false, beq_iff_eq, bne_iff_ne, ne_eq, beq_eq_false_iff_ne, bne_eq_false_iff_eq, gt_iff_lt, ge_iff_le, Int.not_lt, Int.not_le] at hc48
        have hv1 := i2 l (Nat.le_refl _) hc48
        have hv2 := i1 (l - 1) (by omega)
        have hw1 := cP_le (fun x => m.testBit x && decide (lF LL x + 1 = (l : Int))) 24
        have hw2 := cP_le (fun x => m.testBit x && decide (lF LL x < ((l - 1 : Nat) : Int))) 24
        have hset : ∀ x, rF (AL.set l (rF AL l + rF AL (l - 1))) x = if x = l then rF AL l + rF AL (l - 1) else rF AL x := fun x => rF_set (by omega)
        refine c_skip (x_then (hK17 _ _ ?_))
        clear hK17 K17
        refine forget [(0, _), (1, _), (5, _), (6, _), (9, _)] ⟨rfl, rfl, rfl, rfl, rfl, trivial⟩ (fun e => ?_)
        refine c_seq (fun K19 hK19 => ?_)
        refine c_block ?_
        refine c_piL 13 [(0, false), (1, false), (2, false), (3, false), (4, false), (5, false), (6, false), (7, false), (8, false), (9, false), (10, false), (11, false), (12, false)] (SameH _) mixed (by kernel_rfl) rfl (by kernel_rfl) (po_blk (po_then (po_then (po_blk (po_then (po_bp)))))) (sameH_now _ _) ?_ -- region 15 graph.go:128
        refine ql_ro rfl (fun w hS => ro_move rfl) ?_
        refine ql_ro rfl (fun w hS => ro_move rfl) ?_
        refine ql_ro rfl (fun w hS => ro_move rfl) ?_
        refine ql_ro rfl (fun w hS => ro_move rfl) ?_
        refine ql_ro rfl (fun w hS => ro_indexAddr (et := 3) (k := 1) rfl rfl se_79 rfl (by omega)) ?_
        refine ql_ro rfl (fun w hS => ro_loadB rfl sc_3 (Blk.of_heap hA hS) ((rw_get onc_len (rF_get (RL := AL) (c := l) (by omega)) (j := 0) (by omega) rfl))) ?_
        refine ql_ro rfl (fun w hS => ro_move rfl) ?_
        refine ql_ro rfl (fun w hS => ro_move rfl) ?_
        refine ql_ro rfl (fun w hS => ro_arith (r := ((l - 1 : Nat) : Int)) rfl rfl (congrArg some (by omega)) (Go.IntWalk.i64_in _ (by omega))) ?_
        refine ql_ro rfl (fun w hS => ro_indexAddr (et := 3) (k := 1) rfl rfl se_79 rfl (by omega)) ?_
        refine ql_ro rfl (fun w hS => ro_loadB rfl sc_3 (Blk.of_heap hA hS) ((rw_get onc_len (rF_get (RL := AL) (c := l - 1) (by omega)) (j := 0) (by omega) rfl))) ?_
        refine ql_ro rfl (fun w hS => ro_arith (r := ((rF AL l + rF AL (l - 1) : Nat) : Int)) rfl rfl rfl (Go.IntWalk.i64_in _ (by omega))) ?_
        refine ql_ro rfl (fun w hS => ro_indexAddr (et := 3) (k := 1) rfl rfl se_79 rfl (by omega)) ?_
        refine ql_put rfl rfl rfl rfl sz_3 hA ((rw_fit onc_len (i := l) (j := 0) (m := 1) (by omega) (by omega) (by omega))) ((rw_put onc_len (i := l) (j := 0) (x := rF AL l) (x' := rF AL l + rF AL (l - 1)) (rF_get (by omega)) (by omega) (by omega) rfl)) (fun w3 hA F3 => ?_)
        replace hF := hF.thenDrew.thenO F3 (by first | exact .inr (by omega) | exact .inl rfl | exact .inl (by assumption))
        replace hB := F3.blkO hB (by omega)
        replace hL := F3.blkO hL (by omega)
        refine x_blk (x_then (hK19 _ _ ?_))
        clear hK19 K19
        refine c_reg ?_ -- region 14 graph.go:127
        refine wl (ro_move rfl) ?_
        refine wl (ro_arith (r := ((l + 1 : Nat) : Int)) rfl rfl rfl (Go.IntWalk.i64_in _ (by omega))) ?_
        refine wl (ro_assign rfl) ?_
        refine wl_nil (x_then ?_)
        refine ⟨25 - (l + 1), by omega, l + 1, AL.set l (rF AL l + rF AL (l - 1)), rfl, by omega, by omega, by rw [List.length_set]; exact hal, fun j hj => ?_, fun j hj1 hj2 => ?_, hA, hB, hL, hF, kp _ ⟨rfl, rfl, rfl, rfl, rfl, trivial⟩⟩
        · rw [hset]
          by_cases ej : j = l
          · rw [if_pos ej, hv1, hv2, ej, ← cP_or (fun x hx q => ?_)]
            · refine cP_ext (fun x hx => ?_)
              rw [Bool.eq_iff_iff]
              simp only [Bool.or_eq_true, Bool.and_eq_true, decide_eq_true_eq]
              constructor
              · rintro (⟨a, b⟩ | ⟨a, b⟩) <;> exact ⟨a, by omega⟩
              · rintro ⟨a, b⟩
                by_cases hq : lF LL x + 1 = (l : Int)
                · exact .inl ⟨a, hq⟩
                · exact .inr ⟨a, by omega⟩
            · simp only [Bool.and_eq_true, decide_eq_true_eq] at q
              have : ¬ (lF LL x < ((l - 1 : Nat) : Int)) := by omega
              simp [this]
          · rw [if_neg ej]; exact i1 j (by omega)
        · rw [hset, if_neg (by omega)]; exact i2 j (by omega) hj2
      · try simp only [decide_eq_true_eq, decide_eq_false_iff_not, Bool.not_eq_true', Bool.not_eq_false', Bool.not_eq_eq_eq_not, Bool.not_true, Bool.not_false, beq_iff_eq, bne_iff_ne, ne_eq, beq_eq_false_iff_ne, bne_eq_false_iff_eq, gt_iff_lt, ge_iff_le, Int.not_lt, Int.not_le] at hc48
        have hl25 : l = 25 := by omega
        subst hl25
        refine c_exit (x_thenX (x_thenX (x_blkX (x_then (hK15 _ _ ?_)))))
        clear hK17 K17 hK15 K15
        refine forget [(0, _), (1, _), (5, _), (6, _)] ⟨rfl, rfl, rfl, rfl, trivial⟩ (fun e => ?_)
        refine c_seq (fun K20 hK20 => ?_)
        refine c_reg ?_ -- region 16 graph.go:130
        refine wl (ro_move rfl) ?_
        refine wl_make (len := n) (cap := n) rfl rfl se_79 ze_3 (by simp) (by omega) (by omega) rfl bb_3 (fun ob w4 hbob hO F4 => ?_)
        have hbsob := Nat.le_trans hF.size hbob
        have hneabob : ab < ob := Nat.lt_of_lt_of_le hA.lt hbob
        have hneBgob : B.g < ob := Nat.lt_of_lt_of_le hB.lt hbob
        have hneBlob : B.l < ob := Nat.lt_of_lt_of_le hL.lt hbob
        replace hF := hF.thenDrew.thenN F4
        replace hA := F4.blkN hA
        replace hB := F4.blkN hB
        replace hL := F4.blkN hL
        have hO0 : Blk _ ob (rws onc (List.replicate n 0)) 3 := (by rw [← zc_rws (enc := onc) (x0 := 0) rfl onc_len n]; exact hO)
        refine wl (ro_assign rfl) ?_
        refine wl_nil (x_then (hK20 _ _ ?_))
        clear hK20 K20
        refine c_seq (fun K21 hK21 => ?_)
        refine c_seq (fun K22 hK22 => ?_)
        refine c_reg ?_ -- region 17 graph.go:131
        refine wl (ro_move rfl) ?_
        refine wl (ro_assign rfl) ?_
        refine wl_nil (x_then (hK22 _ _ ?_))
        clear hK22 K22
        refine c_block ?_
        -- loop@r18: live slots [0, 5, 10, 11]
        refine c_loopG (fun q a' w' => ∃ t AL OL, q = cntN t 24 ∧ t < 2 ^ 24 ∧ AL.length = 25 ∧ OL.length = n ∧ (∀ j, j < 24 → t.testBit j = true → m.testBit j = true) ∧ (∀ x y, x < 24 → m.testBit x = true → t.testBit x = false → y < 24 → t.testBit y = true → x < y) ∧ (∀ j, j ≤ 23 → rF AL j = cP (fun x => m.testBit x && (decide (lF LL x < (j : Int)) || (decide (lF LL x = (j : Int)) && !t.testBit x))) 24) ∧ (∀ x, x < 24 → m.testBit x = true → t.testBit x = false → OL[rkF (lF LL) m x]? = some x) ∧ Blk w'.heap ab (rws onc AL) 3 ∧ Blk w'.heap ob (rws onc OL) 3 ∧ Blk w'.heap B.g (gst B cy tc) 91 ∧ Blk w'.heap B.l (rws ivc LL) 3 ∧ Fram none' w w' ∧ ∃ e, a' = Fr 101 (upds e [(0, ptr B.g), (5, sl ab 25), (10, sl ob n), (11, u32c t)]) []) _ ⟨m, AL, List.replicate n 0, rfl, hm24, hal, List.length_replicate, fun _ _ q => q, fun x y _ q1 q2 => by (rw [q1] at q2; cases q2), fun j hj => ?_, fun x _ q1 q2 => by (rw [q1] at q2; cases q2), hA, hO0, hB, hL, hF, kp _ ⟨rfl, rfl, rfl, rfl, trivial⟩⟩ ?_
        · rw [i1 j (by omega)]
          refine cP_ext (fun x hx => ?_)
          cases m.testBit x <;> simp
        clear hA hB hL hF hO hO0 i1 i2 hal
        rintro q a' u3 ⟨t, AL, OL, rfl, ht, hal, holn, i1, i2, i3, i4, hA, hO, hB, hL, hF, e, rfl⟩
        have haob : ab < ob := by omega
        refine c_seq (fun K23 hK23 => ?_)
        refine c_seq (fun K24 hK24 => ?_)
        refine c_reg ?_ -- region 18 graph.go:131
        refine wl (ro_move rfl) ?_
        refine wl (ro_cmp (r := decide (t ≠ 0)) rfl rfl (congrArg some (bnec t 0))) ?_
        refine wl_nil (x_then (hK24 _ _ ?_))
        clear hK24 K24
        refine wc_cond rfl (fun hc68 => ?_) (fun hc68 => ?_)
        · try simp only [decide_eq_true_eq, decide_eq_false_iff_not, Bool.not_eq_true', Bool.not_eq_false', Bool.not_eq_eq_eq_not, Bool.not_true, Bool.not_false, beq_iff_eq, bne_iff_ne, ne_eq, beq_eq_false_iff_ne, bne_eq_false_iff_eq, gt_iff_lt, ge_iff_le, Int.not_lt, Int.not_le] at hc68
          obtain ⟨k, hk⟩ := low_ex _ _ (Nat.le_refl _) hc68
          have hk24 := hk.lt ht
          have hla := low_and hk
          have hlt : t &&& (t - 1) < 2 ^ 24 := Nat.lt_of_le_of_lt Nat.and_le_left ht
          have hs1 : 1 ≤ t := by omega
          have e1 := cntN_off (s := t) (t := t &&& (t - 1)) hk.1 hla (n := 24) hk24
          have hoff : ∀ j, (t &&& (t - 1)).testBit j = true → t.testBit j = true ∧ j ≠ k := fun j q => by rw [hla] at q; simpa using q
          have hon : ∀ j, (t &&& (t - 1)).testBit j = false → j ≠ k → t.testBit j = false := fun j q hj => by rw [hla] at q; simpa [hj] using q
          have hmk := i1 k hk24 hk.1
          obtain ⟨lk, hlk⟩ : ∃ lk : Nat, lF LL k = (lk : Int) := ⟨(lF LL k).toNat, by have := (hmb k hk24 hmk).1; omega⟩
          have hlk23 := (hmb k hk24 hmk).2
          have hlow : ∀ x, x < 24 → m.testBit x = true → (t.testBit x = false ↔ x < k) := by
            intro x hx hq
            constructor
            · intro q; exact i2 x k hx hq q hk24 hk.1
            · intro q; exact hk.2 x q
          have hav : rF AL lk = rkF (lF LL) m k := by
            rw [i3 lk (by omega)]
            unfold rkF
            refine cP_ext (fun x hx => ?_)
            cases hq : m.testBit x with
            | false => rfl
            | true =>
              have hw := hlow x hx hq
              rw [Bool.true_and, Bool.true_and, Bool.eq_iff_iff]
              simp only [Bool.or_eq_true, Bool.and_eq_true, decide_eq_true_eq, Bool.not_eq_true']
              rw [hw, hlk]
          have hrn := rk_n (L := lF LL) hk24 hmk
          have hset : ∀ x, rF (AL.set lk (rF AL lk + 1)) x = if x = lk then rF AL lk + 1 else rF AL x := fun x => rF_set (by omega)
          refine c_skip (x_then (hK23 _ _ ?_))
          clear hK23 K23
          refine forget [(0, _), (5, _), (10, _), (11, _)] ⟨rfl, rfl, rfl, rfl, trivial⟩ (fun e => ?_)
          refine c_seq (fun K25 hK25 => ?_)
          refine c_block ?_
          refine c_seq (fun K26 hK26 => ?_)
          refine c_reg ?_ -- region 20 graph.go:132
          refine wl (ro_move rfl) ?_
          refine wl_call rfl en_114 (first114 (by omega) hk) ?_
          rintro _ _ ⟨rfl, rfl⟩
          refine wl (ro_assign rfl) ?_
          refine wl_nil (x_then (hK26 _ _ ?_))
          clear hK26 K26
          refine forget [(0, _), (5, _), (10, _), (11, _), (12, _)] ⟨rfl, rfl, rfl, rfl, rfl, trivial⟩ (fun e => ?_)
          refine c_seq (fun K27 hK27 => ?_)
          refine c_reg ?_ -- region 21 graph.go:133
          refine wl (ro_move rfl) ?_
          refine wl (ro_move rfl) ?_
          refine wl (ro_move rfl) ?_
          refine wl (ro_nilCheck rfl) ?_
          refine wl (ro_fieldAddr (k := 2) rfl fo_91_2) ?_
          refine wl (ro_loadB rfl sc_79 (by assumption) rfl) ?_
          refine wl (ro_move rfl) ?_
          refine wl (ro_indexAddr (et := 3) (k := 1) rfl rfl se_79 rfl (by omega)) ?_
          refine wl (ro_loadB rfl sc_3 (hL) ((rw_get ivc_len (lF_get (RL := LL) (c := k) (by omega)) (j := 0) (by omega) rfl))) ?_
          refine wl (ro_indexAddr (et := 3) (k := 1) rfl rfl se_79 (hlk) ((by omega))) ?_
          refine wl (ro_loadB rfl sc_3 (hA) ((rw_get onc_len (rF_get (RL := AL) (c := lk) (by omega)) (j := 0) (by omega) rfl))) ?_
          refine wl (ro_move rfl) ?_
          refine wl (ro_indexAddr (et := 3) (k := 1) rfl rfl se_79 ((show ((rF AL lk : Nat) : Int) = ((rkF (lF LL) m k : Nat) : Int) by rw [hav])) ((by omega))) ?_
          refine wl_put rfl rfl rfl sz_3 hO ((rw_fit onc_len (i := rkF (lF LL) m k) (j := 0) (m := 1) (by omega) (by omega) (by omega))) ((rw_put onc_len (i := rkF (lF LL) m k) (j := 0) (x := rF OL (rkF (lF LL) m k)) (x' := k) (rF_get (by omega)) (by omega) (by omega) rfl)) (fun w5 hO F5 => ?_)
          replace hF := hF.thenDrew.thenO F5 (by first | exact .inr (by omega) | exact .inl rfl | exact .inl (by assumption))
          replace hA := F5.blkO hA (by omega)
          replace hB := F5.blkO hB (by omega)
          replace hL := F5.blkO hL (by omega)
          refine wl_nil (x_then (hK27 _ _ ?_))
          clear hK27 K27
          refine c_reg ?_ -- region 22 graph.go:134
          refine wl (ro_move rfl) ?_
          refine wl (ro_move rfl) ?_
          refine wl (ro_nilCheck rfl) ?_
          refine wl (ro_fieldAddr (k := 2) rfl fo_91_2) ?_
          refine wl (ro_loadB rfl sc_79 (by assumption) rfl) ?_
          refine wl (ro_move rfl) ?_
          refine wl (ro_indexAddr (et := 3) (k := 1) rfl rfl se_79 rfl (by omega)) ?_
          refine wl (ro_loadB rfl sc_3 (hL) ((rw_get ivc_len (lF_get (RL := LL) (c := k) (by omega)) (j := 0) (by omega) rfl))) ?_
          refine wl (ro_indexAddr (et := 3) (k := 1) rfl rfl se_79 (hlk) ((by omega))) ?_
          refine wl (ro_loadB rfl sc_3 (hA) ((rw_get onc_len (rF_get (RL := AL) (c := lk) (by omega)) (j := 0) (by omega) rfl))) ?_
          refine wl (ro_arith (r := ((rF AL lk + 1 : Nat) : Int)) rfl rfl rfl (Go.IntWalk.i64_in _ (by omega))) ?_
          refine wl (ro_indexAddr (et := 3) (k := 1) rfl rfl se_79 (hlk) ((by omega))) ?_
          refine wl_put rfl rfl rfl sz_3 hA ((rw_fit onc_len (i := lk) (j := 0) (m := 1) (by omega) (by omega) (by omega))) ((rw_put onc_len (i := lk) (j := 0) (x := rF AL lk) (x' := rF AL lk + 1) (rF_get (by omega)) (by omega) (by omega) rfl)) (fun w6 hA F6 => ?_)
          replace hF := hF.thenDrew.thenO F6 (by first | exact .inr (by omega) | exact .inl rfl | exact .inl (by assumption))
          replace hO := F6.blkO hO (by omega)
          replace hB := F6.blkO hB (by omega)
          replace hL := F6.blkO hL (by omega)
          refine wl_nil (x_blk (x_then (hK25 _ _ ?_)))
          clear hK25 K25
          refine c_reg ?_ -- region 19 graph.go:131
          refine wl (ro_move rfl) ?_
          refine wl (ro_move rfl) ?_
          refine wl (ro_arith (r := ((t - 1 : Nat) : Int)) rfl rfl (congrArg some (by omega)) (Go.IntWalk.u32_in _ (by omega))) ?_
          refine wl (ro_and32 rfl rfl (by omega) (by omega)) ?_
          refine wl (ro_assign rfl) ?_
          refine wl_nil (x_then ?_)
          refine ⟨_, by omega, t &&& (t - 1), AL.set lk (rF AL lk + 1), OL.set (rkF (lF LL) m k) k, rfl, hlt, by rw [List.length_set]; exact hal, by rw [List.length_set]; exact holn, fun j hj q => i1 j hj (hoff j q).1, fun x y hx q1 q2 hy q3 => ?_, fun j hj => ?_, fun x hx q1 q2 => ?_, hA, hO, hB, hL, hF, kp _ ⟨rfl, rfl, rfl, rfl, trivial⟩⟩
          · obtain ⟨q4, q5⟩ := hoff y q3
            by_cases ex : x = k
            · subst ex
              rcases Nat.lt_trichotomy y x with h | h | h
              · have := hk.2 y h; rw [q4] at this; cases this
              · exact absurd h q5
              · exact h
            · exact i2 x y hx q1 (hon x q2 ex) hy q4
          · rw [hset]
            by_cases ej : j = lk
            · rw [if_pos ej, i3 lk (by omega), ej]
              refine (cP_add (k := k) hk24 ?_ ?_ (fun x hx hne => ?_)).symm
              · simp [hk.1, hlk]
              · simp [hmk, hla, hlk]
              · simp [hla, hne]
            · rw [if_neg ej, i3 j hj]
              refine cP_ext (fun x hx => ?_)
              by_cases ex : x = k
              · subst ex
                have : ¬ (lF LL x = (j : Int)) := by omega
                simp [this]
              · simp [hla, ex]
          · by_cases ex : x = k
            · subst ex
              exact List.getElem?_set_self (by omega)
            · have hne : rkF (lF LL) m k ≠ rkF (lF LL) m x := by
                have hlx : lexP (lF LL) x k ∨ lexP (lF LL) k x := by unfold lexP; omega
                rcases hlx with q | q
                · have := rk_lt hx q1 q; omega
                · have := rk_lt hk24 hmk q; omega
              rw [List.getElem?_set_ne hne]
              exact i4 x hx q1 (hon x q2 ex)
        · try simp only [decide_eq_true_eq, decide_eq_false_iff_not, Bool.not_eq_true', Bool.not_eq_false', Bool.not_eq_eq_eq_not, Bool.not_true, Bool.not_false, beq_iff_eq, bne_iff_ne, ne_eq, beq_eq_false_iff_ne, bne_eq_false_iff_eq, gt_iff_lt, ge_iff_le, Int.not_lt, Int.not_le] at hc68
          have ht0 : t = 0 := Decidable.not_not.1 hc68
          subst ht0
          refine c_exit (x_thenX (x_thenX (x_blkX (x_then (hK21 _ _ ?_)))))
          clear hK23 K23 hK21 K21
          refine forget [(10, _)] ⟨rfl, trivial⟩ (fun e => ?_)
          refine c_seq (fun K28 hK28 => ?_)
          refine c_reg ?_ -- region 23 graph.go:136
          refine wl (ro_move rfl) ?_
          refine wl (ro_assign rfl) ?_
          refine wl_nil (x_then (hK28 _ _ ?_))
          clear hK28 K28
          refine c_ret ?_
          refine bp_ret Tryz.results92 rfl ?_
          refine ⟨⟨OL, lF LL, hlv, ord_of_rank hLb (by rw [hcm, holn, hnm]) (fun x hx q1 q2 => ?_), ⟨by rw [rws_len onc_len], .inr ⟨ob, n, rws onc OL, by rw [holn], hO, by omega, by omega, by rw [rws_len onc_len, holn], by rw [List.take_of_length_le (by rw [rws_len onc_len]; omega)]⟩⟩, fun b hb => ?_⟩, hF⟩
          · rw [hrk x]
            exact i4 x hx (by rw [hmx x hx, q1]; simpa using q2) (by simp)
          · simp [Value.ownBlock] at hb
            omega

end Go.Proofs.Qxb6500570aGreat
