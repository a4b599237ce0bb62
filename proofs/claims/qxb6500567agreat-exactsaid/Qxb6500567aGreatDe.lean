import Derived.Test.Qxb6500567aGreatDd
/- The real simplifier: options. -/
namespace Go.Proofs.Qxb6500567aGreat
set_option linter.unusedVariables false
set_option linter.unusedSimpArgs false

theorem top_lt {o : List PN} {m : Nat} (h : m ≤ o.length) (h0 : 0 < m) : -1 ≤ top o ∧ top o < o.length := by unfold top; omega
theorem top_ge (o : List PN) : -1 ≤ top o ∧ top o < o.length := by unfold top; omega

theorem BV.ol {H : Array Obj} {B : SB} {T : List RE} {σ : BS} (h : BV H B T σ) : σ.o.length ≤ 31 := by obtain ⟨_, _, _, V⟩ := h; exact V.ol

theorem addB_ge {o : List PN} {x : PN} : o.length ≤ (addB o x).length := by unfold addB; split <;> simp

/-- The two lists of the options. -/
def OPV (fe fx : Nat → Value) (m : Nat) (l : List (Int × Int)) : Prop := ∀ (i : Nat) (p : Int × Int), l[i]? = some p → fe (l.length - 1 - i) = icv p.1 ∧ fx (l.length - 1 - i) = icv p.2 ∧ (-1 ≤ p.1 ∧ p.1 < (m : Int)) ∧ (-1 ≤ p.2 ∧ p.2 < (m : Int))

theorem OPV.cons {fe fx : Nat → Value} {m m' : Nat} {l : List (Int × Int)} (h : OPV fe fx m l) (hm : m ≤ m') {a b : Int} (ha : -1 ≤ a ∧ a < m') (hb : -1 ≤ b ∧ b < m') {fe' : Nat → Value} (he : fe' l.length = icv a) (he' : ∀ j, j < l.length → fe' j = fe j) : OPV fe' (pt fx l.length (icv b)) m' ((a, b) :: l) := by
  intro i p hp
  cases i with
  | zero =>
    simp only [List.getElem?_cons_zero, Option.some.injEq] at hp
    subst hp
    simp only [List.length_cons, Nat.add_sub_cancel, Nat.sub_zero]
    exact ⟨he, pt_same, ha, hb⟩
  | succ i =>
    rw [List.getElem?_cons_succ] at hp
    have hl := (List.getElem?_eq_some_iff.1 hp).1
    obtain ⟨h1, h2, h3, h4⟩ := h i p hp
    simp only [List.length_cons]
    rw [show l.length + 1 - 1 - (i + 1) = l.length - 1 - i by omega, he' _ (by omega), pt_ne (by omega)]
    exact ⟨h1, h2, by omega, by omega⟩

theorem OPV.mono {fe fx : Nat → Value} {m m' : Nat} {l : List (Int × Int)} (h : OPV fe fx m l) (hm : m ≤ m') : OPV fe fx m' l := by
  intro i p hp
  obtain ⟨h1, h2, h3, h4⟩ := h i p hp
  exact ⟨h1, h2, by omega, by omega⟩

theorem OPV.tail {fe fx : Nat → Value} {m : Nat} {p : Int × Int} {l : List (Int × Int)} (h : OPV fe fx m (p :: l)) : OPV fe fx m l := by
  intro i q hq
  have hl := (List.getElem?_eq_some_iff.1 hq).1
  have := h (i + 1) q (by simpa using hq)
  simp only [List.length_cons] at this
  rw [show l.length + 1 - 1 - (i + 1) = l.length - 1 - i by omega] at this
  exact this

theorem okx_nd {m k : Nat} {a b : Int} (ha : -1 ≤ a ∧ a < m) (hb : -1 ≤ b ∧ b < m) : OKx m (nd k a b) := ⟨ha.1, ha.2, hb.1, hb.2⟩
theorem okx_no {m k : Nat} : OKx m (nd k (-1) (-1)) := ⟨by simp [nd], by simp only [nd]; omega, by simp [nd], by simp only [nd]; omega⟩

set_option maxHeartbeats 4000000 in
theorem options132 {w : World} {B : SB} {T : List RE} {σ : BS} {k fr to : Nat} {lz used : Bool} {ee : Int} (D : D4 B) (V : BV w.heap B T σ) (hk : k ≤ 3) (h1 : fr ≤ to) (h2 : to ≤ σ.o.length) (he1 : -1 ≤ ee) (he2 : ee < σ.o.length) :
    Ret Tryz.prog 132 [ptr B.sb, i64c k, .bool lz, i64c fr, i64c to, .bool used, icv ee] w (fun r w' => r = icv (opB k lz fr to used ee σ.o).2 ∧ (-1 ≤ (opB k lz fr to used ee σ.o).2 ∧ (opB k lz fr to used ee σ.o).2 < (opB k lz fr to used ee σ.o).1.length ∧ σ.o.length ≤ (opB k lz fr to used ee σ.o).1.length) ∧ BV w'.heap B T { σ with o := (opB k lz fr to used ee σ.o).1 } ∧ Fram (bset B) w w') := by
  have hF : Fram (bset B) w w := Fram.refl _ _
  obtain ⟨dso, dsk, dsr, dok, dor, dkr⟩ := id D
  obtain ⟨fo0, fw0, fr0, V0⟩ := id V
  have hB0 := V0.s.lt
  have hB1 := V0.o.lt
  have hB2 := V0.k.lt
  have hB3 := V0.r.lt
  obtain ⟨o, rs, W⟩ := σ
  simp only at h2 he2
  have hnb : ∀ k, bset B k → k < w.heap.size := by
    rintro k (rfl | rfl | rfl | rfl) <;> assumption
  have hB := V0.s
  have hO := V0.o
  have hK := V0.k
  have hR := V0.r
  have hol0 := V0.ol
  simp only at hol0
  generalize hR0 : dnB lz fr to ee k o used [] = R0
  refine ret_of Tryz.func132 rfl Tryz.ntmps132 rfl ?_
  refine c_seq (fun K1 hK1 => ?_)
  refine c_reg ?_ -- region 0 build.go:189
  refine wl (ro_assign rfl) ?_
  refine wl_nil (x_then (hK1 _ _ ?_))
  clear hK1 K1
  refine forget [(0, _), (1, _), (2, _), (3, _), (4, _), (5, _), (6, _)] ⟨rfl, rfl, rfl, rfl, rfl, rfl, rfl, trivial⟩ (fun e => ?_)
  refine c_seq (fun K2 hK2 => ?_)
  refine c_reg ?_ -- region 1 build.go:190
  refine wl_new (ze_231) (fun eb w1 hbeb hE F1 => ?_)
  have hbseb := Nat.le_trans hF.size hbeb
  have hneB.sbeb : B.sb < eb := Nat.lt_of_lt_of_le hB.lt hbeb
  have hneB.obeb : B.ob < eb := Nat.lt_of_lt_of_le hO.lt hbeb
  have hneB.kbeb : B.kb < eb := Nat.lt_of_lt_of_le hK.lt hbeb
  have hneB.rbeb : B.rb < eb := Nat.lt_of_lt_of_le hR.lt hbeb
  replace hF := hF.thenDrew.thenN F1
  replace hB := F1.blkN hB
  replace hO := F1.blkN hO
  replace hK := F1.blkN hK
  replace hR := F1.blkN hR
  refine wl_new (ze_231) (fun xb w2 hbxb hX F2 => ?_)
  have hbsxb := Nat.le_trans hF.size hbxb
  have hneB.sbxb : B.sb < xb := Nat.lt_of_lt_of_le hB.lt hbxb
  have hneB.obxb : B.ob < xb := Nat.lt_of_lt_of_le hO.lt hbxb
  have hneB.kbxb : B.kb < xb := Nat.lt_of_lt_of_le hK.lt hbxb
  have hneB.rbxb : B.rb < xb := Nat.lt_of_lt_of_le hR.lt hbxb
  have hneebxb : eb < xb := Nat.lt_of_lt_of_le hE.lt hbxb
  replace hF := hF.thenDrew.thenN F2
  replace hB := F2.blkN hB
  replace hO := F2.blkN hO
  replace hK := F2.blkN hK
  replace hR := F2.blkN hR
  replace hE := F2.blkN hE
  refine wl_nil (x_then (hK2 _ _ ?_))
  clear hK2 K2
  refine c_seq (fun K3 hK3 => ?_)
  refine c_seq (fun K4 hK4 => ?_)
  refine c_reg ?_ -- region 2 build.go:191
  refine wl (ro_move rfl) ?_
  refine wl (ro_cmp (r := false) rfl rfl (congrArg some (decide_eq_false (by omega)))) ?_
  refine wl_nil (x_then (hK4 _ _ ?_))
  clear hK4 K4
  refine wc_condF rfl ?_
  refine c_skip (x_then (hK3 _ _ ?_))
  clear hK3 K3
  refine c_seq (fun K5 hK5 => ?_)
  refine c_seq (fun K6 hK6 => ?_)
  refine c_reg ?_ -- region 4 build.go:194
  refine wl (ro_assign rfl) ?_
  refine wl_nil (x_then (hK6 _ _ ?_))
  clear hK6 K6
  refine c_block ?_
  -- loop@r5: live slots [0, 1, 2, 3, 4, 5, 6, 15, 16, 17]
  have hebn : ¬ bset B eb := by rintro (h | h | h | h) <;> omega
  have hxbn : ¬ bset B xb := by rintro (h | h | h | h) <;> omega
  have hex : eb ≠ xb := by have := hE.lt; omega
  refine c_loopG (fun m a' w' => ∃ (j : Nat) (o' : List PN) (l : List (Int × Int)) (us : Bool) (fe fx : Nat → Value), m = k - j ∧ j ≤ k ∧ l.length = j ∧ dnB lz fr to ee (k - j) o' us l = R0 ∧ o.length ≤ o'.length ∧ OPV fe fx o'.length l ∧ BV w'.heap B T ⟨o', rs, W⟩ ∧ FB w'.heap eb 3 fe 231 ∧ FB w'.heap xb 3 fx 231 ∧ Fram (bset B) w w' ∧ ∃ e, a' = Fr 79 (upds e [(0, ptr B.sb), (1, i64c k), (2, .bool lz), (3, i64c fr), (4, i64c to), (5, .bool us), (6, icv ee), (15, ptr eb), (16, ptr xb), (17, i64c j)]) []) k ⟨0, o, [], used, fun _ => i64c 0, fun _ => i64c 0, rfl, by omega, rfl, hR0, by omega, fun i p hp => by simp at hp, V0.re hB hO hK hR, hE, hX, hF, kp _ ⟨rfl, rfl, rfl, rfl, rfl, rfl, rfl, rfl, rfl, rfl, trivial⟩⟩ ?_
  clear hB hO hK hR hE hX hF V V0
  rintro m a' w1 ⟨j, o', l, us, fe, fx, rfl, hjk, hlj, hdn, hoo, hOP, ⟨fo, fw, fr', V⟩, hE, hX, hF, e, rfl⟩
  have hB := V.s
  have hO := V.o
  have hK := V.k
  have hR := V.r
  have hol := V.ol
  simp only at hol
  refine c_seq (fun K7 hK7 => ?_)
  refine c_seq (fun K8 hK8 => ?_)
  refine c_reg ?_ -- region 5 build.go:194
  refine wl (ro_move rfl) ?_
  refine wl (ro_move rfl) ?_
  refine wl (ro_cmp (r := decide (j < k)) rfl rfl (congrArg some (decide_eq_decide.2 (by omega)))) ?_
  refine wl_nil (x_then (hK8 _ _ ?_))
  clear hK8 K8
  refine wc_cond rfl (fun hc26 => ?_) (fun hc26 => ?_)
  · try simp only [decide_eq_true_eq, decide_eq_false_iff_not, Bool.not_eq_true', Bool.not_eq_false', Bool.not_eq_eq_eq_not, Bool.not_true, Bool.not_false, beq_iff_eq, bne_iff_ne, ne_eq, beq_eq_false_iff_ne, bne_eq_false_iff_eq, gt_iff_lt, ge_iff_le, Int.not_lt, Int.not_le] at hc26
    rw [show k - j = (k - (j + 1)) + 1 by omega] at hdn
    refine c_skip (x_then (hK7 _ _ ?_))
    clear hK7 K7
    refine forget [(0, _), (1, _), (2, _), (3, _), (4, _), (5, _), (6, _), (15, _), (16, _), (17, _)] ⟨rfl, rfl, rfl, rfl, rfl, rfl, rfl, rfl, rfl, rfl, trivial⟩ (fun e => ?_)
    refine c_seq (fun K9 hK9 => ?_)
    refine c_block ?_
    refine c_seq (fun K10 hK10 => ?_)
    refine c_reg ?_ -- region 7 build.go:195
    refine wl (ro_move rfl) ?_
    refine wl_nil (x_then (hK10 _ _ ?_))
    clear hK10 K10
    refine wc_cond rfl (fun hc29 => ?_) (fun hc29 => ?_)
    · try simp only [decide_eq_true_eq, decide_eq_false_iff_not, Bool.not_eq_true', Bool.not_eq_false', Bool.not_eq_eq_eq_not, Bool.not_true, Bool.not_false, beq_iff_eq, bne_iff_ne, ne_eq, beq_eq_false_iff_ne, bne_eq_false_iff_eq, gt_iff_lt, ge_iff_le, Int.not_lt, Int.not_le] at hc29
      subst hc29
      rw [dnB] at hdn
      refine c_seq (fun K11 hK11 => ?_)
      refine c_reg ?_ -- region 8 build.go:196
      refine wl (ro_move rfl) ?_
      refine wl (ro_indexAddrA (et := 3) (k := 1) rfl rfl ar_231 (rfl) ((by omega : j < 3))) ?_
      refine wl_put rfl rfl rfl sz_3 hE ((cel_lt (by omega))) ((cel_put j (by omega))) (fun w3 hE F3 => ?_)
      replace hF := hF.thenDrew.thenO F3 (by first | exact .inr (by omega) | exact .inl rfl | exact .inl (by assumption))
      replace hB := F3.blkO hB (by omega)
      replace hO := F3.blkO hO (by omega)
      replace hK := F3.blkO hK (by omega)
      replace hR := F3.blkO hR (by omega)
      replace hX := F3.blkO hX (by omega)
      refine wl_nil (x_then (hK11 _ _ ?_))
      clear hK11 K11
      refine c_mid (fun a' w' => ∃ (o1 : List PN) (fe1 : Nat → Value) (y : Int), dnB lz fr to ee (k - (j + 1)) (cpB o1 fr to) true ((y, top (cpB o1 fr to)) :: l) = R0 ∧ fe1 j = icv y ∧ (∀ i, i < j → fe1 i = fe i) ∧ (-1 ≤ y ∧ y < o1.length) ∧ o'.length ≤ o1.length ∧ BV w'.heap B T ⟨o1, rs, W⟩ ∧ FB w'.heap eb 3 fe1 231 ∧ FB w'.heap xb 3 fx 231 ∧ Fram (bset B) w w' ∧ ∃ e, a' = Fr 79 (upds e [(0, ptr B.sb), (1, i64c k), (2, .bool lz), (3, i64c fr), (4, i64c to), (5, .bool true), (6, icv ee), (15, ptr eb), (16, ptr xb), (17, i64c j)]) []) ?_ ?_
      · skip
        refine c_seq (fun K12 hK12 => ?_)
        refine c_reg ?_ -- region 9 build.go:197
        refine wl (ro_move rfl) ?_
        refine wl_nil (x_then (hK12 _ _ ?_))
        clear hK12 K12
        refine wc_cond rfl (fun hc32 => ?_) (fun hc32 => ?_)
        · try simp only [decide_eq_true_eq, decide_eq_false_iff_not, Bool.not_eq_true', Bool.not_eq_false', Bool.not_eq_eq_eq_not, Bool.not_true, Bool.not_false, beq_iff_eq, bne_iff_ne, ne_eq, beq_eq_false_iff_ne, bne_eq_false_iff_eq, gt_iff_lt, ge_iff_le, Int.not_lt, Int.not_le] at hc32
          refine c_reg ?_ -- region 10 build.go:198
          refine wl (ro_move rfl) ?_
          refine wl (ro_move rfl) ?_
          refine wl_call rfl en_106 (node106 D (V.re hB hO hK hR) (fun _ ↦ okx_no)) ?_
          rintro _ w4 ⟨rfl, V4, F4⟩
          clear hB hO hK hR
          obtain ⟨fo4, fw4, fr4, V4⟩ := V4
          have hB := V4.s
          have hO := V4.o
          have hK := V4.k
          have hR := V4.r
          replace hE := hE.fram F4 hebn
          replace hX := hX.fram F4 hxbn
          replace hF := hF.trans F4
          refine wl (ro_indexAddrA (et := 3) (k := 1) rfl rfl ar_231 (rfl) ((by omega : j < 3))) ?_
          refine wl_put rfl rfl rfl sz_3 hE ((cel_lt (by omega))) ((cel_put j (by omega))) (fun w4 hE F4 => ?_)
          replace hF := hF.thenDrew.thenO F4 (by first | exact .inr (by omega) | exact .inl rfl | exact .inl (by assumption))
          replace hB := F4.blkO hB (by omega)
          replace hO := F4.blkO hO (by omega)
          replace hK := F4.blkO hK (by omega)
          replace hR := F4.blkO hR (by omega)
          replace hX := F4.blkO hX (by omega)
          refine wl_nil (x_then ?_)
          subst hc32
          simp only [if_true] at hdn
          refine ⟨addB o' (nd 0 (-1) (-1)), _, _, hdn, pt_same, fun i hi => by rw [pt_ne (by omega), pt_ne (by omega)], top_ge _, addB_ge, V4.re hB hO hK hR, hE, hX, hF, kp _ ⟨rfl, rfl, rfl, rfl, rfl, rfl, rfl, rfl, rfl, rfl, trivial⟩⟩
        · try simp only [decide_eq_true_eq, decide_eq_false_iff_not, Bool.not_eq_true', Bool.not_eq_false', Bool.not_eq_eq_eq_not, Bool.not_true, Bool.not_false, beq_iff_eq, bne_iff_ne, ne_eq, beq_eq_false_iff_ne, bne_eq_false_iff_eq, gt_iff_lt, ge_iff_le, Int.not_lt, Int.not_le] at hc32
          refine c_skip (x_then ?_)
          subst hc32
          simp only [Bool.false_eq_true, if_false] at hdn
          exact ⟨o', _, -1, hdn, pt_same, fun i hi => by rw [pt_ne (by omega)], ⟨by omega, by omega⟩, by omega, V.re hB hO hK hR, hE, hX, hF, kp _ ⟨rfl, rfl, rfl, rfl, rfl, rfl, rfl, rfl, rfl, rfl, trivial⟩⟩
      clear hB hO hK hR hE hX hF
      rintro a' w3 ⟨o1, fe1, y, hdn1, hy, hfe1, hyb, ho1, V1, hE, hX, hF, e, rfl⟩
      have hol1 : o1.length ≤ 31 := V1.ol
      obtain ⟨fo1, fw1, fr1, V1⟩ := V1
      have hB := V1.s
      have hO := V1.o
      have hK := V1.k
      have hR := V1.r
      have hc2 := cpB_len hol1 h1 (show to ≤ o1.length by omega)
      refine c_reg ?_ -- region 11 build.go:200
      refine wl (ro_move rfl) ?_
      refine wl (ro_move rfl) ?_
      refine wl (ro_move rfl) ?_
      refine wl (ro_move rfl) ?_
      refine wl_call rfl en_131 (copyRun131 D (V1.re hB hO hK hR) h1 (show to ≤ o1.length by omega)) ?_
      rintro _ w5 ⟨rfl, V5, F5⟩
      clear hB hO hK hR
      obtain ⟨fo5, fw5, fr5, V5⟩ := V5
      have hB := V5.s
      have hO := V5.o
      have hK := V5.k
      have hR := V5.r
      replace hE := hE.fram F5 hebn
      replace hX := hX.fram F5 hxbn
      replace hF := hF.trans F5
      refine wl (ro_indexAddrA (et := 3) (k := 1) rfl rfl ar_231 (rfl) ((by omega : j < 3))) ?_
      refine wl_put rfl rfl rfl sz_3 hX ((cel_lt (by omega))) ((cel_put j (by omega))) (fun w5 hX F5 => ?_)
      replace hF := hF.thenDrew.thenO F5 (by first | exact .inr (by omega) | exact .inl rfl | exact .inl (by assumption))
      replace hB := F5.blkO hB (by omega)
      replace hO := F5.blkO hO (by omega)
      replace hK := F5.blkO hK (by omega)
      replace hR := F5.blkO hR (by omega)
      replace hE := F5.blkO hE (by omega)
      refine wl_nil (x_blk (x_then (hK9 _ _ ?_)))
      clear hK9 K9
      refine c_reg ?_ -- region 6 build.go:194
      refine wl (ro_move rfl) ?_
      refine wl (ro_arith rfl rfl rfl (Go.IntWalk.i64_in _ (by omega))) ?_
      refine wl (ro_assign rfl) ?_
      refine wl_nil (x_then ?_)
      refine ⟨k - (j + 1), by omega, j + 1, cpB o1 fr to, (y, top (cpB o1 fr to)) :: l, true, fe1, _, rfl, by omega, by simp [hlj], hdn1, by omega, ?_, V5.re hB hO hK hR, hE, hX, hF, kp _ ⟨rfl, rfl, rfl, rfl, rfl, rfl, rfl, rfl, rfl, rfl, trivial⟩⟩
      rw [← hlj]
      exact hOP.cons (show o'.length ≤ (cpB o1 fr to).length by omega) (show -1 ≤ y ∧ y < ((cpB o1 fr to).length : Int) by omega) (top_ge _) (by rw [hlj]; exact hy) (fun i hi => hfe1 i (by omega))
    · try simp only [decide_eq_true_eq, decide_eq_false_iff_not, Bool.not_eq_true', Bool.not_eq_false', Bool.not_eq_eq_eq_not, Bool.not_true, Bool.not_false, beq_iff_eq, bne_iff_ne, ne_eq, beq_eq_false_iff_ne, bne_eq_false_iff_eq, gt_iff_lt, ge_iff_le, Int.not_lt, Int.not_le] at hc29
      subst hc29
      rw [dnB] at hdn
      refine c_seq (fun K13 hK13 => ?_)
      refine c_reg ?_ -- region 12 build.go:202
      refine wl (ro_move rfl) ?_
      refine wl (ro_move rfl) ?_
      refine wl (ro_indexAddrA (et := 3) (k := 1) rfl rfl ar_231 (rfl) ((by omega : j < 3))) ?_
      refine wl_put rfl rfl rfl sz_3 hE ((cel_lt (by omega))) ((cel_put j (by omega))) (fun w6 hE F6 => ?_)
      replace hF := hF.thenDrew.thenO F6 (by first | exact .inr (by omega) | exact .inl rfl | exact .inl (by assumption))
      replace hB := F6.blkO hB (by omega)
      replace hO := F6.blkO hO (by omega)
      replace hK := F6.blkO hK (by omega)
      replace hR := F6.blkO hR (by omega)
      replace hX := F6.blkO hX (by omega)
      refine wl_nil (x_then (hK13 _ _ ?_))
      clear hK13 K13
      refine forget [(0, _), (1, _), (2, _), (3, _), (4, _), (6, _), (15, _), (16, _), (17, _)] ⟨rfl, rfl, rfl, rfl, rfl, rfl, rfl, rfl, rfl, trivial⟩ (fun e => ?_)
      refine c_seq (fun K14 hK14 => ?_)
      refine c_reg ?_ -- region 13 build.go:203
      refine wl (ro_move rfl) ?_
      refine wl (ro_move rfl) ?_
      refine wl (ro_arith rfl rfl rfl (Go.IntWalk.i64_in _ (by omega))) ?_
      refine wl (ro_indexAddrA (et := 3) (k := 1) rfl rfl ar_231 (rfl) ((by omega : j < 3))) ?_
      refine wl_put rfl rfl rfl sz_3 hX ((cel_lt (by omega))) ((cel_put j (by omega))) (fun w7 hX F7 => ?_)
      replace hF := hF.thenDrew.thenO F7 (by first | exact .inr (by omega) | exact .inl rfl | exact .inl (by assumption))
      replace hB := F7.blkO hB (by omega)
      replace hO := F7.blkO hO (by omega)
      replace hK := F7.blkO hK (by omega)
      replace hR := F7.blkO hR (by omega)
      replace hE := F7.blkO hE (by omega)
      refine wl_nil (x_then (hK14 _ _ ?_))
      clear hK14 K14
      refine c_reg ?_ -- region 14 build.go:204
      refine wl (ro_assign rfl) ?_
      refine wl_nil (x_blk (x_then (hK9 _ _ ?_)))
      clear hK9 K9
      refine c_reg ?_ -- region 6 build.go:194
      refine wl (ro_move rfl) ?_
      refine wl (ro_arith rfl rfl rfl (Go.IntWalk.i64_in _ (by omega))) ?_
      refine wl (ro_assign rfl) ?_
      refine wl_nil (x_then ?_)
      refine ⟨k - (j + 1), by omega, j + 1, o', (ee, (to : Int) - 1) :: l, true, _, _, rfl, by omega, by simp [hlj], hdn, by omega, ?_, V.re hB hO hK hR, hE, hX, hF, kp _ ⟨rfl, rfl, rfl, rfl, rfl, rfl, rfl, rfl, rfl, rfl, trivial⟩⟩
      rw [← hlj]
      exact hOP.cons (by omega) (by omega) (by omega) (by rw [hlj]; exact pt_same) (fun i hi => by rw [pt_ne (by omega)])
  · try simp only [decide_eq_true_eq, decide_eq_false_iff_not, Bool.not_eq_true', Bool.not_eq_false', Bool.not_eq_eq_eq_not, Bool.not_true, Bool.not_false, beq_iff_eq, bne_iff_ne, ne_eq, beq_eq_false_iff_ne, bne_eq_false_iff_eq, gt_iff_lt, ge_iff_le, Int.not_lt, Int.not_le] at hc26
    refine c_exit (x_thenX (x_thenX (x_blkX (x_then (hK5 _ _ ?_)))))
    clear hK7 K7 hK5 K5
    refine forget [(0, _), (1, _), (2, _), (15, _), (16, _)] ⟨rfl, rfl, rfl, rfl, rfl, trivial⟩ (fun e => ?_)
    refine c_seq (fun K15 hK15 => ?_)
    refine c_reg ?_ -- region 15 build.go:207
    refine wl (ro_assign rfl) ?_
    refine wl_nil (x_then (hK15 _ _ ?_))
    clear hK15 K15
    refine c_seq (fun K16 hK16 => ?_)
    refine c_seq (fun K17 hK17 => ?_)
    refine c_reg ?_ -- region 16 build.go:208
    refine wl (ro_move rfl) ?_
    refine wl (ro_arith rfl rfl rfl (Go.IntWalk.i64_in _ (by omega))) ?_
    refine wl (ro_assign rfl) ?_
    refine wl_nil (x_then (hK17 _ _ ?_))
    clear hK17 K17
    refine c_block ?_
    -- loop@r17: live slots [0, 2, 15, 16, 18, 19]
    have hjk' : j = k := by omega
    have hfin : R0 = (o', l) := by rw [← hdn, show k - j = 0 by omega]; rfl
    have hop : opB k lz fr to used ee o = upB lz l o' (-1) := by unfold opB; rw [hR0, hfin]
    generalize hU : upB lz l o' (-1) = U
    refine c_loopG (fun m a' w' => ∃ (q : List PN) (l : List (Int × Int)) (inn z : Int), m = l.length ∧ l.length ≤ 3 ∧ z = (l.length : Int) - 1 ∧ upB lz l q inn = U ∧ o.length ≤ q.length ∧ (-1 ≤ inn ∧ inn < q.length) ∧ OPV fe fx q.length l ∧ BV w'.heap B T ⟨q, rs, W⟩ ∧ FB w'.heap eb 3 fe 231 ∧ FB w'.heap xb 3 fx 231 ∧ Fram (bset B) w w' ∧ ∃ e, a' = Fr 79 (upds e [(0, ptr B.sb), (2, .bool lz), (15, ptr eb), (16, ptr xb), (18, icv inn), (19, icv z)]) []) l.length ⟨o', l, -1, (k : Int) - 1, rfl, by omega, by omega, hU, hoo, ⟨by omega, by omega⟩, hOP, V.re hB hO hK hR, hE, hX, hF, kp _ ⟨rfl, rfl, rfl, rfl, rfl, rfl, trivial⟩⟩ ?_
    clear hB hO hK hR hE hX hF V hol hOP hfin hdn hlj hoo hjk'
    rw [hU] at hop
    clear hU
    clear l
    rintro m a' w1 ⟨q, l, inn, z, rfl, hl3, hz, hup, hoq, hin, hOP, ⟨fo, fw, fr', V⟩, hE, hX, hF, e, rfl⟩
    have hB := V.s
    have hO := V.o
    have hK := V.k
    have hR := V.r
    have hol := V.ol
    simp only at hol
    refine c_seq (fun K18 hK18 => ?_)
    refine c_seq (fun K19 hK19 => ?_)
    refine c_reg ?_ -- region 17 build.go:208
    refine wl (ro_move rfl) ?_
    refine wl (ro_cmp (r := decide (0 ≤ z)) rfl rfl rfl) ?_
    refine wl_nil (x_then (hK19 _ _ ?_))
    clear hK19 K19
    refine wc_cond rfl (fun hc53 => ?_) (fun hc53 => ?_)
    · try simp only [decide_eq_true_eq, decide_eq_false_iff_not, Bool.not_eq_true', Bool.not_eq_false', Bool.not_eq_eq_eq_not, Bool.not_true, Bool.not_false, beq_iff_eq, bne_iff_ne, ne_eq, beq_eq_false_iff_ne, bne_eq_false_iff_eq, gt_iff_lt, ge_iff_le, Int.not_lt, Int.not_le] at hc53
      obtain ⟨⟨pe, px⟩, l', rfl⟩ : ∃ p l', l = p :: l' := by
        cases l with
        | nil => simp at hz; omega
        | cons p l' => exact ⟨p, l', rfl⟩
      have hzz : z = (l'.length : Int) := by simp at hz; omega
      subst hzz
      simp only [List.length_cons] at hl3
      obtain ⟨hp1, hp2, hp3, hp4⟩ := hOP 0 (pe, px) rfl
      simp only [List.length_cons, Nat.add_sub_cancel, Nat.sub_zero] at hp1 hp2 hp3 hp4
      refine c_skip (x_then (hK18 _ _ ?_))
      clear hK18 K18
      refine forget [(0, _), (2, _), (15, _), (16, _), (18, _), (19, _)] ⟨rfl, rfl, rfl, rfl, rfl, rfl, trivial⟩ (fun e => ?_)
      refine c_seq (fun K20 hK20 => ?_)
      refine c_block ?_
      refine c_seq (fun K21 hK21 => ?_)
      refine c_reg ?_ -- region 19 build.go:209
      refine wl (ro_move rfl) ?_
      refine wl (ro_indexAddrA (et := 3) (k := 1) rfl rfl ar_231 (rfl) ((by omega : l'.length < 3))) ?_
      refine wl (ro_loadB rfl sc_3 (hX) (cel_at (by omega) (by omega) hp2)) ?_
      refine wl (ro_assign rfl) ?_
      refine wl_nil (x_then (hK21 _ _ ?_))
      clear hK21 K21
      refine c_mid (fun a' w' => ∃ (o1 : List PN) (x1 : Int), upB lz l' (upO lz o1 pe x1) (top (upO lz o1 pe x1)) = U ∧ q.length ≤ o1.length ∧ (-1 ≤ x1 ∧ x1 < o1.length) ∧ BV w'.heap B T ⟨o1, rs, W⟩ ∧ FB w'.heap eb 3 fe 231 ∧ FB w'.heap xb 3 fx 231 ∧ Fram (bset B) w w' ∧ ∃ e, a' = Fr 79 (upds e [(0, ptr B.sb), (2, .bool lz), (15, ptr eb), (16, ptr xb), (18, icv inn), (19, i64c l'.length), (20, icv x1)]) []) ?_ ?_
      · skip
        refine c_seq (fun K22 hK22 => ?_)
        refine c_reg ?_ -- region 20 build.go:210
        refine wl (ro_move rfl) ?_
        refine wl (ro_cmp (r := decide (0 ≤ inn)) rfl rfl rfl) ?_
        refine wl_nil (x_then (hK22 _ _ ?_))
        clear hK22 K22
        refine wc_cond rfl (fun hc60 => ?_) (fun hc60 => ?_)
        · try simp only [decide_eq_true_eq, decide_eq_false_iff_not, Bool.not_eq_true', Bool.not_eq_false', Bool.not_eq_eq_eq_not, Bool.not_true, Bool.not_false, beq_iff_eq, bne_iff_ne, ne_eq, beq_eq_false_iff_ne, bne_eq_false_iff_eq, gt_iff_lt, ge_iff_le, Int.not_lt, Int.not_le] at hc60
          refine c_reg ?_ -- region 21 build.go:211
          refine wl (ro_move rfl) ?_
          refine wl (ro_move rfl) ?_
          refine wl (ro_move rfl) ?_
          refine wl_call rfl en_106 (node106 D (V.re hB hO hK hR) (fun _ ↦ okx_nd hp4 hin)) ?_
          rintro _ w4 ⟨rfl, V4, F4⟩
          clear hB hO hK hR
          obtain ⟨fo4, fw4, fr4, V4⟩ := V4
          have hB := V4.s
          have hO := V4.o
          have hK := V4.k
          have hR := V4.r
          replace hE := hE.fram F4 hebn
          replace hX := hX.fram F4 hxbn
          replace hF := hF.trans F4
          refine wl (ro_assign rfl) ?_
          refine wl_nil (x_then ?_)
          rw [upB, if_pos hc60] at hup
          exact ⟨_, _, hup, addB_ge, top_ge _, V4.re hB hO hK hR, hE, hX, hF, kp _ ⟨rfl, rfl, rfl, rfl, rfl, rfl, rfl, trivial⟩⟩
        · try simp only [decide_eq_true_eq, decide_eq_false_iff_not, Bool.not_eq_true', Bool.not_eq_false', Bool.not_eq_eq_eq_not, Bool.not_true, Bool.not_false, beq_iff_eq, bne_iff_ne, ne_eq, beq_eq_false_iff_ne, bne_eq_false_iff_eq, gt_iff_lt, ge_iff_le, Int.not_lt, Int.not_le] at hc60
          refine c_skip (x_then ?_)
          rw [upB, if_neg (by omega)] at hup
          exact ⟨_, _, hup, by omega, hp4, V.re hB hO hK hR, hE, hX, hF, kp _ ⟨rfl, rfl, rfl, rfl, rfl, rfl, rfl, trivial⟩⟩
      clear hB hO hK hR hE hX hF
      rintro a' w3 ⟨o1, x1, hup1, ho1, hx1, V1, hE, hX, hF, e, rfl⟩
      have hol1 : o1.length ≤ 31 := V1.ol
      obtain ⟨fo1, fw1, fr1, V1⟩ := V1
      have hB := V1.s
      have hO := V1.o
      have hK := V1.k
      have hR := V1.r
      refine c_seq (fun K23 hK23 => ?_)
      refine c_reg ?_ -- region 22 build.go:213
      refine wl (ro_move rfl) ?_
      refine wl_nil (x_then (hK23 _ _ ?_))
      clear hK23 K23
      refine wc_cond rfl (fun hc65 => ?_) (fun hc65 => ?_)
      · try simp only [decide_eq_true_eq, decide_eq_false_iff_not, Bool.not_eq_true', Bool.not_eq_false', Bool.not_eq_eq_eq_not, Bool.not_true, Bool.not_false, beq_iff_eq, bne_iff_ne, ne_eq, beq_eq_false_iff_ne, bne_eq_false_iff_eq, gt_iff_lt, ge_iff_le, Int.not_lt, Int.not_le] at hc65
        refine c_reg ?_ -- region 23 build.go:214
        refine wl (ro_move rfl) ?_
        refine wl (ro_move rfl) ?_
        refine wl (ro_indexAddrA (et := 3) (k := 1) rfl rfl ar_231 (rfl) ((by omega : l'.length < 3))) ?_
        refine wl (ro_loadB rfl sc_3 (hE) (cel_at (by omega) (by omega) hp1)) ?_
        refine wl (ro_move rfl) ?_
        refine wl_call rfl en_106 (node106 D (V1.re hB hO hK hR) (fun _ ↦ okx_nd (show -1 ≤ pe ∧ pe < o1.length by omega) hx1)) ?_
        rintro _ w4 ⟨rfl, V4, F4⟩
        clear hB hO hK hR
        obtain ⟨fo4, fw4, fr4, V4⟩ := V4
        have hB := V4.s
        have hO := V4.o
        have hK := V4.k
        have hR := V4.r
        replace hE := hE.fram F4 hebn
        replace hX := hX.fram F4 hxbn
        replace hF := hF.trans F4
        refine wl (ro_assign rfl) ?_
        refine wl_nil (x_blk (x_then (hK20 _ _ ?_)))
        clear hK20 K20
        refine c_reg ?_ -- region 18 build.go:208
        refine wl (ro_move rfl) ?_
        refine wl (ro_arith rfl rfl rfl (Go.IntWalk.i64_in _ (by omega))) ?_
        refine wl (ro_assign rfl) ?_
        refine wl_nil (x_then ?_)
        subst hc65
        have eU : upO true o1 pe x1 = addB o1 (nd 5 pe x1) := rfl
        rw [eU] at hup1
        have hle := addB_ge (o := o1) (x := nd 5 pe x1)
        exact ⟨l'.length, by simp, _, l', _, _, rfl, by omega, rfl, hup1, by omega, top_ge _, hOP.tail.mono (by omega), V4.re hB hO hK hR, hE, hX, hF, kp _ ⟨rfl, rfl, rfl, rfl, rfl, rfl, trivial⟩⟩
      · try simp only [decide_eq_true_eq, decide_eq_false_iff_not, Bool.not_eq_true', Bool.not_eq_false', Bool.not_eq_eq_eq_not, Bool.not_true, Bool.not_false, beq_iff_eq, bne_iff_ne, ne_eq, beq_eq_false_iff_ne, bne_eq_false_iff_eq, gt_iff_lt, ge_iff_le, Int.not_lt, Int.not_le] at hc65
        refine c_seq (fun K24 hK24 => ?_)
        refine c_reg ?_ -- region 24 build.go:216
        refine wl (ro_move rfl) ?_
        refine wl_call rfl en_106 (node106 D (V1.re hB hO hK hR) (fun _ ↦ okx_no)) ?_
        rintro _ w4 ⟨rfl, V4, F4⟩
        clear hB hO hK hR
        obtain ⟨fo4, fw4, fr4, V4⟩ := V4
        have hB := V4.s
        have hO := V4.o
        have hK := V4.k
        have hR := V4.r
        replace hE := hE.fram F4 hebn
        replace hX := hX.fram F4 hxbn
        replace hF := hF.trans F4
        refine wl (ro_assign rfl) ?_
        refine wl_nil (x_then (hK24 _ _ ?_))
        clear hK24 K24
        refine c_reg ?_ -- region 25 build.go:217
        refine wl (ro_move rfl) ?_
        refine wl (ro_move rfl) ?_
        refine wl (ro_move rfl) ?_
        refine wl_call rfl en_106 (node106 D (V4.re hB hO hK hR) (fun _ ↦ okx_nd (show -1 ≤ x1 ∧ x1 < (addB o1 (nd 0 (-1) (-1))).length by have := addB_ge (o := o1) (x := nd 0 (-1) (-1)); omega) (top_ge _))) ?_
        rintro _ w5 ⟨rfl, V5, F5⟩
        clear hB hO hK hR
        obtain ⟨fo5, fw5, fr5, V5⟩ := V5
        have hB := V5.s
        have hO := V5.o
        have hK := V5.k
        have hR := V5.r
        replace hE := hE.fram F5 hebn
        replace hX := hX.fram F5 hxbn
        replace hF := hF.trans F5
        refine wl (ro_assign rfl) ?_
        refine wl_nil (x_blk (x_then (hK20 _ _ ?_)))
        clear hK20 K20
        refine c_reg ?_ -- region 18 build.go:208
        refine wl (ro_move rfl) ?_
        refine wl (ro_arith rfl rfl rfl (Go.IntWalk.i64_in _ (by omega))) ?_
        refine wl (ro_assign rfl) ?_
        refine wl_nil (x_then ?_)
        subst hc65
        have eU : upO false o1 pe x1 = addB (addB o1 (nd 0 (-1) (-1))) (nd 5 x1 (top (addB o1 (nd 0 (-1) (-1))))) := rfl
        rw [eU] at hup1
        have hle := addB_ge (o := o1) (x := nd 0 (-1) (-1))
        have hle2 := addB_ge (o := addB o1 (nd 0 (-1) (-1))) (x := nd 5 x1 (top (addB o1 (nd 0 (-1) (-1)))))
        exact ⟨l'.length, by simp, _, l', _, _, rfl, by omega, rfl, hup1, by omega, top_ge _, hOP.tail.mono (by omega), V5.re hB hO hK hR, hE, hX, hF, kp _ ⟨rfl, rfl, rfl, rfl, rfl, rfl, trivial⟩⟩
    · try simp only [decide_eq_true_eq, decide_eq_false_iff_not, Bool.not_eq_true', Bool.not_eq_false', Bool.not_eq_eq_eq_not, Bool.not_true, Bool.not_false, beq_iff_eq, bne_iff_ne, ne_eq, beq_eq_false_iff_ne, bne_eq_false_iff_eq, gt_iff_lt, ge_iff_le, Int.not_lt, Int.not_le] at hc53
      refine c_exit (x_thenX (x_thenX (x_blkX (x_then (hK16 _ _ ?_)))))
      clear hK18 K18 hK16 K16
      refine forget [(18, _)] ⟨rfl, trivial⟩ (fun e => ?_)
      refine c_seq (fun K25 hK25 => ?_)
      refine c_reg ?_ -- region 26 build.go:220
      refine wl (ro_move rfl) ?_
      refine wl (ro_assign rfl) ?_
      refine wl_nil (x_then (hK25 _ _ ?_))
      clear hK25 K25
      refine c_ret ?_
      refine bp_ret Tryz.results132 rfl ?_
      have hl0 : l = [] := by
        cases l with
        | nil => rfl
        | cons p l' => simp at hz; omega
      subst hl0
      have : U = (q, inn) := by rw [← hup]; rfl
      rw [this] at hop
      simp only [hop]
      exact ⟨trivial, ⟨hin.1, hin.2, hoq⟩, V.re hB hO hK hR, hF⟩

end Go.Proofs.Qxb6500567aGreat
