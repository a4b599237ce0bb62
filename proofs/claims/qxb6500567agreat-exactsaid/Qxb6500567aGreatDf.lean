import Derived.Test.Qxb6500567aGreatDe
/- The real simplifier: unrolling. -/
namespace Go.Proofs.Qxb6500567aGreat
set_option linter.unusedVariables false
set_option linter.unusedSimpArgs false

theorem unrB_congr {x y : PN} (h1 : x.mn = y.mn) (h2 : x.mx = y.mx) (h3 : x.lz = y.lz) : unrB x = unrB y := by
  funext fr e o first
  unfold unrB tlB
  rw [h1, h2, h3]

set_option maxHeartbeats 4000000 in
theorem unroll109 {w : World} {B : SB} {T : List RE} {σ : BS} {x : PN} {mn fr : Nat} {ee : Int} (D : D4 B) (V : BV w.heap B T σ) (hmn : x.mn = mn) (hmn3 : mn ≤ 3) (hmx1 : -1 ≤ x.mx) (hmx3 : x.mx ≤ 3) (h1 : fr ≤ σ.o.length) (he1 : -1 ≤ ee) (he2 : ee < σ.o.length) :
    Ret Tryz.prog 109 [ptr B.sb, .agg (ndP x).toArray, i64c fr, icv ee] w (fun r w' => r = icv (unrB x fr ee σ.o (popB σ.rs).1).2 ∧ (-1 ≤ (unrB x fr ee σ.o (popB σ.rs).1).2 ∧ (unrB x fr ee σ.o (popB σ.rs).1).2 < (unrB x fr ee σ.o (popB σ.rs).1).1.length) ∧ BV w'.heap B T ⟨(unrB x fr ee σ.o (popB σ.rs).1).1, (popB σ.rs).2, σ.W⟩ ∧ Fram (bset B) w w') := by
  have hF : Fram (bset B) w w := Fram.refl _ _
  obtain ⟨dso, dsk, dsr, dok, dor, dkr⟩ := id D
  obtain ⟨fo0, fw0, fr0, V0⟩ := id V
  have hB0 := V0.s.lt
  have hB1 := V0.o.lt
  have hB2 := V0.k.lt
  have hB3 := V0.r.lt
  obtain ⟨o, rs0, W⟩ := σ
  simp only at h1 he2
  have hB := V0.s
  have hO := V0.o
  have hK := V0.k
  have hR := V0.r
  have hol0 : o.length ≤ 31 := V0.ol
  generalize hfi : (popB rs0).1 = first
  generalize hrs : (popB rs0).2 = rs
  generalize hU0 : unL fr o.length first mn o (-1) false = U0
  have hU0' := hU0
  refine ret_of Tryz.func109 rfl Tryz.ntmps109 rfl ?_
  refine c_seq (fun K1 hK1 => ?_)
  refine c_reg ?_ -- region 0 build.go:151
  refine wl_box (cs := (ndP x)) rfl rfl (fun xb w1 hbxb hN F1 => ?_)
  have hbsxb := Nat.le_trans hF.size hbxb
  have hneB.sbxb : B.sb < xb := Nat.lt_of_lt_of_le hB.lt hbxb
  have hneB.obxb : B.ob < xb := Nat.lt_of_lt_of_le hO.lt hbxb
  have hneB.kbxb : B.kb < xb := Nat.lt_of_lt_of_le hK.lt hbxb
  have hneB.rbxb : B.rb < xb := Nat.lt_of_lt_of_le hR.lt hbxb
  replace hF := hF.thenDrew.thenN F1
  replace hB := F1.blkN hB
  replace hO := F1.blkN hO
  replace hK := F1.blkN hK
  replace hR := F1.blkN hR
  refine wl (ro_assign rfl) ?_
  refine wl_nil (x_then (hK1 _ _ ?_))
  clear hK1 K1
  refine forget [(0, _), (2, _), (3, _), (5, _)] ⟨rfl, rfl, rfl, rfl, trivial⟩ (fun e => ?_)
  refine c_seq (fun K2 hK2 => ?_)
  refine c_reg ?_ -- region 1 build.go:152
  refine wl (ro_move rfl) ?_
  refine wl_call rfl en_105 (popRoot105 D (V0.re hB hO hK hR)) ?_
  rintro _ w3 ⟨rfl, hfb, V3, F3⟩
  simp only [hfi, hrs] at hfb V3 ⊢
  have hxbn : ¬ bset B xb := by rintro (h | h | h | h) <;> omega
  replace hN := hN.fram F3 hxbn
  replace hF := hF.trans F3
  clear hB hO hK hR
  obtain ⟨fo3, fw3, fr3, V3⟩ := V3
  have hB := V3.s
  have hO := V3.o
  have hK := V3.k
  have hR := V3.r
  refine wl (ro_assign rfl) ?_
  refine wl_nil (x_then (hK2 _ _ ?_))
  clear hK2 K2
  refine forget [(0, _), (2, _), (3, _), (5, _), (9, _)] ⟨rfl, rfl, rfl, rfl, rfl, trivial⟩ (fun e => ?_)
  refine c_seq (fun K3 hK3 => ?_)
  refine c_reg ?_ -- region 2 build.go:153
  refine wl (ro_move rfl) ?_
  refine wl (ro_nilCheck rfl) ?_
  refine wl (ro_fieldAddr (k := 4) rfl fo_101_4) ?_
  refine wl (ro_loadB rfl sc_3 (hB) (rfl)) ?_
  refine wl (ro_assign rfl) ?_
  refine wl_nil (x_then (hK3 _ _ ?_))
  clear hK3 K3
  refine forget [(0, _), (2, _), (3, _), (5, _), (9, _), (10, _)] ⟨rfl, rfl, rfl, rfl, rfl, rfl, trivial⟩ (fun e => ?_)
  refine c_seq (fun K4 hK4 => ?_)
  refine c_reg ?_ -- region 3 build.go:154
  refine wl (ro_assign rfl) ?_
  refine wl_nil (x_then (hK4 _ _ ?_))
  clear hK4 K4
  refine forget [(0, _), (2, _), (3, _), (5, _), (9, _), (10, _), (11, _)] ⟨rfl, rfl, rfl, rfl, rfl, rfl, rfl, trivial⟩ (fun e => ?_)
  refine c_seq (fun K5 hK5 => ?_)
  refine c_reg ?_ -- region 4 build.go:155
  refine wl (ro_assign rfl) ?_
  refine wl_nil (x_then (hK5 _ _ ?_))
  clear hK5 K5
  refine c_seq (fun K6 hK6 => ?_)
  refine c_seq (fun K7 hK7 => ?_)
  refine c_reg ?_ -- region 5 build.go:156
  refine wl (ro_assign rfl) ?_
  refine wl_nil (x_then (hK7 _ _ ?_))
  clear hK7 K7
  refine c_block ?_
  -- loop@r6: live slots [0, 2, 3, 5, 9, 10, 11, 12, 13]
  refine c_loopG (fun m a' w' => ∃ (j : Nat) (o' : List PN) (acc : Int) (us : Bool), m = mn - j ∧ j ≤ mn ∧ unL fr o.length first (mn - j) o' acc us = U0 ∧ o.length ≤ o'.length ∧ (-1 ≤ acc ∧ acc < o'.length) ∧ BV w'.heap B T ⟨o', rs, W⟩ ∧ Blk w'.heap xb (ndP x) 89 ∧ Fram (bset B) w w' ∧ ∃ e, a' = Fr 85 (upds e [(0, ptr B.sb), (2, i64c fr), (3, icv ee), (5, ptr xb), (9, icv first), (10, i64c o.length), (11, icv acc), (12, .bool us), (13, i64c j)]) []) mn ⟨0, o, -1, false, rfl, by omega, hU0, by omega, ⟨by omega, by omega⟩, V3.re hB hO hK hR, hN, hF, kp _ ⟨rfl, rfl, rfl, rfl, rfl, rfl, rfl, rfl, rfl, trivial⟩⟩ ?_
  clear hB hO hK hR hN hF V V0 V3 hU0
  rintro m a' w1 ⟨j, o', acc, us, rfl, hjm, hun, hoo, hacc, ⟨fo, fw, fr', V⟩, hN, hF, e, rfl⟩
  have hB := V.s
  have hO := V.o
  have hK := V.k
  have hR := V.r
  have hol : o'.length ≤ 31 := V.ol
  refine c_seq (fun K8 hK8 => ?_)
  refine c_seq (fun K9 hK9 => ?_)
  refine c_reg ?_ -- region 6 build.go:156
  refine wl (ro_move rfl) ?_
  refine wl (ro_fieldAddr (k := 3) rfl fo_89_3) ?_
  refine wl (ro_loadB rfl sc_3 (hN) ((show _ = some (icv x.mn) from rfl))) ?_
  refine wl (ro_cmp (r := decide (j < mn)) rfl rfl (congrArg some (decide_eq_decide.2 (by omega)))) ?_
  refine wl_nil (x_then (hK9 _ _ ?_))
  clear hK9 K9
  refine wc_cond rfl (fun hc26 => ?_) (fun hc26 => ?_)
  · try simp only [decide_eq_true_eq, decide_eq_false_iff_not, Bool.not_eq_true', Bool.not_eq_false', Bool.not_eq_eq_eq_not, Bool.not_true, Bool.not_false, beq_iff_eq, bne_iff_ne, ne_eq, beq_eq_false_iff_ne, bne_eq_false_iff_eq, gt_iff_lt, ge_iff_le, Int.not_lt, Int.not_le] at hc26
    rw [show mn - j = (mn - (j + 1)) + 1 by omega, unL] at hun
    refine c_skip (x_then (hK8 _ _ ?_))
    clear hK8 K8
    refine forget [(0, _), (2, _), (3, _), (5, _), (9, _), (10, _), (11, _), (12, _), (13, _)] ⟨rfl, rfl, rfl, rfl, rfl, rfl, rfl, rfl, rfl, trivial⟩ (fun e => ?_)
    refine c_seq (fun K10 hK10 => ?_)
    refine c_block ?_
    refine c_seq (fun K11 hK11 => ?_)
    refine c_reg ?_ -- region 8 build.go:157
    refine wl (ro_move rfl) ?_
    refine wl (ro_assign rfl) ?_
    refine wl_nil (x_then (hK11 _ _ ?_))
    clear hK11 K11
    refine c_mid (fun a' w' => ∃ (o1 : List PN) (c : Int), (if acc < 0 then unL fr o.length first (mn - (j + 1)) o1 c true else unL fr o.length first (mn - (j + 1)) (addB o1 (nd 4 acc c)) (top (addB o1 (nd 4 acc c))) true) = U0 ∧ o'.length ≤ o1.length ∧ (-1 ≤ c ∧ c < o1.length) ∧ BV w'.heap B T ⟨o1, rs, W⟩ ∧ Blk w'.heap xb (ndP x) 89 ∧ Fram (bset B) w w' ∧ ∃ e, a' = Fr 85 (upds e [(0, ptr B.sb), (2, i64c fr), (3, icv ee), (5, ptr xb), (9, icv first), (10, i64c o.length), (11, icv acc), (13, i64c j), (14, icv c)]) []) ?_ ?_
    · skip
      refine c_seq (fun K12 hK12 => ?_)
      refine c_reg ?_ -- region 9 build.go:158
      refine wl (ro_move rfl) ?_
      refine wl_nil (x_then (hK12 _ _ ?_))
      clear hK12 K12
      refine wc_cond rfl (fun hc30 => ?_) (fun hc30 => ?_)
      · try simp only [decide_eq_true_eq, decide_eq_false_iff_not, Bool.not_eq_true', Bool.not_eq_false', Bool.not_eq_eq_eq_not, Bool.not_true, Bool.not_false, beq_iff_eq, bne_iff_ne, ne_eq, beq_eq_false_iff_ne, bne_eq_false_iff_eq, gt_iff_lt, ge_iff_le, Int.not_lt, Int.not_le] at hc30
        refine c_reg ?_ -- region 10 build.go:159
        refine wl (ro_move rfl) ?_
        refine wl (ro_move rfl) ?_
        refine wl (ro_move rfl) ?_
        refine wl_call rfl en_131 (copyRun131 D (V.re hB hO hK hR) h1 (show o.length ≤ o'.length from hoo)) ?_
        rintro _ w5 ⟨rfl, V5, F5⟩
        replace hN := hN.fram F5 hxbn
        replace hF := hF.trans F5
        clear hB hO hK hR
        obtain ⟨fo5, fw5, fr5, V5⟩ := V5
        have hB := V5.s
        have hO := V5.o
        have hK := V5.k
        have hR := V5.r
        refine wl (ro_assign rfl) ?_
        refine wl_nil (x_then ?_)
        subst hc30
        simp only [if_true] at hun
        have hcl := cpB_len hol h1 hoo
        exact ⟨_, _, hun, hcl.1, top_ge _, V5.re hB hO hK hR, hN, hF, kp _ ⟨rfl, rfl, rfl, rfl, rfl, rfl, rfl, rfl, rfl, trivial⟩⟩
      · try simp only [decide_eq_true_eq, decide_eq_false_iff_not, Bool.not_eq_true', Bool.not_eq_false', Bool.not_eq_eq_eq_not, Bool.not_true, Bool.not_false, beq_iff_eq, bne_iff_ne, ne_eq, beq_eq_false_iff_ne, bne_eq_false_iff_eq, gt_iff_lt, ge_iff_le, Int.not_lt, Int.not_le] at hc30
        refine c_skip (x_then ?_)
        subst hc30
        simp only [Bool.false_eq_true, if_false] at hun
        exact ⟨_, _, hun, by omega, (show -1 ≤ first ∧ first < (o'.length : Int) by omega), V.re hB hO hK hR, hN, hF, kp _ ⟨rfl, rfl, rfl, rfl, rfl, rfl, rfl, rfl, rfl, trivial⟩⟩
    clear hB hO hK hR hN hF
    rintro a' w4 ⟨o1, c, hun1, ho1, hcb, V4, hN, hF, e, rfl⟩
    have hol1 : o1.length ≤ 31 := V4.ol
    obtain ⟨fo4, fw4, fr4, V4⟩ := V4
    have hB := V4.s
    have hO := V4.o
    have hK := V4.k
    have hR := V4.r
    refine c_seq (fun K13 hK13 => ?_)
    refine c_reg ?_ -- region 11 build.go:161
    refine wl (ro_assign rfl) ?_
    refine wl_nil (x_then (hK13 _ _ ?_))
    clear hK13 K13
    refine forget [(0, _), (2, _), (3, _), (5, _), (9, _), (10, _), (11, _), (12, _), (13, _), (14, _)] ⟨rfl, rfl, rfl, rfl, rfl, rfl, rfl, rfl, rfl, rfl, trivial⟩ (fun e => ?_)
    refine c_seq (fun K14 hK14 => ?_)
    refine c_reg ?_ -- region 12 build.go:162
    refine wl (ro_move rfl) ?_
    refine wl (ro_cmp (r := decide (acc < 0)) rfl rfl rfl) ?_
    refine wl_nil (x_then (hK14 _ _ ?_))
    clear hK14 K14
    refine wc_cond rfl (fun hc36 => ?_) (fun hc36 => ?_)
    · try simp only [decide_eq_true_eq, decide_eq_false_iff_not, Bool.not_eq_true', Bool.not_eq_false', Bool.not_eq_eq_eq_not, Bool.not_true, Bool.not_false, beq_iff_eq, bne_iff_ne, ne_eq, beq_eq_false_iff_ne, bne_eq_false_iff_eq, gt_iff_lt, ge_iff_le, Int.not_lt, Int.not_le] at hc36
      refine c_reg ?_ -- region 13 build.go:163
      refine wl (ro_move rfl) ?_
      refine wl (ro_assign rfl) ?_
      refine wl_nil (x_blk (x_then (hK10 _ _ ?_)))
      clear hK10 K10
      refine c_reg ?_ -- region 7 build.go:156
      refine wl (ro_move rfl) ?_
      refine wl (ro_arith rfl rfl rfl (Go.IntWalk.i64_in _ (by omega))) ?_
      refine wl (ro_assign rfl) ?_
      refine wl_nil (x_then ?_)
      rw [if_pos hc36] at hun1
      exact ⟨mn - (j + 1), by omega, j + 1, o1, c, true, rfl, by omega, hun1, by omega, hcb, V4.re hB hO hK hR, hN, hF, kp _ ⟨rfl, rfl, rfl, rfl, rfl, rfl, rfl, rfl, rfl, trivial⟩⟩
    · try simp only [decide_eq_true_eq, decide_eq_false_iff_not, Bool.not_eq_true', Bool.not_eq_false', Bool.not_eq_eq_eq_not, Bool.not_true, Bool.not_false, beq_iff_eq, bne_iff_ne, ne_eq, beq_eq_false_iff_ne, bne_eq_false_iff_eq, gt_iff_lt, ge_iff_le, Int.not_lt, Int.not_le] at hc36
      refine c_reg ?_ -- region 14 build.go:165
      refine wl (ro_move rfl) ?_
      refine wl (ro_move rfl) ?_
      refine wl (ro_move rfl) ?_
      refine wl_call rfl en_106 (node106 D (V4.re hB hO hK hR) (fun _ ↦ okx_nd (show -1 ≤ acc ∧ acc < (o1.length : Int) by omega) hcb)) ?_
      rintro _ w5 ⟨rfl, V5, F5⟩
      replace hN := hN.fram F5 hxbn
      replace hF := hF.trans F5
      clear hB hO hK hR
      obtain ⟨fo5, fw5, fr5, V5⟩ := V5
      have hB := V5.s
      have hO := V5.o
      have hK := V5.k
      have hR := V5.r
      refine wl (ro_assign rfl) ?_
      refine wl_nil (x_blk (x_then (hK10 _ _ ?_)))
      clear hK10 K10
      refine c_reg ?_ -- region 7 build.go:156
      refine wl (ro_move rfl) ?_
      refine wl (ro_arith rfl rfl rfl (Go.IntWalk.i64_in _ (by omega))) ?_
      refine wl (ro_assign rfl) ?_
      refine wl_nil (x_then ?_)
      rw [if_neg (by omega)] at hun1
      have hle := addB_ge (o := o1) (x := nd 4 acc c)
      exact ⟨mn - (j + 1), by omega, j + 1, _, _, true, rfl, by omega, hun1, by omega, top_ge _, V5.re hB hO hK hR, hN, hF, kp _ ⟨rfl, rfl, rfl, rfl, rfl, rfl, rfl, rfl, rfl, trivial⟩⟩
  · try simp only [decide_eq_true_eq, decide_eq_false_iff_not, Bool.not_eq_true', Bool.not_eq_false', Bool.not_eq_eq_eq_not, Bool.not_true, Bool.not_false, beq_iff_eq, bne_iff_ne, ne_eq, beq_eq_false_iff_ne, bne_eq_false_iff_eq, gt_iff_lt, ge_iff_le, Int.not_lt, Int.not_le] at hc26
    refine c_exit (x_thenX (x_thenX (x_blkX (x_then (hK6 _ _ ?_)))))
    clear hK8 K8 hK6 K6
    refine forget [(0, _), (2, _), (3, _), (5, _), (9, _), (10, _), (11, _), (12, _)] ⟨rfl, rfl, rfl, rfl, rfl, rfl, rfl, rfl, trivial⟩ (fun e => ?_)
    refine c_seq (fun K15 hK15 => ?_)
    refine c_reg ?_ -- region 15 build.go:168
    refine wl (ro_assign rfl) ?_
    have hun2 : U0 = (o', acc, us) := by rw [← hun, show mn - j = 0 by omega]; rfl
    have hunr : unrB x fr ee o first = if acc < 0 then tlB x fr o.length first ee o' us else if (tlB x fr o.length first ee o' us).2 < 0 then ((tlB x fr o.length first ee o' us).1, acc) else (addB (tlB x fr o.length first ee o' us).1 (nd 4 acc (tlB x fr o.length first ee o' us).2), top (addB (tlB x fr o.length first ee o' us).1 (nd 4 acc (tlB x fr o.length first ee o' us).2))) := by
      unfold unrB
      rw [hmn, Int.toNat_natCast, hU0', hun2]
    refine wl_nil (x_then (hK15 _ _ ?_))
    clear hK15 K15
    refine c_mid (fun a' w' => ∃ (o1 : List PN) (tl : Int), tlB x fr o.length first ee o' us = (o1, tl) ∧ o'.length ≤ o1.length ∧ (-1 ≤ tl ∧ tl < o1.length) ∧ BV w'.heap B T ⟨o1, rs, W⟩ ∧ Fram (bset B) w w' ∧ ∃ e, a' = Fr 85 (upds e [(0, ptr B.sb), (11, icv acc), (15, icv tl)]) []) ?_ ?_
    · skip
      refine c_seq (fun K16 hK16 => ?_)
      refine c_reg ?_ -- region 16 build.go:169
      refine wl (ro_fieldAddr (k := 4) rfl fo_89_4) ?_
      refine wl (ro_loadB rfl sc_3 (hN) ((show _ = some (icv x.mx) from rfl))) ?_
      refine wl (ro_cmp (r := decide (x.mx < 0)) rfl rfl rfl) ?_
      refine wl_nil (x_then (hK16 _ _ ?_))
      clear hK16 K16
      refine wc_cond rfl (fun hc44 => ?_) (fun hc44 => ?_)
      · try simp only [decide_eq_true_eq, decide_eq_false_iff_not, Bool.not_eq_true', Bool.not_eq_false', Bool.not_eq_eq_eq_not, Bool.not_true, Bool.not_false, beq_iff_eq, bne_iff_ne, ne_eq, beq_eq_false_iff_ne, bne_eq_false_iff_eq, gt_iff_lt, ge_iff_le, Int.not_lt, Int.not_le] at hc44
        refine c_seq (fun K17 hK17 => ?_)
        refine c_reg ?_ -- region 17 build.go:170
        refine wl (ro_move rfl) ?_
        refine wl (ro_assign rfl) ?_
        refine wl_nil (x_then (hK17 _ _ ?_))
        clear hK17 K17
        refine c_mid (fun a' w' => ∃ (o1 : List PN) (c : Int), (o1 = (if us then cpB o' fr o.length else o') ∧ c = (if us then top (cpB o' fr o.length) else first)) ∧ o'.length ≤ o1.length ∧ (-1 ≤ c ∧ c < o1.length) ∧ BV w'.heap B T ⟨o1, rs, W⟩ ∧ Blk w'.heap xb (ndP x) 89 ∧ Fram (bset B) w w' ∧ ∃ e, a' = Fr 85 (upds e [(0, ptr B.sb), (5, ptr xb), (11, icv acc), (16, icv c)]) []) ?_ ?_
        · skip
          refine c_seq (fun K18 hK18 => ?_)
          refine c_reg ?_ -- region 18 build.go:171
          refine wl (ro_move rfl) ?_
          refine wl_nil (x_then (hK18 _ _ ?_))
          clear hK18 K18
          refine wc_cond rfl (fun hc46 => ?_) (fun hc46 => ?_)
          · try simp only [decide_eq_true_eq, decide_eq_false_iff_not, Bool.not_eq_true', Bool.not_eq_false', Bool.not_eq_eq_eq_not, Bool.not_true, Bool.not_false, beq_iff_eq, bne_iff_ne, ne_eq, beq_eq_false_iff_ne, bne_eq_false_iff_eq, gt_iff_lt, ge_iff_le, Int.not_lt, Int.not_le] at hc46
            refine c_reg ?_ -- region 19 build.go:172
            refine wl (ro_move rfl) ?_
            refine wl (ro_move rfl) ?_
            refine wl (ro_move rfl) ?_
            refine wl_call rfl en_131 (copyRun131 D (V.re hB hO hK hR) h1 (show o.length ≤ o'.length from hoo)) ?_
            rintro _ w5 ⟨rfl, V5, F5⟩
            replace hN := hN.fram F5 hxbn
            replace hF := hF.trans F5
            clear hB hO hK hR
            obtain ⟨fo5, fw5, fr5, V5⟩ := V5
            have hB := V5.s
            have hO := V5.o
            have hK := V5.k
            have hR := V5.r
            refine wl (ro_assign rfl) ?_
            refine wl_nil (x_then ?_)
            subst hc46
            have hcl := cpB_len hol h1 hoo
            exact ⟨_, _, ⟨rfl, rfl⟩, hcl.1, top_ge _, V5.re hB hO hK hR, hN, hF, kp _ ⟨rfl, rfl, rfl, rfl, trivial⟩⟩
          · try simp only [decide_eq_true_eq, decide_eq_false_iff_not, Bool.not_eq_true', Bool.not_eq_false', Bool.not_eq_eq_eq_not, Bool.not_true, Bool.not_false, beq_iff_eq, bne_iff_ne, ne_eq, beq_eq_false_iff_ne, bne_eq_false_iff_eq, gt_iff_lt, ge_iff_le, Int.not_lt, Int.not_le] at hc46
            refine c_skip (x_then ?_)
            subst hc46
            exact ⟨o', first, ⟨rfl, rfl⟩, by omega, (show -1 ≤ first ∧ first < (o'.length : Int) by omega), V.re hB hO hK hR, hN, hF, kp _ ⟨rfl, rfl, rfl, rfl, trivial⟩⟩
        clear hB hO hK hR hN hF
        rintro a' w6 ⟨o1, c, hoc, ho1, hcb, V6, hN, hF, e, rfl⟩
        obtain ⟨fo6, fw6, fr6, V6⟩ := V6
        have hB := V6.s
        have hO := V6.o
        have hK := V6.k
        have hR := V6.r
        have hadd := add108 (x := ⟨6, c, -1, 0, -1, 0, x.lz, 0⟩) D (V6.re hB hO hK hR) (fun _ ↦ ⟨hcb.1, hcb.2, by show (-1 : Int) ≤ -1; omega, by show (-1 : Int) < _; omega⟩)
        simp only [ndP, ndc, ← wd00] at hadd
        refine c_reg ?_ -- region 20 build.go:174
        refine wl (ro_move rfl) ?_
        refine wl (ro_move rfl) ?_
        refine wl (ro_fieldAddr (k := 6) rfl fo_89_6) ?_
        refine wl (ro_loadB rfl sc_4 (hN) ((show _ = some (.bool x.lz) from rfl))) ?_
        refine wl (ro_build rfl bld_89_0_1_2_3_4_6) ?_
        refine wl_call rfl en_108 (hadd) ?_
        rintro _ w7 ⟨rfl, V7, F7⟩
        replace hF := hF.trans F7
        clear hB hO hK hR
        obtain ⟨fo7, fw7, fr7, V7⟩ := V7
        have hB := V7.s
        have hO := V7.o
        have hK := V7.k
        have hR := V7.r
        refine wl (ro_assign rfl) ?_
        refine wl_nil (x_then ?_)
        have hle := addB_ge (o := o1) (x := ⟨6, c, -1, 0, -1, 0, x.lz, 0⟩)
        refine ⟨_, _, ?_, ?_, top_ge _, V7.re hB hO hK hR, hF, kp _ ⟨rfl, rfl, rfl, trivial⟩⟩
        · unfold tlB
          rw [if_pos hc44, ← hoc.1, ← hoc.2]
        · exact Nat.le_trans ho1 hle
      · try simp only [decide_eq_true_eq, decide_eq_false_iff_not, Bool.not_eq_true', Bool.not_eq_false', Bool.not_eq_eq_eq_not, Bool.not_true, Bool.not_false, beq_iff_eq, bne_iff_ne, ne_eq, beq_eq_false_iff_ne, bne_eq_false_iff_eq, gt_iff_lt, ge_iff_le, Int.not_lt, Int.not_le] at hc44
        refine c_seq (fun K19 hK19 => ?_)
        refine c_reg ?_ -- region 21 build.go:175
        refine wl (ro_fieldAddr (k := 4) rfl fo_89_4) ?_
        refine wl (ro_loadB rfl sc_3 (hN) ((show _ = some (icv x.mx) from rfl))) ?_
        refine wl (ro_fieldAddr (k := 3) rfl fo_89_3) ?_
        refine wl (ro_loadB rfl sc_3 (hN) ((show _ = some (icv x.mn) from rfl))) ?_
        refine wl (ro_cmp (r := decide (x.mn < x.mx)) rfl rfl rfl) ?_
        refine wl_nil (x_then (hK19 _ _ ?_))
        clear hK19 K19
        refine wc_cond rfl (fun hc61 => ?_) (fun hc61 => ?_)
        · try simp only [decide_eq_true_eq, decide_eq_false_iff_not, Bool.not_eq_true', Bool.not_eq_false', Bool.not_eq_eq_eq_not, Bool.not_true, Bool.not_false, beq_iff_eq, bne_iff_ne, ne_eq, beq_eq_false_iff_ne, bne_eq_false_iff_eq, gt_iff_lt, ge_iff_le, Int.not_lt, Int.not_le] at hc61
          refine c_reg ?_ -- region 22 build.go:176
          refine wl (ro_move rfl) ?_
          refine wl (ro_fieldAddr (k := 4) rfl fo_89_4) ?_
          refine wl (ro_loadB rfl sc_3 (hN) ((show _ = some (icv x.mx) from rfl))) ?_
          refine wl (ro_fieldAddr (k := 3) rfl fo_89_3) ?_
          refine wl (ro_loadB rfl sc_3 (hN) ((show _ = some (icv x.mn) from rfl))) ?_
          refine wl (ro_arith (r := ((x.mx - x.mn).toNat : Int)) rfl rfl (congrArg some (by show x.mx - x.mn = _; omega)) (Go.IntWalk.i64_in _ (by omega))) ?_
          refine wl (ro_fieldAddr (k := 6) rfl fo_89_6) ?_
          refine wl (ro_loadB rfl sc_4 (hN) ((show _ = some (.bool x.lz) from rfl))) ?_
          refine wl (ro_move rfl) ?_
          refine wl (ro_move rfl) ?_
          refine wl (ro_move rfl) ?_
          refine wl (ro_move rfl) ?_
          refine wl_call rfl en_132 (options132 D (V.re hB hO hK hR) (show (x.mx - x.mn).toNat ≤ 3 by omega) h1 (show o.length ≤ o'.length from hoo) he1 (show ee < (o'.length : Int) by omega)) ?_
          rintro _ w7 ⟨rfl, hopb, V7, F7⟩
          simp only at hopb
          replace hF := hF.trans F7
          clear hB hO hK hR
          obtain ⟨fo7, fw7, fr7, V7⟩ := V7
          have hB := V7.s
          have hO := V7.o
          have hK := V7.k
          have hR := V7.r
          refine wl (ro_assign rfl) ?_
          refine wl_nil (x_then ?_)
          refine ⟨_, _, ?_, hopb.2.2, ⟨hopb.1, hopb.2.1⟩, V7.re hB hO hK hR, hF, kp _ ⟨rfl, rfl, rfl, trivial⟩⟩
          unfold tlB
          rw [if_neg (by omega), if_pos hc61]
        · try simp only [decide_eq_true_eq, decide_eq_false_iff_not, Bool.not_eq_true', Bool.not_eq_false', Bool.not_eq_eq_eq_not, Bool.not_true, Bool.not_false, beq_iff_eq, bne_iff_ne, ne_eq, beq_eq_false_iff_ne, bne_eq_false_iff_eq, gt_iff_lt, ge_iff_le, Int.not_lt, Int.not_le] at hc61
          refine c_skip (x_then ?_)
          refine ⟨o', -1, ?_, by omega, ⟨by omega, by omega⟩, V.re hB hO hK hR, hF, kp _ ⟨rfl, rfl, rfl, trivial⟩⟩
          unfold tlB
          rw [if_neg (by omega), if_neg (by omega)]
    clear hB hO hK hR hN hF
    rintro a' w4 ⟨o1, tl, htl, ho1, htb, V4, hF, e, rfl⟩
    rw [htl] at hunr
    simp only at hunr
    obtain ⟨fo4, fw4, fr4, V4⟩ := V4
    have hB := V4.s
    have hO := V4.o
    have hK := V4.k
    have hR := V4.r
    refine c_seq (fun K20 hK20 => ?_)
    refine c_seq (fun K21 hK21 => ?_)
    refine c_reg ?_ -- region 23 build.go:178
    refine wl (ro_move rfl) ?_
    refine wl (ro_cmp (r := decide (acc < 0)) rfl rfl rfl) ?_
    refine wl_nil (x_then (hK21 _ _ ?_))
    clear hK21 K21
    refine wc_cond rfl (fun hc76 => ?_) (fun hc76 => ?_)
    · try simp only [decide_eq_true_eq, decide_eq_false_iff_not, Bool.not_eq_true', Bool.not_eq_false', Bool.not_eq_eq_eq_not, Bool.not_true, Bool.not_false, beq_iff_eq, bne_iff_ne, ne_eq, beq_eq_false_iff_ne, bne_eq_false_iff_eq, gt_iff_lt, ge_iff_le, Int.not_lt, Int.not_le] at hc76
      refine c_seq (fun K22 hK22 => ?_)
      refine c_reg ?_ -- region 24 build.go:179
      refine wl (ro_move rfl) ?_
      refine wl (ro_assign rfl) ?_
      refine wl_nil (x_then (hK22 _ _ ?_))
      clear hK22 K22
      refine c_ret (x_thenR ?_)
      refine bp_ret Tryz.results109 rfl ?_
      rw [if_pos hc76] at hunr
      simp only [hunr]
      exact ⟨trivial, htb, V4.re hB hO hK hR, hF⟩
    · try simp only [decide_eq_true_eq, decide_eq_false_iff_not, Bool.not_eq_true', Bool.not_eq_false', Bool.not_eq_eq_eq_not, Bool.not_true, Bool.not_false, beq_iff_eq, bne_iff_ne, ne_eq, beq_eq_false_iff_ne, bne_eq_false_iff_eq, gt_iff_lt, ge_iff_le, Int.not_lt, Int.not_le] at hc76
      refine c_skip (x_then (hK20 _ _ ?_))
      clear hK20 K20
      refine c_seq (fun K23 hK23 => ?_)
      refine c_seq (fun K24 hK24 => ?_)
      refine c_reg ?_ -- region 25 build.go:181
      refine wl (ro_move rfl) ?_
      refine wl (ro_cmp (r := decide (tl < 0)) rfl rfl rfl) ?_
      refine wl_nil (x_then (hK24 _ _ ?_))
      clear hK24 K24
      refine wc_cond rfl (fun hc79 => ?_) (fun hc79 => ?_)
      · try simp only [decide_eq_true_eq, decide_eq_false_iff_not, Bool.not_eq_true', Bool.not_eq_false', Bool.not_eq_eq_eq_not, Bool.not_true, Bool.not_false, beq_iff_eq, bne_iff_ne, ne_eq, beq_eq_false_iff_ne, bne_eq_false_iff_eq, gt_iff_lt, ge_iff_le, Int.not_lt, Int.not_le] at hc79
        refine c_seq (fun K25 hK25 => ?_)
        refine c_reg ?_ -- region 26 build.go:182
        refine wl (ro_move rfl) ?_
        refine wl (ro_assign rfl) ?_
        refine wl_nil (x_then (hK25 _ _ ?_))
        clear hK25 K25
        refine c_ret (x_thenR ?_)
        refine bp_ret Tryz.results109 rfl ?_
        rw [if_neg (by omega), if_pos hc79] at hunr
        simp only [hunr]
        exact ⟨trivial, (show -1 ≤ acc ∧ acc < (o1.length : Int) by omega), V4.re hB hO hK hR, hF⟩
      · try simp only [decide_eq_true_eq, decide_eq_false_iff_not, Bool.not_eq_true', Bool.not_eq_false', Bool.not_eq_eq_eq_not, Bool.not_true, Bool.not_false, beq_iff_eq, bne_iff_ne, ne_eq, beq_eq_false_iff_ne, bne_eq_false_iff_eq, gt_iff_lt, ge_iff_le, Int.not_lt, Int.not_le] at hc79
        refine c_skip (x_then (hK23 _ _ ?_))
        clear hK23 K23
        refine forget [(0, _), (11, _), (15, _)] ⟨rfl, rfl, rfl, trivial⟩ (fun e => ?_)
        refine c_seq (fun K26 hK26 => ?_)
        refine c_reg ?_ -- region 27 build.go:184
        refine wl (ro_move rfl) ?_
        refine wl (ro_move rfl) ?_
        refine wl (ro_move rfl) ?_
        refine wl_call rfl en_106 (node106 D (V4.re hB hO hK hR) (fun _ ↦ okx_nd (show -1 ≤ acc ∧ acc < (o1.length : Int) by omega) htb)) ?_
        rintro _ w8 ⟨rfl, V8, F8⟩
        replace hF := hF.trans F8
        clear hB hO hK hR
        obtain ⟨fo8, fw8, fr8, V8⟩ := V8
        have hB := V8.s
        have hO := V8.o
        have hK := V8.k
        have hR := V8.r
        refine wl (ro_assign rfl) ?_
        refine wl_nil (x_then (hK26 _ _ ?_))
        clear hK26 K26
        refine c_ret ?_
        refine bp_ret Tryz.results109 rfl ?_
        rw [if_neg (by omega), if_neg (by omega)] at hunr
        simp only [hunr]
        exact ⟨trivial, top_ge _, V8.re hB hO hK hR, hF⟩

end Go.Proofs.Qxb6500567aGreat
