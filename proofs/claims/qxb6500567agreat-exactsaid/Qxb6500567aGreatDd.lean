import Derived.Test.Qxb6500567aGreatDc
/- The real simplifier: block copies, options, unrolling. -/
namespace Go.Proofs.Qxb6500567aGreat
set_option linter.unusedVariables false
set_option linter.unusedSimpArgs false

theorem BVr.re {H H' : Array Obj} {B : SB} {T : List RE} {σ : BS} {fo fw fr : Nat → Value} (V : BVr H B T σ fo fw fr) (hs : Blk H' B.sb (B.cells σ.o.length σ.W.length σ.rs.length) 101) (ho : FB H' B.ob 341 fo 89) (hk : FB H' B.kb 196 fw 202) (hr : FB H' B.rb 25 fr 3) : BV H' B T σ :=
  ⟨fo, fw, fr, hs, ho, hk, hr, V.ol, V.wl, V.rl, V.ov, V.ok, V.wv, V.rv⟩

theorem addB_pre (o : List PN) (x : PN) : ∃ D, addB o x = o ++ D := by
  unfold addB
  split
  · exact ⟨[x], rfl⟩
  · exact ⟨[], by simp⟩
theorem addB_len {o : List PN} {x : PN} (h : o.length ≤ 31) : (addB o x).length = min 31 (o.length + 1) := by
  unfold addB
  split
  · simp; omega
  · omega
theorem cpL_snoc (U : List PN) (x : PN) (d : Int) (o : List PN) : cpL (U ++ [x]) d o = addB (cpL U d o) (x.sh d) := by simp [cpL]
theorem cpL_pre (d : Int) : ∀ (U : List PN) (o : List PN), ∃ D, cpL U d o = o ++ D
  | [], o => ⟨[], by simp [cpL]⟩
  | x :: U, o => by
    obtain ⟨D, hD⟩ := addB_pre o (x.sh d)
    obtain ⟨D', hD'⟩ := cpL_pre d U (addB o (x.sh d))
    refine ⟨D ++ D', ?_⟩
    unfold cpL at hD' ⊢
    rw [List.foldl_cons, hD', hD]
    simp
theorem cpL_len (d : Int) : ∀ (U : List PN) (o : List PN), o.length ≤ 31 → (cpL U d o).length = min 31 (o.length + U.length)
  | [], o, h => by simp [cpL]; omega
  | x :: U, o, h => by
    have h1 := addB_len (x := x.sh d) h
    have := cpL_len d U (addB o (x.sh d)) (by omega)
    unfold cpL at this ⊢
    rw [List.foldl_cons, this, h1]
    simp
    omega

theorem cpB_len {o : List PN} {fr to : Nat} (h : o.length ≤ 31) (h1 : fr ≤ to) (h2 : to ≤ o.length) : o.length ≤ (cpB o fr to).length ∧ (cpB o fr to).length ≤ 31 := by
  unfold cpB
  rw [cpL_len _ _ _ h]
  simp
  omega

theorem ob_load {fo : Nat → Value} {i : Nat} {cs : List Value} (h : i < 31) (hc : cel 11 (fun j => fo (0 + 11 * i + j)) = cs) : ((cel 341 fo).drop (0 + i * 11)).take 11 = cs := by
  rw [show 0 + i * 11 = 0 + 11 * i by omega, cel_sub (by omega)]; exact hc

theorem copyRun131 {w : World} {B : SB} {T : List RE} {σ : BS} {fr to : Nat} (D : D4 B) (V : BV w.heap B T σ) (h1 : fr ≤ to) (h2 : to ≤ σ.o.length) :
    Ret Tryz.prog 131 [ptr B.sb, i64c fr, i64c to] w (fun r w' => r = icv (top (cpB σ.o fr to)) ∧ BV w'.heap B T { σ with o := cpB σ.o fr to } ∧ Fram (bset B) w w') := by
  have hF : Fram (bset B) w w := Fram.refl _ _
  obtain ⟨dso, dsk, dsr, dok, dor, dkr⟩ := id D
  obtain ⟨fo0, fw0, fr0, V0⟩ := id V
  have hol := V0.ol
  have hB := V0.s
  refine ret_of Tryz.func131 rfl Tryz.ntmps131 rfl ?_
  refine c_seq (fun K1 hK1 => ?_)
  refine c_reg ?_ -- region 0 build.go:51
  refine wl (ro_assign rfl) ?_
  refine wl_nil (x_then (hK1 _ _ ?_))
  clear hK1 K1
  refine forget [(0, _), (1, _), (2, _)] ⟨rfl, rfl, rfl, trivial⟩ (fun e => ?_)
  refine c_seq (fun K2 hK2 => ?_)
  refine c_reg ?_ -- region 1 build.go:52
  refine wl (ro_move rfl) ?_
  refine wl (ro_nilCheck rfl) ?_
  refine wl (ro_fieldAddr (k := 4) rfl fo_101_4) ?_
  refine wl (ro_loadB rfl sc_3 (hB) (rfl)) ?_
  refine wl (ro_move rfl) ?_
  refine wl (ro_arith (r := ((σ.o.length - fr : Nat) : Int)) rfl rfl (congrArg some (by omega)) (Go.IntWalk.i64_in _ (by omega))) ?_
  refine wl (ro_assign rfl) ?_
  refine wl_nil (x_then (hK2 _ _ ?_))
  clear hK2 K2
  refine c_seq (fun K3 hK3 => ?_)
  refine c_seq (fun K4 hK4 => ?_)
  refine c_reg ?_ -- region 2 build.go:53
  refine wl (ro_move rfl) ?_
  refine wl (ro_assign rfl) ?_
  refine wl_nil (x_then (hK4 _ _ ?_))
  clear hK4 K4
  refine c_block ?_
  -- loop@r3: live slots [0, 2, 7, 8]
  refine c_loopG (fun m a' w' => ∃ (i : Nat), m = to - i ∧ fr ≤ i ∧ i ≤ to ∧ BV w'.heap B T { σ with o := cpL ((σ.o.drop fr).take (i - fr)) ((σ.o.length - fr : Nat) : Int) σ.o } ∧ Fram (bset B) w w' ∧ ∃ e, a' = Fr 53 (upds e [(0, ptr B.sb), (2, i64c to), (7, i64c (σ.o.length - fr)), (8, i64c i)]) []) (to - fr) ⟨fr, rfl, by omega, by omega, by rw [Nat.sub_self]; exact V, hF, kp _ ⟨rfl, rfl, rfl, rfl, trivial⟩⟩ ?_
  clear hB hF V V0
  rintro m a' w1 ⟨i, rfl, hi1, hi2, ⟨fo, fw, fr', V⟩, hF, e, rfl⟩
  have hB := V.s
  have hO := V.o
  have hK := V.k
  have hR := V.r
  have hll := cpL_len ((σ.o.length - fr : Nat) : Int) ((σ.o.drop fr).take (i - fr)) σ.o hol
  have hul : ((σ.o.drop fr).take (i - fr)).length = i - fr := by simp; omega
  rw [hul] at hll
  obtain ⟨Dp, hDp⟩ := cpL_pre ((σ.o.length - fr : Nat) : Int) ((σ.o.drop fr).take (i - fr)) σ.o
  refine c_seq (fun K5 hK5 => ?_)
  refine c_seq (fun K6 hK6 => ?_)
  refine c_reg ?_ -- region 3 build.go:53
  refine wl (ro_move rfl) ?_
  refine wl (ro_move rfl) ?_
  refine wl (ro_cmp (r := decide (i < to)) rfl rfl (congrArg some (decide_eq_decide.2 (by omega)))) ?_
  refine wl_nil (x_then (hK6 _ _ ?_))
  clear hK6 K6
  refine wc_cond rfl (fun hc19 => ?_) (fun hc19 => ?_)
  · try simp only [decide_eq_true_eq, decide_eq_false_iff_not, Bool.not_eq_true', Bool.not_eq_false', Bool.not_eq_eq_eq_not, Bool.not_true, Bool.not_false, beq_iff_eq, bne_iff_ne, ne_eq, beq_eq_false_iff_ne, bne_eq_false_iff_eq, gt_iff_lt, ge_iff_le, Int.not_lt, Int.not_le] at hc19
    obtain ⟨x, hx⟩ : ∃ x, σ.o[i]? = some x := ⟨_, List.getElem?_eq_getElem (by omega)⟩
    have hxi : (cpL ((σ.o.drop fr).take (i - fr)) ((σ.o.length - fr : Nat) : Int) σ.o)[i]? = some x := by rw [hDp, List.getElem?_append_left (by omega)]; exact hx
    have hld := ob_load (by omega) (V.ov i x hxi)
    have hok := V.ok i x hxi
    unfold OKx at hok
    refine c_skip (x_then (hK5 _ _ ?_))
    clear hK5 K5
    refine forget [(0, _), (2, _), (7, _), (8, _)] ⟨rfl, rfl, rfl, rfl, trivial⟩ (fun e => ?_)
    refine c_seq (fun K7 hK7 => ?_)
    refine c_block ?_
    refine c_seq (fun K8 hK8 => ?_)
    refine c_reg ?_ -- region 5 build.go:54
    refine wl (ro_move rfl) ?_
    refine wl (ro_nilCheck rfl) ?_
    refine wl (ro_fieldAddr (k := 3) rfl fo_101_3) ?_
    refine wl (ro_loadB rfl sc_98 (hB) (rfl)) ?_
    refine wl (ro_move rfl) ?_
    refine wl (ro_indexAddr (et := 89) (k := 11) rfl rfl se_98 (rfl) ((by omega : i < 31))) ?_
    refine wl (ro_loadAggB rfl ag_89 (hO) (rfl) (hld)) ?_
    refine wl_new (ze_89) (fun xb w1 hbxb hX F1 => ?_)
    have hbsxb := Nat.le_trans hF.size hbxb
    have hneB.sbxb : B.sb < xb := Nat.lt_of_lt_of_le hB.lt hbxb
    have hneB.obxb : B.ob < xb := Nat.lt_of_lt_of_le hO.lt hbxb
    have hneB.kbxb : B.kb < xb := Nat.lt_of_lt_of_le hK.lt hbxb
    have hneB.rbxb : B.rb < xb := Nat.lt_of_lt_of_le hR.lt hbxb
    replace hF := hF.thenDrew.thenN F1
    replace hB := F1.blkN hB
    replace hO := F1.blkN hO
    replace hK := F1.blkN hK
    replace hR := F1.blkN hR
    refine wl_puta rfl rfl ((ndP_cells x)) sz_89 (rfl) hX ((by simp)) (rfl) (fun w2 hX F2 => ?_)
    replace hF := hF.thenDrew.thenO F2 (by first | exact .inr (by omega) | exact .inl rfl | exact .inl (by assumption))
    replace hB := F2.blkO hB (by omega)
    replace hO := F2.blkO hO (by omega)
    replace hK := F2.blkO hK (by omega)
    replace hR := F2.blkO hR (by omega)
    refine wl_nil (x_then (hK8 _ _ ?_))
    clear hK8 K8
    refine c_mid (fun a' w' => Blk w'.heap xb (ndP { x with a := (x.sh ((σ.o.length - fr : Nat) : Int)).a }) 89 ∧ Blk w'.heap B.sb (B.cells (cpL ((σ.o.drop fr).take (i - fr)) ((σ.o.length - fr : Nat) : Int) σ.o).length σ.W.length σ.rs.length) 101 ∧ FB w'.heap B.ob 341 fo 89 ∧ FB w'.heap B.kb 196 fw 202 ∧ FB w'.heap B.rb 25 fr' 3 ∧ Fram (bset B) w w' ∧ ∃ e, a' = Fr 53 (upds e [(0, ptr B.sb), (2, i64c to), (7, i64c (σ.o.length - fr)), (8, i64c i), (9, ptr xb)]) []) ?_ ?_
    · skip
      refine c_seq (fun K9 hK9 => ?_)
      refine c_reg ?_ -- region 6 build.go:55
      refine wl (ro_fieldAddr (k := 1) rfl fo_89_1) ?_
      refine wl (ro_loadB rfl sc_3 (hX) (rfl)) ?_
      refine wl (ro_cmp (r := decide (0 ≤ x.a)) rfl rfl rfl) ?_
      refine wl_nil (x_then (hK9 _ _ ?_))
      clear hK9 K9
      refine wc_cond rfl (fun hc31 => ?_) (fun hc31 => ?_)
      · try simp only [decide_eq_true_eq, decide_eq_false_iff_not, Bool.not_eq_true', Bool.not_eq_false', Bool.not_eq_eq_eq_not, Bool.not_true, Bool.not_false, beq_iff_eq, bne_iff_ne, ne_eq, beq_eq_false_iff_ne, bne_eq_false_iff_eq, gt_iff_lt, ge_iff_le, Int.not_lt, Int.not_le] at hc31
        refine c_reg ?_ -- region 7 build.go:56
        refine wl (ro_fieldAddr (k := 1) rfl fo_89_1) ?_
        refine wl (ro_loadB rfl sc_3 (hX) (rfl)) ?_
        refine wl (ro_move rfl) ?_
        refine wl (ro_arith (r := x.a + ((σ.o.length - fr : Nat) : Int)) rfl rfl rfl (Go.IntWalk.i64_in _ (by omega))) ?_
        refine wl (ro_fieldAddr (k := 1) rfl fo_89_1) ?_
        refine wl_put rfl rfl rfl sz_3 hX ((by simp)) (rfl) (fun w3 hX F3 => ?_)
        replace hF := hF.thenDrew.thenO F3 (by first | exact .inr (by omega) | exact .inl rfl | exact .inl (by assumption))
        replace hB := F3.blkO hB (by omega)
        replace hO := F3.blkO hO (by omega)
        replace hK := F3.blkO hK (by omega)
        replace hR := F3.blkO hR (by omega)
        refine wl_nil (x_then ?_)
        have e1 : (x.sh ((σ.o.length - fr : Nat) : Int)).a = x.a + ((σ.o.length - fr : Nat) : Int) := by simp only [PN.sh]; rw [if_pos hc31]
        rw [e1]
        exact ⟨hX, hB, hO, hK, hR, hF, kp _ ⟨rfl, rfl, rfl, rfl, rfl, trivial⟩⟩
      · try simp only [decide_eq_true_eq, decide_eq_false_iff_not, Bool.not_eq_true', Bool.not_eq_false', Bool.not_eq_eq_eq_not, Bool.not_true, Bool.not_false, beq_iff_eq, bne_iff_ne, ne_eq, beq_eq_false_iff_ne, bne_eq_false_iff_eq, gt_iff_lt, ge_iff_le, Int.not_lt, Int.not_le] at hc31
        refine c_skip (x_then ?_)
        have e1 : (x.sh ((σ.o.length - fr : Nat) : Int)).a = x.a := by simp only [PN.sh]; rw [if_neg (by omega)]
        rw [e1]
        exact ⟨hX, hB, hO, hK, hR, hF, kp _ ⟨rfl, rfl, rfl, rfl, rfl, trivial⟩⟩
    clear hB hO hK hR hF hX
    rintro a' w3 ⟨hX, hB, hO, hK, hR, hF, e, rfl⟩
    refine c_mid (fun a' w' => Blk w'.heap xb (ndP (x.sh ((σ.o.length - fr : Nat) : Int))) 89 ∧ Blk w'.heap B.sb (B.cells (cpL ((σ.o.drop fr).take (i - fr)) ((σ.o.length - fr : Nat) : Int) σ.o).length σ.W.length σ.rs.length) 101 ∧ FB w'.heap B.ob 341 fo 89 ∧ FB w'.heap B.kb 196 fw 202 ∧ FB w'.heap B.rb 25 fr' 3 ∧ Fram (bset B) w w' ∧ ∃ e, a' = Fr 53 (upds e [(0, ptr B.sb), (2, i64c to), (7, i64c (σ.o.length - fr)), (8, i64c i), (9, ptr xb)]) []) ?_ ?_
    · skip
      refine c_seq (fun K10 hK10 => ?_)
      refine c_reg ?_ -- region 8 build.go:58
      refine wl (ro_fieldAddr (k := 2) rfl fo_89_2) ?_
      refine wl (ro_loadB rfl sc_3 (hX) (rfl)) ?_
      refine wl (ro_cmp (r := decide (0 ≤ x.b)) rfl rfl rfl) ?_
      refine wl_nil (x_then (hK10 _ _ ?_))
      clear hK10 K10
      refine wc_cond rfl (fun hc39 => ?_) (fun hc39 => ?_)
      · try simp only [decide_eq_true_eq, decide_eq_false_iff_not, Bool.not_eq_true', Bool.not_eq_false', Bool.not_eq_eq_eq_not, Bool.not_true, Bool.not_false, beq_iff_eq, bne_iff_ne, ne_eq, beq_eq_false_iff_ne, bne_eq_false_iff_eq, gt_iff_lt, ge_iff_le, Int.not_lt, Int.not_le] at hc39
        refine c_reg ?_ -- region 9 build.go:59
        refine wl (ro_fieldAddr (k := 2) rfl fo_89_2) ?_
        refine wl (ro_loadB rfl sc_3 (hX) (rfl)) ?_
        refine wl (ro_move rfl) ?_
        refine wl (ro_arith (r := x.b + ((σ.o.length - fr : Nat) : Int)) rfl rfl rfl (Go.IntWalk.i64_in _ (by omega))) ?_
        refine wl (ro_fieldAddr (k := 2) rfl fo_89_2) ?_
        refine wl_put rfl rfl rfl sz_3 hX ((by simp)) (rfl) (fun w4 hX F4 => ?_)
        replace hF := hF.thenDrew.thenO F4 (by first | exact .inr (by omega) | exact .inl rfl | exact .inl (by assumption))
        replace hB := F4.blkO hB (by omega)
        replace hO := F4.blkO hO (by omega)
        replace hK := F4.blkO hK (by omega)
        replace hR := F4.blkO hR (by omega)
        refine wl_nil (x_then ?_)
        have e1 : x.sh ((σ.o.length - fr : Nat) : Int) = { x with a := (x.sh ((σ.o.length - fr : Nat) : Int)).a, b := x.b + ((σ.o.length - fr : Nat) : Int) } := by simp only [PN.sh]; rw [if_pos (show 0 ≤ x.b from hc39)]
        rw [e1]
        exact ⟨hX, hB, hO, hK, hR, hF, kp _ ⟨rfl, rfl, rfl, rfl, rfl, trivial⟩⟩
      · try simp only [decide_eq_true_eq, decide_eq_false_iff_not, Bool.not_eq_true', Bool.not_eq_false', Bool.not_eq_eq_eq_not, Bool.not_true, Bool.not_false, beq_iff_eq, bne_iff_ne, ne_eq, beq_eq_false_iff_ne, bne_eq_false_iff_eq, gt_iff_lt, ge_iff_le, Int.not_lt, Int.not_le] at hc39
        refine c_skip (x_then ?_)
        have e1 : x.sh ((σ.o.length - fr : Nat) : Int) = { x with a := (x.sh ((σ.o.length - fr : Nat) : Int)).a } := by simp only [PN.sh]; rw [if_neg (show ¬ 0 ≤ x.b by omega)]
        rw [e1]
        exact ⟨hX, hB, hO, hK, hR, hF, kp _ ⟨rfl, rfl, rfl, rfl, rfl, trivial⟩⟩
    clear hB hO hK hR hF hX
    rintro a' w4 ⟨hX, hB, hO, hK, hR, hF, e, rfl⟩
    have hroom5 : (cpL ((σ.o.drop fr).take (i - fr)) ((σ.o.length - fr : Nat) : Int) σ.o).length < 31 → OKx (cpL ((σ.o.drop fr).take (i - fr)) ((σ.o.length - fr : Nat) : Int) σ.o).length (x.sh ((σ.o.length - fr : Nat) : Int)) := by
      intro hroom
      unfold OKx
      simp only [PN.sh]
      rw [hll] at hroom ⊢
      (repeat' split) <;> omega
    refine c_reg ?_ -- region 10 build.go:61
    refine wl (ro_move rfl) ?_
    refine wl (ro_loadAggB rfl ag_89 (hX) (rfl) (rfl)) ?_
    refine wl_call rfl en_108 (add108 D (V.re hB hO hK hR) (x := x.sh ((σ.o.length - fr : Nat) : Int)) hroom5) ?_
    rintro _ w5 ⟨rfl, V5, F5⟩
    replace hF := hF.trans F5
    refine wl_nil (x_blk (x_then (hK7 _ _ ?_)))
    clear hK7 K7
    refine c_reg ?_ -- region 4 build.go:53
    refine wl (ro_move rfl) ?_
    refine wl (ro_arith rfl rfl rfl (Go.IntWalk.i64_in _ (by omega))) ?_
    refine wl (ro_assign rfl) ?_
    refine wl_nil (x_then ?_)
    refine ⟨to - (i + 1), by omega, i + 1, rfl, by omega, by omega, ?_, hF, kp _ ⟨rfl, rfl, rfl, rfl, trivial⟩⟩
    have e2 : (σ.o.drop fr).take (i + 1 - fr) = (σ.o.drop fr).take (i - fr) ++ [x] := by
      rw [show i + 1 - fr = (i - fr) + 1 by omega, List.take_add_one, List.getElem?_drop, show fr + (i - fr) = i by omega, hx]
      rfl
    rw [e2, cpL_snoc]
    exact V5
  · try simp only [decide_eq_true_eq, decide_eq_false_iff_not, Bool.not_eq_true', Bool.not_eq_false', Bool.not_eq_eq_eq_not, Bool.not_true, Bool.not_false, beq_iff_eq, bne_iff_ne, ne_eq, beq_eq_false_iff_ne, bne_eq_false_iff_eq, gt_iff_lt, ge_iff_le, Int.not_lt, Int.not_le] at hc19
    refine c_exit (x_thenX (x_thenX (x_blkX (x_then (hK3 _ _ ?_)))))
    clear hK5 K5 hK3 K3
    refine forget [(0, _)] ⟨rfl, trivial⟩ (fun e => ?_)
    refine c_seq (fun K11 hK11 => ?_)
    refine c_reg ?_ -- region 11 build.go:63
    refine wl (ro_move rfl) ?_
    refine wl (ro_nilCheck rfl) ?_
    refine wl (ro_fieldAddr (k := 4) rfl fo_101_4) ?_
    refine wl (ro_loadB rfl sc_3 (hB) (rfl)) ?_
    refine wl (ro_arith rfl rfl rfl (Go.IntWalk.i64_in _ (by have := V.ol; omega))) ?_
    refine wl (ro_assign rfl) ?_
    refine wl_nil (x_then (hK11 _ _ ?_))
    clear hK11 K11
    refine c_ret ?_
    refine bp_ret Tryz.results131 rfl ?_
    have hit : i = to := by omega
    have e3 : cpL ((σ.o.drop fr).take (i - fr)) ((σ.o.length - fr : Nat) : Int) σ.o = cpB σ.o fr to := by
      unfold cpB
      rw [hit, show ((σ.o.length - fr : Nat) : Int) = (σ.o.length : Int) - fr by omega]
    rw [← e3]
    exact ⟨rfl, ⟨fo, fw, fr', V⟩, hF⟩

end Go.Proofs.Qxb6500567aGreat
