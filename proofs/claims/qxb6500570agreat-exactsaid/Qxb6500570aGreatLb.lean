import Derived.Test.Qxb6500570aGreatLa
/- Edits: the real rewriting of a whole arena. -/
namespace Go.Proofs.Qxb6500570aGreat
set_option linter.unusedVariables false
set_option linter.unusedSimpArgs false

/-- The first i nodes have been turned. -/
def mpI (g : Nd → Nd) (n : List Nd) (i : Nat) : List Nd := (n.take i).map g ++ n.drop i
theorem mp_len (g : Nd → Nd) (n : List Nd) (i : Nat) : (mpI g n i).length = n.length := by
  unfold mpI
  rw [List.length_append, List.length_map, ← List.length_append, List.take_append_drop]
theorem mp_zero (g : Nd → Nd) (n : List Nd) : mpI g n 0 = n := by unfold mpI; simp
theorem mp_all (g : Nd → Nd) (n : List Nd) : mpI g n n.length = n.map g := by unfold mpI; simp
theorem mp_get {g : Nd → Nd} {n : List Nd} {i : Nat} {x : Nd} (h : n[i]? = some x) : (mpI g n i)[i]? = some x := by
  have hi := (List.getElem?_eq_some_iff.1 h).1
  unfold mpI
  rw [List.getElem?_append_right (by rw [List.length_map, List.length_take]; omega), List.length_map, List.length_take, Nat.min_eq_left (by omega), Nat.sub_self, List.getElem?_drop]
  exact h
theorem mp_set {g : Nd → Nd} {n : List Nd} {i : Nat} {x y : Nd} (h : n[i]? = some x) (hy : y = g x) : (mpI g n i).set i y = mpI g n (i + 1) := by
  subst hy
  obtain ⟨hi, hx⟩ := List.getElem?_eq_some_iff.1 h
  unfold mpI
  rw [List.set_append_right _ _ (by rw [List.length_map, List.length_take]; omega), List.length_map, List.length_take, Nat.min_eq_left (by omega), Nat.sub_self, List.drop_eq_getElem_cons hi, hx, List.set_cons_zero, List.take_add_one, h]
  simp
theorem mp_self {g : Nd → Nd} {n : List Nd} {i : Nat} {x : Nd} (h : n[i]? = some x) (hg : g x = x) : mpI g n i = mpI g n (i + 1) := by
  rw [← mp_set (g := g) h (y := x) hg.symm]
  exact (set_self (mp_get (g := g) h)).symm
set_option maxHeartbeats 4000000 in
theorem shiftAll73 {w : World} {rows ins : Bool} {a : Int} {n : List Nd} {nb : Nat} (hn : n.length ≤ 24) (hN : Blk w.heap nb (rws ndc n) 143) : Ret Tryz.prog 73 [gpA rows ins a, sl nb n.length] w (fun _ w' => Blk w'.heap nb (rws ndc (n.map (shN rows ins a))) 143 ∧ Fram (one nb) w w') := by
  have hF : Fram (one nb) w w := Fram.refl _ _
  have hm1 : one nb nb := rfl
  generalize hg : shN rows ins a = g
  have hgx : ∀ x, shN rows ins a x = g x := fun x => by rw [hg]
  clear hg
  refine ret_of Tryz.func73 rfl Tryz.ntmps73 rfl ?_
  refine c_seq (fun K1 hK1 => ?_)
  refine c_reg ?_ -- region 0 shift.go:132
  refine wl_box (cs := (gpc rows ins a)) rfl rfl (fun b2 w1 hbb2 h2 F1 => ?_)
  have hbsb2 := Nat.le_trans hF.size hbb2
  have hnenbb2 : nb < b2 := Nat.lt_of_lt_of_le hN.lt hbb2
  replace hF := hF.thenDrew.thenN F1
  replace hN := F1.blkN hN
  refine wl_nil (x_then (hK1 _ _ ?_))
  clear hK1 K1
  refine forget [(1, _), (2, _)] ⟨rfl, rfl, trivial⟩ (fun e => ?_)
  refine c_seq (fun K2 hK2 => ?_)
  refine c_reg ?_ -- region 1 shift.go:133
  refine wl (ro_assign rfl) ?_
  refine wl_nil (x_then (hK2 _ _ ?_))
  clear hK2 K2
  refine c_block ?_
  -- loop@r2: live slots [1, 2, 4]
  refine c_loopG (fun q a' w' => ∃ i, q = n.length - i ∧ i ≤ n.length ∧ Blk w'.heap nb (rws ndc (mpI g n i)) 143 ∧ Blk w'.heap b2 (gpc rows ins a) 110 ∧ Fram (one nb) w w' ∧ ∃ e, a' = Fr 46 (upds e [(1, sl nb n.length), (2, ptr b2), (4, i64c i)]) []) n.length ⟨0, rfl, by omega, by rw [mp_zero]; exact hN, h2, hF, kp _ ⟨rfl, rfl, rfl, trivial⟩⟩ ?_
  clear hF hN h2
  rintro q a' u1 ⟨i, rfl, hi, hN, h2, hF, e, rfl⟩
  refine c_seq (fun K3 hK3 => ?_)
  refine c_seq (fun K4 hK4 => ?_)
  refine c_reg ?_ -- region 2 shift.go:133
  refine wl (ro_move rfl) ?_
  refine wl (ro_move rfl) ?_
  refine wl (ro_lenL rfl se_78) ?_
  refine wl (ro_cmp (r := decide (i < n.length)) rfl rfl (congrArg some (decide_eq_decide.2 (by omega)))) ?_
  refine wl_nil (x_then (hK4 _ _ ?_))
  clear hK4 K4
  refine wc_cond rfl (fun hc9 => ?_) (fun hc9 => ?_)
  · try simp only [decide_eq_true_eq, decide_eq_false_iff_not, Bool.not_eq_true', Bool.not_eq_false', Bool.not_eq_eq_eq_not, Bool.not_true, Bool.not_false, beq_iff_eq, bne_iff_ne, ne_eq, beq_eq_false_iff_ne, bne_eq_false_iff_eq, gt_iff_lt, ge_iff_le, Int.not_lt, Int.not_le] at hc9
    obtain ⟨x, hx⟩ : ∃ x, n[i]? = some x := ⟨_, List.getElem?_eq_getElem hc9⟩
    have hx' := mp_get (g := g) hx
    have hgx' := hgx x
    unfold shN at hgx'
    refine c_skip (x_then (hK3 _ _ ?_))
    clear hK3 K3
    refine forget [(1, _), (2, _), (4, _)] ⟨rfl, rfl, rfl, trivial⟩ (fun e => ?_)
    refine c_seq (fun K5 hK5 => ?_)
    refine c_block ?_
    refine c_seq (fun K6 hK6 => ?_)
    refine c_reg ?_ -- region 4 shift.go:134
    refine wl (ro_move rfl) ?_
    refine wl (ro_move rfl) ?_
    refine wl (ro_indexAddr (et := 143) (k := 13) rfl rfl se_78 (rfl) ((by omega))) ?_
    refine wl (ro_assign rfl) ?_
    rw [Nat.zero_add]
    refine wl_nil (x_then (hK6 _ _ ?_))
    clear hK6 K6
    refine forget [(1, _), (2, _), (4, _), (5, _)] ⟨rfl, rfl, rfl, rfl, trivial⟩ (fun e => ?_)
    refine c_seq (fun K7 hK7 => ?_)
    refine c_reg ?_ -- region 5 shift.go:135
    refine wl (ro_move rfl) ?_
    refine wl (ro_nilCheck rfl) ?_
    refine wl (ro_fieldAddr (k := 0) rfl fo_143_0) ?_
    refine wl (ro_loadB rfl sc_3 (hN) ((rw_get ndc_len hx' (j := 0) (by omega) rfl))) ?_
    refine wl (ro_cmp rfl rfl rfl) ?_
    refine wl_nil (x_then (hK7 _ _ ?_))
    clear hK7 K7
    refine wc_cond rfl (fun hc19 => ?_) (fun hc19 => ?_)
    · try simp only [decide_eq_true_eq, decide_eq_false_iff_not, Bool.not_eq_true', Bool.not_eq_false', Bool.not_eq_eq_eq_not, Bool.not_true, Bool.not_false, beq_iff_eq, bne_iff_ne, ne_eq, beq_eq_false_iff_ne, bne_eq_false_iff_eq, gt_iff_lt, ge_iff_le, Int.not_lt, Int.not_le] at hc19
      refine c_seq (fun K8 hK8 => ?_)
      refine c_reg ?_ -- region 6 shift.go:136
      refine wl (ro_move rfl) ?_
      refine wl (ro_nilCheck rfl) ?_
      refine wl (ro_fieldAddr (k := 5) rfl fo_143_5) ?_
      refine wl (ro_loadAggB rfl ag_141 (hN) (rfl) ((rw_sub ndc_len hx' (j := 5) (m := 4) (by omega) (by omega)))) ?_
      refine wl_call rfl en_98 (InGrid98 (r := x.p)) ?_
      rintro _ u2 ⟨rfl, G2⟩
      replace hF := hF.transG G2 (by intro k hk h; simp only [none', one] at h ⊢ <;> omega)
      replace hN := G2.blkF hN (by intro h; simp only [none', one] at h <;> omega)
      replace h2 := G2.blkF h2 (by intro h; simp only [none', one] at h <;> omega)
      refine wl_nil (x_then (hK8 _ _ ?_))
      clear hK8 K8
      refine wc_cond rfl (fun hc24 => ?_) (fun hc24 => ?_)
      · try simp only [decide_eq_true_eq, decide_eq_false_iff_not, Bool.not_eq_true', Bool.not_eq_false', Bool.not_eq_eq_eq_not, Bool.not_true, Bool.not_false, beq_iff_eq, bne_iff_ne, ne_eq, beq_eq_false_iff_ne, bne_eq_false_iff_eq, gt_iff_lt, ge_iff_le, Int.not_lt, Int.not_le] at hc24
        refine c_reg ?_ -- region 7 shift.go:137
        refine wl (ro_loadAggB rfl ag_110 (h2) (rfl) (rfl)) ?_
        refine wl (ro_move rfl) ?_
        refine wl_call rfl en_99 (shiftRef99 (rows := rows) (ins := ins) (a := a) hN hx' hc24) ?_
        rintro _ u3 ⟨hN3, G3⟩
        replace hF := hF.transG G3 (by intro k hk h; simp only [none', one] at h ⊢ <;> omega)
        replace h2 := G3.blkF h2 (by intro h; simp only [none', one] at h <;> omega)
        rw [if_pos ⟨hc19, hc24⟩] at hgx'
        rw [mp_set hx hgx'] at hN3
        refine wl_nil (x_blk (x_then (hK5 _ _ ?_)))
        clear hK5 K5
        refine c_reg ?_ -- region 3 shift.go:133
        refine wl (ro_move rfl) ?_
        refine wl (ro_arith (r := ((i + 1 : Nat) : Int)) rfl rfl rfl (Go.IntWalk.i64_in _ (by omega))) ?_
        refine wl (ro_assign rfl) ?_
        refine wl_nil (x_then ?_)
        exact ⟨n.length - (i + 1), by omega, i + 1, rfl, by omega, hN3, h2, hF, kp _ ⟨rfl, rfl, rfl, trivial⟩⟩
      · try simp only [decide_eq_true_eq, decide_eq_false_iff_not, Bool.not_eq_true', Bool.not_eq_false', Bool.not_eq_eq_eq_not, Bool.not_true, Bool.not_false, beq_iff_eq, bne_iff_ne, ne_eq, beq_eq_false_iff_ne, bne_eq_false_iff_eq, gt_iff_lt, ge_iff_le, Int.not_lt, Int.not_le] at hc24
        refine c_skip (x_blk (x_then (hK5 _ _ ?_)))
        clear hK5 K5
        refine c_reg ?_ -- region 3 shift.go:133
        refine wl (ro_move rfl) ?_
        refine wl (ro_arith (r := ((i + 1 : Nat) : Int)) rfl rfl rfl (Go.IntWalk.i64_in _ (by omega))) ?_
        refine wl (ro_assign rfl) ?_
        refine wl_nil (x_then ?_)
        rw [if_neg (fun q => by rw [q.2] at hc24; cases hc24), if_neg (fun q => by have := q.1; omega)] at hgx'
        rw [mp_self hx hgx'.symm] at hN
        exact ⟨n.length - (i + 1), by omega, i + 1, rfl, by omega, hN, h2, hF, kp _ ⟨rfl, rfl, rfl, trivial⟩⟩
    · try simp only [decide_eq_true_eq, decide_eq_false_iff_not, Bool.not_eq_true', Bool.not_eq_false', Bool.not_eq_eq_eq_not, Bool.not_true, Bool.not_false, beq_iff_eq, bne_iff_ne, ne_eq, beq_eq_false_iff_ne, bne_eq_false_iff_eq, gt_iff_lt, ge_iff_le, Int.not_lt, Int.not_le] at hc19
      refine c_seq (fun K9 hK9 => ?_)
      refine c_reg ?_ -- region 8 shift.go:139
      refine wl (ro_move rfl) ?_
      refine wl (ro_nilCheck rfl) ?_
      refine wl (ro_fieldAddr (k := 0) rfl fo_143_0) ?_
      refine wl (ro_loadB rfl sc_3 (hN) ((rw_get ndc_len hx' (j := 0) (by omega) rfl))) ?_
      refine wl (ro_cmp rfl rfl rfl) ?_
      refine wl_nil (x_then (hK9 _ _ ?_))
      clear hK9 K9
      refine wc_cond rfl (fun hc32 => ?_) (fun hc32 => ?_)
      · try simp only [decide_eq_true_eq, decide_eq_false_iff_not, Bool.not_eq_true', Bool.not_eq_false', Bool.not_eq_eq_eq_not, Bool.not_true, Bool.not_false, beq_iff_eq, bne_iff_ne, ne_eq, beq_eq_false_iff_ne, bne_eq_false_iff_eq, gt_iff_lt, ge_iff_le, Int.not_lt, Int.not_le] at hc32
        refine c_seq (fun K10 hK10 => ?_)
        refine c_reg ?_ -- region 9 shift.go:140
        refine wl (ro_move rfl) ?_
        refine wl (ro_nilCheck rfl) ?_
        refine wl (ro_fieldAddr (k := 5) rfl fo_143_5) ?_
        refine wl (ro_loadAggB rfl ag_141 (hN) (rfl) ((rw_sub ndc_len hx' (j := 5) (m := 4) (by omega) (by omega)))) ?_
        refine wl_call rfl en_98 (InGrid98 (r := x.p)) ?_
        rintro _ u2 ⟨rfl, G2⟩
        replace hF := hF.transG G2 (by intro k hk h; simp only [none', one] at h ⊢ <;> omega)
        replace hN := G2.blkF hN (by intro h; simp only [none', one] at h <;> omega)
        replace h2 := G2.blkF h2 (by intro h; simp only [none', one] at h <;> omega)
        refine wl_nil (x_then (hK10 _ _ ?_))
        clear hK10 K10
        refine wc_cond rfl (fun hc37 => ?_) (fun hc37 => ?_)
        · try simp only [decide_eq_true_eq, decide_eq_false_iff_not, Bool.not_eq_true', Bool.not_eq_false', Bool.not_eq_eq_eq_not, Bool.not_true, Bool.not_false, beq_iff_eq, bne_iff_ne, ne_eq, beq_eq_false_iff_ne, bne_eq_false_iff_eq, gt_iff_lt, ge_iff_le, Int.not_lt, Int.not_le] at hc37
          refine c_seq (fun K11 hK11 => ?_)
          refine c_reg ?_ -- region 10 shift.go:141
          refine wl (ro_move rfl) ?_
          refine wl (ro_nilCheck rfl) ?_
          refine wl (ro_fieldAddr (k := 9) rfl fo_143_6) ?_
          refine wl (ro_loadAggB rfl ag_141 (hN) (rfl) ((rw_sub ndc_len hx' (j := 9) (m := 4) (by omega) (by omega)))) ?_
          refine wl_call rfl en_98 (InGrid98 (r := x.q)) ?_
          rintro _ u3 ⟨rfl, G3⟩
          replace hF := hF.transG G3 (by intro k hk h; simp only [none', one] at h ⊢ <;> omega)
          replace hN := G3.blkF hN (by intro h; simp only [none', one] at h <;> omega)
          replace h2 := G3.blkF h2 (by intro h; simp only [none', one] at h <;> omega)
          refine wl_nil (x_then (hK11 _ _ ?_))
          clear hK11 K11
          refine wc_cond rfl (fun hc42 => ?_) (fun hc42 => ?_)
          · try simp only [decide_eq_true_eq, decide_eq_false_iff_not, Bool.not_eq_true', Bool.not_eq_false', Bool.not_eq_eq_eq_not, Bool.not_true, Bool.not_false, beq_iff_eq, bne_iff_ne, ne_eq, beq_eq_false_iff_ne, bne_eq_false_iff_eq, gt_iff_lt, ge_iff_le, Int.not_lt, Int.not_le] at hc42
            refine c_reg ?_ -- region 11 shift.go:142
            refine wl (ro_loadAggB rfl ag_110 (h2) (rfl) (rfl)) ?_
            refine wl (ro_move rfl) ?_
            refine wl_call rfl en_100 (shiftRange100 (rows := rows) (ins := ins) (a := a) hN hx' hc37 hc42) ?_
            rintro _ u4 ⟨hN3, G4⟩
            replace hF := hF.transG G4 (by intro k hk h; simp only [none', one] at h ⊢ <;> omega)
            replace h2 := G4.blkF h2 (by intro h; simp only [none', one] at h <;> omega)
            rw [if_neg (fun q => hc19 q.1), if_pos ⟨hc32, hc37, hc42⟩] at hgx'
            rw [mp_set hx hgx'] at hN3
            refine wl_nil (x_blk (x_then (hK5 _ _ ?_)))
            clear hK5 K5
            refine c_reg ?_ -- region 3 shift.go:133
            refine wl (ro_move rfl) ?_
            refine wl (ro_arith (r := ((i + 1 : Nat) : Int)) rfl rfl rfl (Go.IntWalk.i64_in _ (by omega))) ?_
            refine wl (ro_assign rfl) ?_
            refine wl_nil (x_then ?_)
            exact ⟨n.length - (i + 1), by omega, i + 1, rfl, by omega, hN3, h2, hF, kp _ ⟨rfl, rfl, rfl, trivial⟩⟩
          · try simp only [decide_eq_true_eq, decide_eq_false_iff_not, Bool.not_eq_true', Bool.not_eq_false', Bool.not_eq_eq_eq_not, Bool.not_true, Bool.not_false, beq_iff_eq, bne_iff_ne, ne_eq, beq_eq_false_iff_ne, bne_eq_false_iff_eq, gt_iff_lt, ge_iff_le, Int.not_lt, Int.not_le] at hc42
            refine c_skip (x_blk (x_then (hK5 _ _ ?_)))
            clear hK5 K5
            refine c_reg ?_ -- region 3 shift.go:133
            refine wl (ro_move rfl) ?_
            refine wl (ro_arith (r := ((i + 1 : Nat) : Int)) rfl rfl rfl (Go.IntWalk.i64_in _ (by omega))) ?_
            refine wl (ro_assign rfl) ?_
            refine wl_nil (x_then ?_)
            rw [if_neg (fun q => hc19 q.1), if_neg (fun q => by rw [q.2.2] at hc42; cases hc42)] at hgx'
            rw [mp_self hx hgx'.symm] at hN
            exact ⟨n.length - (i + 1), by omega, i + 1, rfl, by omega, hN, h2, hF, kp _ ⟨rfl, rfl, rfl, trivial⟩⟩
        · try simp only [decide_eq_true_eq, decide_eq_false_iff_not, Bool.not_eq_true', Bool.not_eq_false', Bool.not_eq_eq_eq_not, Bool.not_true, Bool.not_false, beq_iff_eq, bne_iff_ne, ne_eq, beq_eq_false_iff_ne, bne_eq_false_iff_eq, gt_iff_lt, ge_iff_le, Int.not_lt, Int.not_le] at hc37
          refine c_skip (x_blk (x_then (hK5 _ _ ?_)))
          clear hK5 K5
          refine c_reg ?_ -- region 3 shift.go:133
          refine wl (ro_move rfl) ?_
          refine wl (ro_arith (r := ((i + 1 : Nat) : Int)) rfl rfl rfl (Go.IntWalk.i64_in _ (by omega))) ?_
          refine wl (ro_assign rfl) ?_
          refine wl_nil (x_then ?_)
          rw [if_neg (fun q => hc19 q.1), if_neg (fun q => by rw [q.2.1] at hc37; cases hc37)] at hgx'
          rw [mp_self hx hgx'.symm] at hN
          exact ⟨n.length - (i + 1), by omega, i + 1, rfl, by omega, hN, h2, hF, kp _ ⟨rfl, rfl, rfl, trivial⟩⟩
      · try simp only [decide_eq_true_eq, decide_eq_false_iff_not, Bool.not_eq_true', Bool.not_eq_false', Bool.not_eq_eq_eq_not, Bool.not_true, Bool.not_false, beq_iff_eq, bne_iff_ne, ne_eq, beq_eq_false_iff_ne, bne_eq_false_iff_eq, gt_iff_lt, ge_iff_le, Int.not_lt, Int.not_le] at hc32
        refine c_skip (x_blk (x_then (hK5 _ _ ?_)))
        clear hK5 K5
        refine c_reg ?_ -- region 3 shift.go:133
        refine wl (ro_move rfl) ?_
        refine wl (ro_arith (r := ((i + 1 : Nat) : Int)) rfl rfl rfl (Go.IntWalk.i64_in _ (by omega))) ?_
        refine wl (ro_assign rfl) ?_
        refine wl_nil (x_then ?_)
        rw [if_neg (fun q => hc19 q.1), if_neg (fun q => hc32 q.1)] at hgx'
        rw [mp_self hx hgx'.symm] at hN
        exact ⟨n.length - (i + 1), by omega, i + 1, rfl, by omega, hN, h2, hF, kp _ ⟨rfl, rfl, rfl, trivial⟩⟩
  · try simp only [decide_eq_true_eq, decide_eq_false_iff_not, Bool.not_eq_true', Bool.not_eq_false', Bool.not_eq_eq_eq_not, Bool.not_true, Bool.not_false, beq_iff_eq, bne_iff_ne, ne_eq, beq_eq_false_iff_ne, bne_eq_false_iff_eq, gt_iff_lt, ge_iff_le, Int.not_lt, Int.not_le] at hc9
    refine c_exit (x_thenX (x_thenX (x_blkX ?_)))
    refine bp_end Tryz.results73 rfl ?_
    have : i = n.length := by omega
    subst this
    rw [mp_all] at hN
    exact ⟨hN, hF⟩

end Go.Proofs.Qxb6500570aGreat
