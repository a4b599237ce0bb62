import Derived.Test.Qxb6500570aGreatJa
import Derived.Test.Qxb6500570aGreatPp
/- The real printer: operators, leaves, notes, the climb. -/
namespace Go.Proofs.Qxb6500570aGreat
set_option linter.unusedVariables false
set_option linter.unusedSimpArgs false

def opL : List UInt8 := [61, 32, 60, 62, 60, 32, 60, 61, 62, 32, 62, 61, 43, 32, 45, 32, 42, 32, 47, 32]
theorem op_l {o : Nat} (h1 : 1 ≤ o) (h2 : o ≤ 10) : ∃ a b, opL[2 * o - 2]? = some a ∧ opL[2 * o - 1]? = some b ∧ opT o = a :: (if b.toNat ≠ 32 then [b] else []) := by
  rcases (by omega : o = 1 ∨ o = 2 ∨ o = 3 ∨ o = 4 ∨ o = 5 ∨ o = 6 ∨ o = 7 ∨ o = 8 ∨ o = 9 ∨ o = 10) with rfl | rfl | rfl | rfl | rfl | rfl | rfl | rfl | rfl | rfl <;> exact ⟨_, _, rfl, rfl, rfl⟩
theorem putOp202 {w : World} {B : FB7} {k : Nat} {pos : Int} {hv dn : Bool} {er bd : Int} {T : List UInt8} {o : Nat} (hne : B.f ≠ B.u) (h : PBV w B k pos hv dn er bd T) (h1 : 1 ≤ o) (h2 : o ≤ 10) (hT : (opT o ++ T).length ≤ 288) :
    Ret Tryz.prog 202 [ptr B.f, i64c o] w (fun _ w' => PBV w' B k pos hv dn er bd (opT o ++ T) ∧ Fram (pset B) w w') := by
  have hF : Fram (pset B) w w := Fram.refl _ _
  obtain ⟨a, b, ha, hb, he⟩ := op_l h1 h2
  rw [he] at hT ⊢
  refine ret_of Tryz.func202 rfl Tryz.ntmps202 rfl ?_
  refine c_mid (fun a' w' => PBV w' B k pos hv dn er bd ((if b.toNat ≠ 32 then [b] else []) ++ T) ∧ Fram (pset B) w w' ∧ ∃ e, a' = Fr 21 (upds e [(0, ptr B.f), (1, i64c o)]) []) ?_ ?_
  · skip
    refine c_seq (fun K1 hK1 => ?_)
    refine c_reg ?_ -- region 0 fill.go:49
    refine wl (ro_move rfl) ?_
    refine wl (ro_arith (r := ((2 * o : Nat) : Int)) rfl rfl (congrArg some (by omega)) (Go.IntWalk.i64_in _ (by omega))) ?_
    refine wl (ro_arith (r := ((2 * o - 1 : Nat) : Int)) rfl rfl (congrArg some (by omega)) (Go.IntWalk.i64_in _ (by omega))) ?_
    refine wl (ro_indexS rfl rfl st_9 rfl (hb)) ?_
    refine wl (ro_cmp (r := decide (b.toNat ≠ 32)) rfl rfl (congrArg some (bnec b.toNat 32))) ?_
    refine wl_nil (x_then (hK1 _ _ ?_))
    clear hK1 K1
    refine wc_cond rfl (fun hc8 => ?_) (fun hc8 => ?_)
    · try simp only [decide_eq_true_eq, decide_eq_false_iff_not, Bool.not_eq_true', Bool.not_eq_false', Bool.not_eq_eq_eq_not, Bool.not_true, Bool.not_false, beq_iff_eq, bne_iff_ne, ne_eq, beq_eq_false_iff_ne, bne_eq_false_iff_eq, gt_iff_lt, ge_iff_le, Int.not_lt, Int.not_le] at hc8
      refine c_reg ?_ -- region 1 fill.go:50
      refine wl (ro_move rfl) ?_
      refine wl (ro_move rfl) ?_
      refine wl (ro_arith (r := ((2 * o : Nat) : Int)) rfl rfl (congrArg some (by omega)) (Go.IntWalk.i64_in _ (by omega))) ?_
      refine wl (ro_arith (r := ((2 * o - 1 : Nat) : Int)) rfl rfl (congrArg some (by omega)) (Go.IntWalk.i64_in _ (by omega))) ?_
      refine wl (ro_indexS rfl rfl st_9 rfl (hb)) ?_
      refine wl_call rfl en_169 (put169 (c := b) hne h (by rw [if_pos hc8] at hT; simp only [List.length_append, List.length_cons] at hT; omega)) ?_
      rintro _ u3 ⟨h3, G3⟩
      replace hF := hF.transG G3 (by intro k hk h; simp only [pset] at h ⊢ <;> omega)
      refine wl_nil (x_then ?_)
      first
        | exact ⟨by rw [if_pos hc8]; exact h3, hF, kp _ ⟨rfl, rfl, trivial⟩⟩
        | exact ⟨by rw [if_neg (by simpa using hc8)]; exact h, hF, kp _ ⟨rfl, rfl, trivial⟩⟩
    · try simp only [decide_eq_true_eq, decide_eq_false_iff_not, Bool.not_eq_true', Bool.not_eq_false', Bool.not_eq_eq_eq_not, Bool.not_true, Bool.not_false, beq_iff_eq, bne_iff_ne, ne_eq, beq_eq_false_iff_ne, bne_eq_false_iff_eq, gt_iff_lt, ge_iff_le, Int.not_lt, Int.not_le] at hc8
      refine c_skip (x_then ?_)
      first
        | exact ⟨by rw [if_pos hc8]; exact h3, hF, kp _ ⟨rfl, rfl, trivial⟩⟩
        | exact ⟨by rw [if_neg (by simpa using hc8)]; exact h, hF, kp _ ⟨rfl, rfl, trivial⟩⟩
  clear hF h
  rintro a' u1 ⟨h, hF, e, rfl⟩
  refine c_reg ?_ -- region 2 fill.go:52
  refine wl (ro_move rfl) ?_
  refine wl (ro_move rfl) ?_
  refine wl (ro_arith (r := ((2 * o : Nat) : Int)) rfl rfl (congrArg some (by omega)) (Go.IntWalk.i64_in _ (by omega))) ?_
  refine wl (ro_arith (r := ((2 * o - 2 : Nat) : Int)) rfl rfl (congrArg some (by omega)) (Go.IntWalk.i64_in _ (by omega))) ?_
  refine wl (ro_indexS rfl rfl st_9 rfl (ha)) ?_
  refine wl_call rfl en_169 (put169 (c := a) hne h (by simp only [List.length_append, List.length_cons] at hT ⊢; omega)) ?_
  rintro _ u4 ⟨h4, G4⟩
  replace hF := hF.transG G4 (by intro k hk h; simp only [pset] at h ⊢ <;> omega)
  refine wl_nil ?_
  refine bp_end Tryz.results202 rfl ?_
  exact ⟨h4, hF⟩
set_option maxHeartbeats 2000000 in
theorem leaf171 {w : World} {B : FB7} {k : Nat} {pos : Int} {hv dn : Bool} {er bd : Int} {T : List UInt8} {x : Nd} (hne : B.f ≠ B.u) (h : PBV w B k pos hv dn er bd T) (hx : RfOK x.p ∧ RfOK x.q) (h1 : x.k = 1 → 0 ≤ x.n ∧ x.n ≤ 999999999) (hT : (lfT x ++ T).length ≤ 288) :
    Ret Tryz.prog 171 [ptr B.f, ndV x] w (fun _ w' => PBV w' B k pos hv dn er bd (lfT x ++ T) ∧ Fram (pset B) w w') := by
  have hF : Fram (pset B) w w := Fram.refl _ _
  obtain ⟨hl1, hl2⟩ := h.lt
  refine ret_of Tryz.func171 rfl Tryz.ntmps171 rfl ?_
  refine c_seq (fun K1 hK1 => ?_)
  refine c_reg ?_ -- region 0 fill.go:56
  refine wl_box (cs := (ndc x)) rfl rfl (fun b3 w1 hbb3 h3 F1 => ?_)
  have hbsb3 := Nat.le_trans hF.size hbb3
  replace hF := hF.thenDrew.thenN F1
  replace h := h.far F1 (fun h ↦ h) (fun h ↦ h)
  refine wl_nil (x_then (hK1 _ _ ?_))
  clear hK1 K1
  refine forget [(0, _), (3, _)] ⟨rfl, rfl, trivial⟩ (fun e => ?_)
  refine c_seq (fun K2 hK2 => ?_)
  refine c_reg ?_ -- region 1 fill.go:57
  refine wl (ro_fieldAddr (k := 0) rfl fo_143_0) ?_
  refine wl (ro_loadB rfl sc_3 (by assumption) rfl) ?_
  refine wl_nil (x_then (hK2 _ _ ?_))
  clear hK2 K2
  refine c_block ?_
  refine forget [(0, _), (3, _), (5, _)] ⟨rfl, rfl, rfl, trivial⟩ (fun e => ?_)
  refine c_seq (fun K3 hK3 => ?_)
  refine c_reg ?_ -- region 3 fill.go:58
  refine wl (ro_cmp rfl rfl rfl) ?_
  refine wl (ro_assign rfl) ?_
  refine wl_nil (x_then (hK3 _ _ ?_))
  clear hK3 K3
  refine wc_cond rfl (fun hc8 => ?_) (fun hc8 => ?_)
  · try simp only [decide_eq_true_eq, decide_eq_false_iff_not, Bool.not_eq_true', Bool.not_eq_false', Bool.not_eq_eq_eq_not, Bool.not_true, Bool.not_false, beq_iff_eq, bne_iff_ne, ne_eq, beq_eq_false_iff_ne, bne_eq_false_iff_eq, gt_iff_lt, ge_iff_le, Int.not_lt, Int.not_le] at hc8
    have el : lfT x = dgT x.n.toNat := by unfold lfT; rw [if_pos hc8]
    rw [el] at hT ⊢
    obtain ⟨k1, k2⟩ := h1 hc8
    refine c_reg ?_ -- region 4 fill.go:59
    refine wl (ro_move rfl) ?_
    refine wl (ro_fieldAddr (k := 4) rfl fo_143_4) ?_
    refine wl (ro_loadB rfl sc_3 (h3) ((show _ = some (i64c x.n.toNat) from congrArg some (congrArg icv (by omega))))) ?_
    refine wl_call rfl en_199 (putNum199 hne h (by omega) hT) ?_
    rintro _ u1 ⟨h5, G1⟩
    replace hF := hF.transG G1 (by intro k hk h; simp only [pset, none'] at h ⊢ <;> omega)
    replace h3 := G1.blkF h3 (by intro h; simp only [pset, none'] at h <;> omega)
    refine wl_nil (x_blk ?_)
    refine bp_end Tryz.results171 rfl ?_
    exact ⟨h5, hF⟩
  · try simp only [decide_eq_true_eq, decide_eq_false_iff_not, Bool.not_eq_true', Bool.not_eq_false', Bool.not_eq_eq_eq_not, Bool.not_true, Bool.not_false, beq_iff_eq, bne_iff_ne, ne_eq, beq_eq_false_iff_ne, bne_eq_false_iff_eq, gt_iff_lt, ge_iff_le, Int.not_lt, Int.not_le] at hc8
    refine c_seq (fun K4 hK4 => ?_)
    refine c_reg ?_ -- region 5 fill.go:60
    refine wl (ro_cmp rfl rfl rfl) ?_
    refine wl (ro_assign rfl) ?_
    refine wl_nil (x_then (hK4 _ _ ?_))
    clear hK4 K4
    refine wc_cond rfl (fun hc14 => ?_) (fun hc14 => ?_)
    · try simp only [decide_eq_true_eq, decide_eq_false_iff_not, Bool.not_eq_true', Bool.not_eq_false', Bool.not_eq_eq_eq_not, Bool.not_true, Bool.not_false, beq_iff_eq, bne_iff_ne, ne_eq, beq_eq_false_iff_ne, bne_eq_false_iff_eq, gt_iff_lt, ge_iff_le, Int.not_lt, Int.not_le] at hc14
      have el : lfT x = if x.n = 1 then wTRUE else wFALSE := by unfold lfT; rw [if_neg (by omega), if_pos (by omega)]
      rw [el] at hT ⊢
      refine c_seq (fun K5 hK5 => ?_)
      refine c_reg ?_ -- region 6 fill.go:61
      refine wl (ro_fieldAddr (k := 4) rfl fo_143_4) ?_
      refine wl (ro_loadB rfl sc_3 (by assumption) rfl) ?_
      refine wl (ro_cmp rfl rfl rfl) ?_
      refine wl_nil (x_then (hK5 _ _ ?_))
      clear hK5 K5
      refine wc_cond rfl (fun hc18 => ?_) (fun hc18 => ?_)
      · try simp only [decide_eq_true_eq, decide_eq_false_iff_not, Bool.not_eq_true', Bool.not_eq_false', Bool.not_eq_eq_eq_not, Bool.not_true, Bool.not_false, beq_iff_eq, bne_iff_ne, ne_eq, beq_eq_false_iff_ne, bne_eq_false_iff_eq, gt_iff_lt, ge_iff_le, Int.not_lt, Int.not_le] at hc18
        rw [if_pos hc18] at hT ⊢
        refine c_reg ?_ -- region 7 fill.go:62
        refine wl (ro_move rfl) ?_
        refine wl_call rfl en_200 (puts200 (s := wTRUE) hne h hT) ?_
        rintro _ u1 ⟨h5, G1⟩
        replace hF := hF.transG G1 (by intro k hk h; simp only [pset, none'] at h ⊢ <;> omega)
        replace h3 := G1.blkF h3 (by intro h; simp only [pset, none'] at h <;> omega)
        refine wl_nil (x_blk ?_)
        refine bp_end Tryz.results171 rfl ?_
        exact ⟨h5, hF⟩
      · try simp only [decide_eq_true_eq, decide_eq_false_iff_not, Bool.not_eq_true', Bool.not_eq_false', Bool.not_eq_eq_eq_not, Bool.not_true, Bool.not_false, beq_iff_eq, bne_iff_ne, ne_eq, beq_eq_false_iff_ne, bne_eq_false_iff_eq, gt_iff_lt, ge_iff_le, Int.not_lt, Int.not_le] at hc18
        rw [if_neg hc18] at hT ⊢
        refine c_reg ?_ -- region 8 fill.go:64
        refine wl (ro_move rfl) ?_
        refine wl_call rfl en_200 (puts200 (s := wFALSE) hne h hT) ?_
        rintro _ u1 ⟨h5, G1⟩
        replace hF := hF.transG G1 (by intro k hk h; simp only [pset, none'] at h ⊢ <;> omega)
        replace h3 := G1.blkF h3 (by intro h; simp only [pset, none'] at h <;> omega)
        refine wl_nil (x_blk ?_)
        refine bp_end Tryz.results171 rfl ?_
        exact ⟨h5, hF⟩
    · try simp only [decide_eq_true_eq, decide_eq_false_iff_not, Bool.not_eq_true', Bool.not_eq_false', Bool.not_eq_eq_eq_not, Bool.not_true, Bool.not_false, beq_iff_eq, bne_iff_ne, ne_eq, beq_eq_false_iff_ne, bne_eq_false_iff_eq, gt_iff_lt, ge_iff_le, Int.not_lt, Int.not_le] at hc14
      refine c_seq (fun K6 hK6 => ?_)
      refine c_reg ?_ -- region 9 fill.go:66
      refine wl (ro_cmp rfl rfl rfl) ?_
      refine wl (ro_assign rfl) ?_
      refine wl_nil (x_then (hK6 _ _ ?_))
      clear hK6 K6
      refine wc_cond rfl (fun hc23 => ?_) (fun hc23 => ?_)
      · try simp only [decide_eq_true_eq, decide_eq_false_iff_not, Bool.not_eq_true', Bool.not_eq_false', Bool.not_eq_eq_eq_not, Bool.not_true, Bool.not_false, beq_iff_eq, bne_iff_ne, ne_eq, beq_eq_false_iff_ne, bne_eq_false_iff_eq, gt_iff_lt, ge_iff_le, Int.not_lt, Int.not_le] at hc23
        have el : lfT x = refT x.p := by unfold lfT; rw [if_neg (by omega), if_neg (by omega), if_pos (by omega)]
        rw [el] at hT ⊢
        refine c_reg ?_ -- region 10 fill.go:67
        refine wl (ro_move rfl) ?_
        refine wl (ro_fieldAddr (k := 5) rfl fo_143_5) ?_
        refine wl (ro_loadAggB rfl ag_141 (h3) (rfl) (rfl)) ?_
        refine wl_call rfl en_201 (putRef201 hne h hx.1 hT) ?_
        rintro _ u1 ⟨h5, G1⟩
        replace hF := hF.transG G1 (by intro k hk h; simp only [pset, none'] at h ⊢ <;> omega)
        replace h3 := G1.blkF h3 (by intro h; simp only [pset, none'] at h <;> omega)
        refine wl_nil (x_blk ?_)
        refine bp_end Tryz.results171 rfl ?_
        exact ⟨h5, hF⟩
      · try simp only [decide_eq_true_eq, decide_eq_false_iff_not, Bool.not_eq_true', Bool.not_eq_false', Bool.not_eq_eq_eq_not, Bool.not_true, Bool.not_false, beq_iff_eq, bne_iff_ne, ne_eq, beq_eq_false_iff_ne, bne_eq_false_iff_eq, gt_iff_lt, ge_iff_le, Int.not_lt, Int.not_le] at hc23
        refine c_seq (fun K7 hK7 => ?_)
        refine c_reg ?_ -- region 11 fill.go:68
        refine wl (ro_cmp rfl rfl rfl) ?_
        refine wl (ro_assign rfl) ?_
        refine wl_nil (x_then (hK7 _ _ ?_))
        clear hK7 K7
        refine wc_cond rfl (fun hc29 => ?_) (fun hc29 => ?_)
        · try simp only [decide_eq_true_eq, decide_eq_false_iff_not, Bool.not_eq_true', Bool.not_eq_false', Bool.not_eq_eq_eq_not, Bool.not_true, Bool.not_false, beq_iff_eq, bne_iff_ne, ne_eq, beq_eq_false_iff_ne, bne_eq_false_iff_eq, gt_iff_lt, ge_iff_le, Int.not_lt, Int.not_le] at hc29
          have el : lfT x = refT x.p ++ 58 :: refT x.q := by unfold lfT; rw [if_neg (by omega), if_neg (by omega), if_neg (by omega), if_pos (by omega)]
          rw [el, List.append_assoc, List.cons_append] at hT ⊢
          have hT2 := hT
          simp only [List.length_append, List.length_cons] at hT2
          refine c_seq (fun K8 hK8 => ?_)
          refine c_reg ?_ -- region 12 fill.go:69
          refine wl (ro_move rfl) ?_
          refine wl (ro_fieldAddr (k := 9) rfl fo_143_6) ?_
          refine wl (ro_loadAggB rfl ag_141 (h3) (rfl) (rfl)) ?_
          refine wl_call rfl en_201 (putRef201 hne h hx.2 (by rw [List.length_append]; omega)) ?_
          rintro _ u1 ⟨h5, G1⟩
          replace hF := hF.transG G1 (by intro k hk h; simp only [pset, none'] at h ⊢ <;> omega)
          replace h3 := G1.blkF h3 (by intro h; simp only [pset, none'] at h <;> omega)
          refine wl_nil (x_then (hK8 _ _ ?_))
          clear hK8 K8
          refine forget [(0, _), (3, _)] ⟨rfl, rfl, trivial⟩ (fun e => ?_)
          refine c_seq (fun K9 hK9 => ?_)
          refine c_reg ?_ -- region 13 fill.go:70
          refine wl (ro_move rfl) ?_
          refine wl_call rfl en_169 (put169 (c := 58) hne h5 (by rw [List.length_append]; omega)) ?_
          rintro _ u2 ⟨h6, G2⟩
          replace hF := hF.transG G2 (by intro k hk h; simp only [pset, none'] at h ⊢ <;> omega)
          replace h3 := G2.blkF h3 (by intro h; simp only [pset, none'] at h <;> omega)
          refine wl_nil (x_then (hK9 _ _ ?_))
          clear hK9 K9
          refine c_reg ?_ -- region 14 fill.go:71
          refine wl (ro_move rfl) ?_
          refine wl (ro_fieldAddr (k := 5) rfl fo_143_5) ?_
          refine wl (ro_loadAggB rfl ag_141 (h3) (rfl) (rfl)) ?_
          refine wl_call rfl en_201 (putRef201 hne h6 hx.1 hT) ?_
          rintro _ u3 ⟨h7, G3⟩
          replace hF := hF.transG G3 (by intro k hk h; simp only [pset, none'] at h ⊢ <;> omega)
          replace h3 := G3.blkF h3 (by intro h; simp only [pset, none'] at h <;> omega)
          refine wl_nil (x_blk ?_)
          refine bp_end Tryz.results171 rfl ?_
          exact ⟨h7, hF⟩
        · try simp only [decide_eq_true_eq, decide_eq_false_iff_not, Bool.not_eq_true', Bool.not_eq_false', Bool.not_eq_eq_eq_not, Bool.not_true, Bool.not_false, beq_iff_eq, bne_iff_ne, ne_eq, beq_eq_false_iff_ne, bne_eq_false_iff_eq, gt_iff_lt, ge_iff_le, Int.not_lt, Int.not_le] at hc29
          have el : lfT x = [35, 35] := by unfold lfT; rw [if_neg (by omega), if_neg (by omega), if_neg (by omega), if_neg (by omega)]
          rw [el] at hT ⊢
          refine c_reg ?_ -- region 2 fill.go:73
          refine wl (ro_move rfl) ?_
          refine wl_call rfl en_200 (puts200 (s := [35, 35]) hne h hT) ?_
          rintro _ u1 ⟨h5, G1⟩
          replace hF := hF.transG G1 (by intro k hk h; simp only [pset, none'] at h ⊢ <;> omega)
          replace h3 := G1.blkF h3 (by intro h; simp only [pset, none'] at h <;> omega)
          refine wl_nil (x_blk ?_)
          refine bp_end Tryz.results171 rfl ?_
          exact ⟨h5, hF⟩

/-! ### notes -/
abbrev ntc (p : Int) (b : Bool) : List Value := [icv p, .bool b]
theorem ntc_cells (p : Int) (b : Bool) : ∀ u ∈ ntc p b, u.oneCell' = true := by
  intro u hu
  simp only [ntc, List.mem_cons, List.not_mem_nil, or_false] at hu
  rcases hu with rfl | rfl <;> rfl
def Mt (n : List Nd) (fn : Nat → Value) (N : Nts) (j : Nat) : Prop := fn (2 * j) = icv (N j).1 ∧ fn (2 * j + 1) = .bool (N j).2 ∧ ((N j).1 = -1 ∨ ((j : Int) < (N j).1 ∧ (N j).1 < n.length ∧ 6 ≤ (ndA n (N j).1).k))
set_option maxHeartbeats 2000000 in
theorem kid170 {w : World} {B : FB7} {k : Nat} {pos : Int} {hv dn : Bool} {er bd wi : Int} {n : List Nd} {nb c p need : Nat} {fn : Nat → Value} (hD : DoneOK n) (hne : B.f ≠ B.n) (hnb : nb ≠ B.n) (hB : Blk w.heap B.f (fml B 0 k pos 0 0 0 hv dn er bd wi) 83) (hN : Blk w.heap nb (rws ndc n) 143) (hO : FB w.heap B.n 48 fn 201) (hc : c < n.length) :
    Ret Tryz.prog 170 [ptr B.f, sl nb n.length, i64c c, i64c p, i64c need] w (fun _ w' => FB w'.heap B.n 48 (pts fn (c * 2) (ntc p (decide (lvl (ndA n c) < need)))) 201 ∧ Fram (one B.n) w w') := by
  have hF : Fram (one B.n) w w := Fram.refl _ _
  have hm1 : one B.n B.n := rfl
  obtain ⟨x, hx, hloc⟩ := loc_all hD hc
  have hxi := ndA_get hx
  have hn24 := hD.2.1
  rw [hxi]
  have h7 : x.k = 7 → x.o = ((x.o.toNat : Nat) : Int) := fun q => by
    obtain ⟨o, ho, -⟩ := hloc.2.2.2.2.2.1 q
    omega
  refine ret_of Tryz.func170 rfl Tryz.ntmps170 rfl ?_
  refine c_seq (fun K1 hK1 => ?_)
  refine c_reg ?_ -- region 0 fill.go:79
  refine wl (ro_assign rfl) ?_
  refine wl_nil (x_then (hK1 _ _ ?_))
  clear hK1 K1
  refine c_mid (fun a' w' => w = w' ∧ ∃ e, a' = Fr 40 (upds e [(0, ptr B.f), (2, i64c c), (3, i64c p), (4, i64c need), (10, i64c (lvl x))]) []) ?_ ?_
  · skip
    refine c_seq (fun K2 hK2 => ?_)
    refine c_reg ?_ -- region 1 fill.go:80
    refine wl (ro_move rfl) ?_
    refine wl (ro_move rfl) ?_
    refine wl (ro_indexAddr (et := 143) (k := 13) rfl rfl se_78 rfl (by omega)) ?_
    refine wl (ro_fieldAddr (k := 0) rfl fo_143_0) ?_
    refine wl (ro_loadB rfl sc_3 (hN) ((rw_get ndc_len hx (j := 0) (by omega) rfl))) ?_
    refine wl (ro_cmp rfl rfl rfl) ?_
    refine wl_nil (x_then (hK2 _ _ ?_))
    clear hK2 K2
    refine wc_cond rfl (fun hc16 => ?_) (fun hc16 => ?_)
    · try simp only [decide_eq_true_eq, decide_eq_false_iff_not, Bool.not_eq_true', Bool.not_eq_false', Bool.not_eq_eq_eq_not, Bool.not_true, Bool.not_false, beq_iff_eq, bne_iff_ne, ne_eq, beq_eq_false_iff_ne, bne_eq_false_iff_eq, gt_iff_lt, ge_iff_le, Int.not_lt, Int.not_le] at hc16
      refine c_reg ?_ -- region 2 fill.go:81
      refine wl (ro_assign rfl) ?_
      refine wl_nil (x_then ?_)
      first
        | exact ⟨rfl, kp _ ⟨rfl, rfl, rfl, rfl, by unfold lvl; rw [if_pos hc16]; rfl, trivial⟩⟩
        | exact ⟨rfl, kp _ ⟨rfl, rfl, rfl, rfl, by unfold lvl; rw [if_neg hc16, if_pos hc22]; rfl, trivial⟩⟩
        | exact ⟨rfl, kp _ ⟨rfl, rfl, rfl, rfl, by unfold lvl; rw [if_neg hc16, if_neg hc22]; rfl, trivial⟩⟩
    · try simp only [decide_eq_true_eq, decide_eq_false_iff_not, Bool.not_eq_true', Bool.not_eq_false', Bool.not_eq_eq_eq_not, Bool.not_true, Bool.not_false, beq_iff_eq, bne_iff_ne, ne_eq, beq_eq_false_iff_ne, bne_eq_false_iff_eq, gt_iff_lt, ge_iff_le, Int.not_lt, Int.not_le] at hc16
      refine c_seq (fun K3 hK3 => ?_)
      refine c_reg ?_ -- region 3 fill.go:82
      refine wl (ro_move rfl) ?_
      refine wl (ro_move rfl) ?_
      refine wl (ro_indexAddr (et := 143) (k := 13) rfl rfl se_78 rfl (by omega)) ?_
      refine wl (ro_fieldAddr (k := 0) rfl fo_143_0) ?_
      refine wl (ro_loadB rfl sc_3 (hN) ((rw_get ndc_len hx (j := 0) (by omega) rfl))) ?_
      refine wl (ro_cmp rfl rfl rfl) ?_
      refine wl_nil (x_then (hK3 _ _ ?_))
      clear hK3 K3
      refine wc_cond rfl (fun hc22 => ?_) (fun hc22 => ?_)
      · try simp only [decide_eq_true_eq, decide_eq_false_iff_not, Bool.not_eq_true', Bool.not_eq_false', Bool.not_eq_eq_eq_not, Bool.not_true, Bool.not_false, beq_iff_eq, bne_iff_ne, ne_eq, beq_eq_false_iff_ne, bne_eq_false_iff_eq, gt_iff_lt, ge_iff_le, Int.not_lt, Int.not_le] at hc22
        refine c_reg ?_ -- region 4 fill.go:83
        refine wl (ro_move rfl) ?_
        refine wl (ro_move rfl) ?_
        refine wl (ro_indexAddr (et := 143) (k := 13) rfl rfl se_78 rfl (by omega)) ?_
        refine wl (ro_fieldAddr (k := 1) rfl fo_143_1) ?_
        refine wl (ro_loadB rfl sc_3 (hN) ((rw_get ndc_len hx (j := 1) (by omega) (show _ = some (i64c x.o.toNat) from congrArg some (congrArg icv (h7 hc22)))))) ?_
        refine wl_call rfl en_156 (strength156) ?_
        rintro _ _ ⟨rfl, rfl⟩
        refine wl (ro_assign rfl) ?_
        refine wl_nil (x_then ?_)
        first
          | exact ⟨rfl, kp _ ⟨rfl, rfl, rfl, rfl, by unfold lvl; rw [if_pos hc16]; rfl, trivial⟩⟩
          | exact ⟨rfl, kp _ ⟨rfl, rfl, rfl, rfl, by unfold lvl; rw [if_neg hc16, if_pos hc22]; rfl, trivial⟩⟩
          | exact ⟨rfl, kp _ ⟨rfl, rfl, rfl, rfl, by unfold lvl; rw [if_neg hc16, if_neg hc22]; rfl, trivial⟩⟩
      · try simp only [decide_eq_true_eq, decide_eq_false_iff_not, Bool.not_eq_true', Bool.not_eq_false', Bool.not_eq_eq_eq_not, Bool.not_true, Bool.not_false, beq_iff_eq, bne_iff_ne, ne_eq, beq_eq_false_iff_ne, bne_eq_false_iff_eq, gt_iff_lt, ge_iff_le, Int.not_lt, Int.not_le] at hc22
        refine c_skip (x_then ?_)
        first
          | exact ⟨rfl, kp _ ⟨rfl, rfl, rfl, rfl, by unfold lvl; rw [if_pos hc16]; rfl, trivial⟩⟩
          | exact ⟨rfl, kp _ ⟨rfl, rfl, rfl, rfl, by unfold lvl; rw [if_neg hc16, if_pos hc22]; rfl, trivial⟩⟩
          | exact ⟨rfl, kp _ ⟨rfl, rfl, rfl, rfl, by unfold lvl; rw [if_neg hc16, if_neg hc22]; rfl, trivial⟩⟩
  rintro a' _ ⟨rfl, e, rfl⟩
  refine c_reg ?_ -- region 5 fill.go:85
  refine wl (ro_move rfl) ?_
  refine wl (ro_nilCheck rfl) ?_
  refine wl (ro_fieldAddr (k := 14) rfl fo_83_14) ?_
  refine wl (ro_loadB rfl sc_81 (by assumption) rfl) ?_
  refine wl (ro_move rfl) ?_
  refine wl (ro_move rfl) ?_
  refine wl (ro_move rfl) ?_
  refine wl (ro_move rfl) ?_
  refine wl (ro_cmp (r := decide (lvl x < need)) rfl rfl (congrArg some (decide_eq_decide.2 (by omega)))) ?_
  refine wl (ro_build rfl bld_201_0_1) ?_
  refine wl (ro_indexAddr (et := 201) (k := 2) rfl rfl se_81 rfl (by omega)) ?_
  refine wl_puta rfl rfl ((ntc_cells p (decide (lvl x < need)))) sz_201 (rfl) hO ((by rw [cel_len]; show _ + 2 ≤ _; omega)) ((cel_puts (c * 2) (by omega) rfl (by show _ + 2 ≤ _; omega))) (fun w1 hO F1 => ?_)
  replace hF := hF.thenDrew.thenO F1 (by first | exact .inr (by omega) | exact .inl rfl | exact .inl (by assumption))
  replace hB := F1.blkO hB (by omega)
  replace hN := F1.blkO hN (by omega)
  refine wl_nil ?_
  refine bp_end Tryz.results170 rfl ?_
  exact ⟨hO, hF⟩

end Go.Proofs.Qxb6500570aGreat
