import Derived.Test.Qxb6500570aGreatMa
/- The real book: reading ahead, laying a record, noting, forgetting. -/
namespace Go.Proofs.Qxb6500570aGreat
set_option linter.unusedVariables false
set_option linter.unusedSimpArgs false

set_option maxHeartbeats 4000000 in
theorem ahead42 {w : World} {X : BB} {lo hi b u r : Nat} {W U T : List Tx} {SL : List Vl} (hb : BaB lo hi X) (hK : Blk w.heap X.k (bst X b u r) 60) (hW : Blk w.heap X.s (rws stc W) 9) (hwl : W.length = 24) (h : DaV w X.D U T SL) :
    Ret Tryz.prog 42 [ptr X.k] w (fun v w' => Blk w'.heap X.s (rws stc T) 9 ∧ Fram (one X.s) w w') := by
  have hF : Fram (one X.s) w w := Fram.refl _ _
  have hm1 : one X.s X.s := rfl
  obtain ⟨hdb, b1, b2, b3, b4, b5, b6⟩ := hb
  have htl := h.cv.tl
  refine ret_of Tryz.func42 rfl Tryz.ntmps42 rfl ?_
  refine c_seq (fun K1 hK1 => ?_)
  refine c_reg ?_ -- region 0 ring.go:15
  refine wl (ro_assign rfl) ?_
  refine wl_nil (x_then (hK1 _ _ ?_))
  clear hK1 K1
  refine c_block ?_
  -- loop@r1: live slots [0, 2]
  refine c_loopG (fun m a' w' => ∃ i, m = 24 - i ∧ i ≤ 24 ∧ Blk w'.heap X.k (bst X b u r) 60 ∧ Blk w'.heap X.s (rws stc (mixT T W i)) 9 ∧ DaV w' X.D U T SL ∧ Fram (one X.s) w w' ∧ ∃ e, a' = Fr 19 (upds e [(0, ptr X.k), (2, i64c i)]) []) 24 ⟨0, rfl, by omega, hK, by rw [mix_zero]; exact hW, h, hF, kp _ ⟨rfl, rfl, trivial⟩⟩ ?_
  clear hF hK hW h
  rintro m a' u1 ⟨i, rfl, hi, hK, hW, h, hF, e, rfl⟩
  have hml := mix_len (i := i) htl hwl
  refine c_seq (fun K2 hK2 => ?_)
  refine c_seq (fun K3 hK3 => ?_)
  refine c_reg ?_ -- region 1 ring.go:15
  refine wl (ro_move rfl) ?_
  refine wl (ro_cmp (r := decide (i < 24)) rfl rfl (congrArg some (decide_eq_decide.2 (by omega)))) ?_
  refine wl_nil (x_then (hK3 _ _ ?_))
  clear hK3 K3
  refine wc_cond rfl (fun hc4 => ?_) (fun hc4 => ?_)
  · try simp only [decide_eq_true_eq, decide_eq_false_iff_not, Bool.not_eq_true', Bool.not_eq_false', Bool.not_eq_eq_eq_not, Bool.not_true, Bool.not_false, beq_iff_eq, bne_iff_ne, ne_eq, beq_eq_false_iff_ne, bne_eq_false_iff_eq, gt_iff_lt, ge_iff_le, Int.not_lt, Int.not_le] at hc4
    refine c_skip (x_then (hK2 _ _ ?_))
    clear hK2 K2
    refine forget [(0, _), (2, _)] ⟨rfl, rfl, trivial⟩ (fun e => ?_)
    refine c_seq (fun K4 hK4 => ?_)
    refine c_block ?_
    refine c_piL 12 [(0, false), (1, false), (2, false), (3, false), (4, false), (5, false), (6, false), (7, false), (8, false), (9, false), (10, true), (11, false)] (fun w' => Blk w'.heap X.k (bst X b u r) 60) mixed (by kernel_rfl) rfl (by kernel_rfl) (po_blk (po_then (po_then (po_blk (po_bp))))) (hK) ?_ -- region 3 ring.go:16
    refine ql_ro rfl (fun w hS => ro_move rfl) ?_
    refine ql_ro rfl (fun w hS => ro_nilCheck rfl) ?_
    refine ql_ro rfl (fun w hS => ro_fieldAddr (k := 6) rfl fo_60_6) ?_
    refine ql_ro rfl (fun w hS => ro_loadB rfl sc_56 (hS) (rfl)) ?_
    refine ql_ro rfl (fun w hS => ro_move rfl) ?_
    refine ql_ro rfl (fun w hS => ro_move rfl) ?_
    refine ql_ro rfl (fun w hS => ro_nilCheck rfl) ?_
    refine ql_ro rfl (fun w hS => ro_fieldAddr (k := 0) rfl fo_60_0) ?_
    refine ql_ro rfl (fun w hS => ro_loadB rfl sc_46 (hS) (rfl)) ?_
    refine ql_ro rfl (fun w hS => ro_move rfl) ?_
    refine ql_call rfl rfl en_32 (Raw32 (h.far hdb (Fram.drew none' u1 _) (fun _ _ _ q ↦ q))) ?_
    rintro _ _ ⟨rfl, rfl⟩
    replace h : DaV { u1 with drawn := u1.drawn + 1 } X.D U T SL := h.far hdb (Fram.drew none' u1 _) (fun _ _ _ q => q)
    rw [getS_nat hc4]
    refine ⟨hK, ?_⟩
    refine ql_ro rfl (fun w hS => ro_indexAddr (et := 9) (k := 1) rfl rfl se_56 (rfl) ((by omega))) ?_
    refine ql_put rfl rfl rfl rfl sz_9 hW ((rw_fit stc_len (i := i) (j := 0) (m := 1) (by omega) (by omega) (by omega))) ((rw_put stc_len (i := i) (j := 0) (x := tF (mixT T W i) i) (x' := tF T i) (tF_get (by omega)) (by omega) (by omega) rfl)) (fun w1 hW F1 => ?_)
    replace hF := hF.thenDrew.thenO F1 (by first | exact .inr (by omega) | exact .inl rfl | exact .inl (by assumption))
    replace hK := F1.blkO hK (by omega)
    rw [mix_set htl hwl hc4] at hW
    replace h := DaV.far hdb h F1 (fun b q1 q2 hh ↦ absurd (show b = X.s from hh) (by omega))
    refine x_blk (x_then (hK4 _ _ ?_))
    clear hK4 K4
    refine c_reg ?_ -- region 2 ring.go:15
    refine wl (ro_move rfl) ?_
    refine wl (ro_arith (r := ((i + 1 : Nat) : Int)) rfl rfl rfl (Go.IntWalk.i64_in _ (by omega))) ?_
    refine wl (ro_assign rfl) ?_
    refine wl_nil (x_then ?_)
    exact ⟨24 - (i + 1), by omega, i + 1, rfl, by omega, hK, hW, h, hF, kp _ ⟨rfl, rfl, trivial⟩⟩
  · try simp only [decide_eq_true_eq, decide_eq_false_iff_not, Bool.not_eq_true', Bool.not_eq_false', Bool.not_eq_eq_eq_not, Bool.not_true, Bool.not_false, beq_iff_eq, bne_iff_ne, ne_eq, beq_eq_false_iff_ne, bne_eq_false_iff_eq, gt_iff_lt, ge_iff_le, Int.not_lt, Int.not_le] at hc4
    refine c_exit (x_thenX (x_thenX (x_blkX ?_)))
    refine bp_end Tryz.results42 rfl ?_
    have : i = 24 := by omega
    subst this
    rw [mix_all htl hwl] at hW
    exact ⟨hW, hF⟩
set_option maxHeartbeats 4000000 in
theorem lay52 {w : World} {X : BB} {lo hi b u r s sd : Nat} {P : List Tx} {M : List Nat} {U T Z : List Tx} {SL : List Vl} (hb : BaB lo hi X) (hhi : hi ≤ w.heap.size) (hK : Blk w.heap X.k (bst X b u r) 60) (hP : Blk w.heap X.p (rws stc P) 9) (hM : Blk w.heap X.t (rws msc M) 85) (hpl : P.length = 288) (hml : M.length = 6) (hs : s < 6) (hsd : sd < 2) (h : DaV w X.D U T SL) (hZ : TxOK Z) (hm : rF M s < 2 ^ 24)
    (hz1 : ∀ c, c < 24 → (rF M s).testBit c = true → tF P (plc s c + sd) = tF Z c) (hz0 : ∀ c, c < 24 → (rF M s).testBit c = false → tF Z c = tF T c) :
    Ret Tryz.prog 52 [ptr X.k, i64c s, i64c sd] w (fun v w' => (∃ SL', DaV w' X.D U Z SL') ∧ Fram (rng lo X.h) w w') := by
  have hF : Fram (rng lo X.h) w w := Fram.refl _ _
  obtain ⟨hdb, b1, b2, b3, b4, b5, b6⟩ := hb
  have htl := h.cv.tl
  have hzl := hZ.tl
  refine ret_of Tryz.func52 rfl Tryz.ntmps52 rfl ?_
  refine c_seq (fun K1 hK1 => ?_)
  refine c_reg ?_ -- region 0 ring.go:62
  refine wl (ro_move rfl) ?_
  refine wl (ro_nilCheck rfl) ?_
  refine wl (ro_fieldAddr (k := 2) rfl fo_60_2) ?_
  refine wl (ro_loadB rfl sc_57 (by assumption) rfl) ?_
  refine wl (ro_move rfl) ?_
  refine wl (ro_indexAddr (et := 85) (k := 1) rfl rfl se_57 rfl (by omega)) ?_
  refine wl (ro_loadB rfl sc_85 (hM) ((rw_get msc_len (rF_get (RL := M) (c := s) (by omega)) (j := 0) (by omega) rfl))) ?_
  refine wl (ro_assign rfl) ?_
  refine wl_nil (x_then (hK1 _ _ ?_))
  clear hK1 K1
  refine forget [(0, _), (1, _), (2, _), (6, _)] ⟨rfl, rfl, rfl, rfl, trivial⟩ (fun e => ?_)
  refine c_seq (fun K2 hK2 => ?_)
  refine c_reg ?_ -- region 1 ring.go:63
  refine wl (ro_assign rfl) ?_
  refine wl_nil (x_then (hK2 _ _ ?_))
  clear hK2 K2
  refine c_block ?_
  -- loop@r2: live slots [0, 1, 2, 6, 7]
  refine c_loopG (fun m a' w' => ∃ i SL, m = 24 - i ∧ i ≤ 24 ∧ Blk w'.heap X.k (bst X b u r) 60 ∧ Blk w'.heap X.p (rws stc P) 9 ∧ DaV w' X.D U (mixT Z T i) SL ∧ Fram (rng lo X.h) w w' ∧ ∃ e, a' = Fr 44 (upds e [(0, ptr X.k), (1, i64c s), (2, i64c sd), (6, u32c (rF M s)), (7, i64c i)]) []) 24 ⟨0, SL, rfl, by omega, hK, hP, by rw [mix_zero]; exact h, hF, kp _ ⟨rfl, rfl, rfl, rfl, rfl, trivial⟩⟩ ?_
  clear hF hK hP hM h
  rintro m a' u1 ⟨i, SL1, rfl, hi, hK, hP, h, hF, e, rfl⟩
  have hsz := hF.size
  refine c_seq (fun K3 hK3 => ?_)
  refine c_seq (fun K4 hK4 => ?_)
  refine c_reg ?_ -- region 2 ring.go:63
  refine wl (ro_move rfl) ?_
  refine wl (ro_cmp (r := decide (i < 24)) rfl rfl (congrArg some (decide_eq_decide.2 (by omega)))) ?_
  refine wl_nil (x_then (hK4 _ _ ?_))
  clear hK4 K4
  refine wc_cond rfl (fun hc17 => ?_) (fun hc17 => ?_)
  · try simp only [decide_eq_true_eq, decide_eq_false_iff_not, Bool.not_eq_true', Bool.not_eq_false', Bool.not_eq_eq_eq_not, Bool.not_true, Bool.not_false, beq_iff_eq, bne_iff_ne, ne_eq, beq_eq_false_iff_ne, bne_eq_false_iff_eq, gt_iff_lt, ge_iff_le, Int.not_lt, Int.not_le] at hc17
    have hpc := plc_lt hs hc17
    refine c_skip (x_then (hK3 _ _ ?_))
    clear hK3 K3
    refine forget [(0, _), (1, _), (2, _), (6, _), (7, _)] ⟨rfl, rfl, rfl, rfl, rfl, trivial⟩ (fun e => ?_)
    refine c_seq (fun K5 hK5 => ?_)
    refine c_block ?_
    refine c_seq (fun K6 hK6 => ?_)
    refine c_reg ?_ -- region 4 ring.go:64
    refine wl (ro_move rfl) ?_
    refine wl (ro_move rfl) ?_
    refine wl (ro_conv rfl sc_3 in_122 (Go.IntWalk.u64_in _ (by omega))) ?_
    refine wl (ro_shrN rfl rfl (by show i ≤ 32; omega)) ?_
    refine wl (ro_and32 rfl rfl (Nat.lt_of_le_of_lt (Nat.div_le_self _ _) (by omega)) (by decide)) ?_
    refine wl (ro_cmp (r := (rF M s).testBit i) rfl rfl (congrArg some (by rw [bit1]; cases (rF M s).testBit i <;> rfl))) ?_
    refine wl_nil (x_then (hK6 _ _ ?_))
    clear hK6 K6
    refine wc_cond rfl (fun hc25 => ?_) (fun hc25 => ?_)
    · try simp only [decide_eq_true_eq, decide_eq_false_iff_not, Bool.not_eq_true', Bool.not_eq_false', Bool.not_eq_eq_eq_not, Bool.not_true, Bool.not_false, beq_iff_eq, bne_iff_ne, ne_eq, beq_eq_false_iff_ne, bne_eq_false_iff_eq, gt_iff_lt, ge_iff_le, Int.not_lt, Int.not_le] at hc25
      refine c_seq (fun K7 hK7 => ?_)
      refine c_reg ?_ -- region 5 ring.go:65
      refine wl (ro_move rfl) ?_
      refine wl (ro_move rfl) ?_
      refine wl_call rfl en_65 (place65 hs hc17) ?_
      rintro _ u0 ⟨rfl, hw0⟩
      rw [hw0]
      clear hw0 u0
      refine wl (ro_assign rfl) ?_
      refine wl_nil (x_then (hK7 _ _ ?_))
      clear hK7 K7
      refine c_piL9 14 [(0, false), (1, false), (2, false), (3, false), (4, false), (5, false), (6, false), (7, false), (8, false), (9, false), (10, false), (11, false), (12, false), (13, false)] (fun w' => Blk w'.heap X.k (bst X b u r) 60 ∧ Blk w'.heap X.p (rws stc P) 9) mixed (by kernel_rfl) rfl (by kernel_rfl) (po_blk (po_then (po_then (po_blk (po_bp))))) (⟨hK, hP⟩) ?_ -- region 6 ring.go:66
      refine ql_ro rfl (fun w hS => ro_move rfl) ?_
      refine ql_ro rfl (fun w hS => ro_nilCheck rfl) ?_
      refine ql_ro rfl (fun w hS => ro_fieldAddr (k := 0) rfl fo_60_0) ?_
      refine ql_ro rfl (fun w hS => ro_loadB rfl sc_46 (hS.1) (rfl)) ?_
      refine ql_ro rfl (fun w hS => ro_move rfl) ?_
      refine ql_ro rfl (fun w hS => ro_move rfl) ?_
      refine ql_ro rfl (fun w hS => ro_nilCheck rfl) ?_
      refine ql_ro rfl (fun w hS => ro_fieldAddr (k := 1) rfl fo_60_1) ?_
      refine ql_ro rfl (fun w hS => ro_loadB rfl sc_56 (hS.1) (rfl)) ?_
      refine ql_ro rfl (fun w hS => ro_move rfl) ?_
      refine ql_ro rfl (fun w hS => ro_move rfl) ?_
      refine ql_ro rfl (fun w hS => ro_arith (r := ((plc s i + sd : Nat) : Int)) rfl rfl rfl (Go.IntWalk.i64_in _ (by omega))) ?_
      refine ql_ro rfl (fun w hS => ro_indexAddr (et := 9) (k := 1) rfl rfl se_56 (rfl) ((by omega))) ?_
      refine ql_ro rfl (fun w hS => ro_loadB rfl sc_9 (hS.2) ((rw_get stc_len (tF_get (T := P) (c := plc s i + sd) (by omega)) (j := 0) (by omega) rfl))) ?_
      refine ql_lastC rfl rfl en_33 (Set33 hdb (by show X.h ≤ u1.heap.size; omega) (h.far hdb (Fram.drew none' u1 _) (fun _ _ _ q ↦ q))) ?_
      rintro _ u2 ⟨rfl, ⟨SL2, h2⟩, G2⟩
      have hz := hz1 i hc17 hc25
      rw [hz, setS_nat hc17 (hZ.le i), mix_set hzl htl hc17] at h2
      replace hF := hF.transG G2 (by intro k hk h; simp only [rng] at h ⊢ <;> omega)
      replace hK := G2.blkF hK (by intro h; simp only [rng] at h <;> omega)
      replace hP := G2.blkF hP (by intro h; simp only [rng] at h <;> omega)
      refine x_blk (x_then (hK5 _ _ ?_))
      clear hK5 K5
      refine c_reg ?_ -- region 3 ring.go:63
      refine wl (ro_move rfl) ?_
      refine wl (ro_arith (r := ((i + 1 : Nat) : Int)) rfl rfl rfl (Go.IntWalk.i64_in _ (by omega))) ?_
      refine wl (ro_assign rfl) ?_
      refine wl_nil (x_then ?_)
      exact ⟨24 - (i + 1), by omega, i + 1, SL2, rfl, by omega, hK, hP, h2, hF, kp _ ⟨rfl, rfl, rfl, rfl, rfl, trivial⟩⟩
    · try simp only [decide_eq_true_eq, decide_eq_false_iff_not, Bool.not_eq_true', Bool.not_eq_false', Bool.not_eq_eq_eq_not, Bool.not_true, Bool.not_false, beq_iff_eq, bne_iff_ne, ne_eq, beq_eq_false_iff_ne, bne_eq_false_iff_eq, gt_iff_lt, ge_iff_le, Int.not_lt, Int.not_le] at hc25
      refine c_skip (x_blk (x_then (hK5 _ _ ?_)))
      clear hK5 K5
      refine c_reg ?_ -- region 3 ring.go:63
      refine wl (ro_move rfl) ?_
      refine wl (ro_arith (r := ((i + 1 : Nat) : Int)) rfl rfl rfl (Go.IntWalk.i64_in _ (by omega))) ?_
      refine wl (ro_assign rfl) ?_
      refine wl_nil (x_then ?_)
      rw [← mix_same hzl htl hc17 (hz0 i hc17 (by simpa using hc25))] at h
      exact ⟨24 - (i + 1), by omega, i + 1, SL1, rfl, by omega, hK, hP, h, hF, kp _ ⟨rfl, rfl, rfl, rfl, rfl, trivial⟩⟩
  · try simp only [decide_eq_true_eq, decide_eq_false_iff_not, Bool.not_eq_true', Bool.not_eq_false', Bool.not_eq_eq_eq_not, Bool.not_true, Bool.not_false, beq_iff_eq, bne_iff_ne, ne_eq, beq_eq_false_iff_ne, bne_eq_false_iff_eq, gt_iff_lt, ge_iff_le, Int.not_lt, Int.not_le] at hc17
    refine c_exit (x_thenX (x_thenX (x_blkX ?_)))
    refine bp_end Tryz.results52 rfl ?_
    have : i = 24 := by omega
    subst this
    rw [mix_all hzl htl] at h
    exact ⟨⟨SL1, h⟩, hF⟩

end Go.Proofs.Qxb6500570aGreat
