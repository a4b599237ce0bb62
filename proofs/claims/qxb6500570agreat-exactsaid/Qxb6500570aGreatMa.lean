import Derived.Test.Qxb6500570aGreatLd
/- The real book: its records. -/
namespace Go.Proofs.Qxb6500570aGreat
set_option linter.unusedVariables false
set_option linter.unusedSimpArgs false

structure BB where
  k : Nat
  p : Nat
  t : Nat
  s : Nat
  o : Nat
  h : Nat
  D : DB
structure BaB (lo hi : Nat) (X : BB) : Prop where
  db : DaB lo X.h X.D
  hk : X.h ≤ X.k
  kp : X.k < X.p
  pt : X.p < X.t
  ts : X.t < X.s
  so : X.s < X.o
  oh : X.o < hi
abbrev bst (X : BB) (b u r : Nat) : List Value := [ptr X.D.e, sl X.p 288, sl X.t 6, i64c b, i64c u, i64c r, sl X.s 24, sl X.o 1056]
def ptS (X : BB) : Nat → Prop := fun b => b = X.p ∨ b = X.t
theorem slot51 {w : World} {X : BB} {b u r j : Nat} (hK : Blk w.heap X.k (bst X b u r) 60) (hb : b < 6) (hj : j < 100) : Ret Tryz.prog 51 [ptr X.k, i64c j] w (fun v w' => v = i64c ((b + j) % 6) ∧ w' = w) := by
  refine ret_of Tryz.func51 rfl Tryz.ntmps51 rfl ?_
  refine c_seq (fun K1 hK1 => ?_)
  refine c_reg ?_ -- region 0 ring.go:11
  refine wl (ro_assign rfl) ?_
  refine wl_nil (x_then (hK1 _ _ ?_))
  clear hK1 K1
  refine forget [(0, _), (1, _)] ⟨rfl, rfl, trivial⟩ (fun e => ?_)
  refine c_seq (fun K2 hK2 => ?_)
  refine c_reg ?_ -- region 1 ring.go:11
  refine wl (ro_move rfl) ?_
  refine wl (ro_nilCheck rfl) ?_
  refine wl (ro_fieldAddr (k := 3) rfl fo_60_3) ?_
  refine wl (ro_loadB rfl sc_3 (by assumption) rfl) ?_
  refine wl (ro_move rfl) ?_
  refine wl (ro_arith (r := ((b + j : Nat) : Int)) rfl rfl rfl (Go.IntWalk.i64_in _ (by omega))) ?_
  refine wl (ro_remN (b := 6) rfl rfl (by omega)) ?_
  refine wl (ro_assign rfl) ?_
  refine wl_nil (x_then (hK2 _ _ ?_))
  clear hK2 K2
  refine c_ret ?_
  refine bp_ret Tryz.results51 rfl ?_
  exact ⟨rfl, rfl⟩
theorem place65 {w : World} {s c : Nat} (hs : s < 6) (hc : c < 24) : Ret Tryz.prog 65 [i64c s, i64c c] w (fun v w' => v = i64c (plc s c) ∧ w' = w) := by
  refine ret_of Tryz.func65 rfl Tryz.ntmps65 rfl ?_
  refine c_seq (fun K1 hK1 => ?_)
  refine c_reg ?_ -- region 0 ring.go:8
  refine wl (ro_assign rfl) ?_
  refine wl_nil (x_then (hK1 _ _ ?_))
  clear hK1 K1
  refine forget [(0, _), (1, _)] ⟨rfl, rfl, trivial⟩ (fun e => ?_)
  refine c_seq (fun K2 hK2 => ?_)
  refine c_reg ?_ -- region 1 ring.go:8
  refine wl (ro_move rfl) ?_
  refine wl (ro_arith (r := ((s * 24 : Nat) : Int)) rfl rfl rfl (Go.IntWalk.i64_in _ (by omega))) ?_
  refine wl (ro_move rfl) ?_
  refine wl (ro_arith (r := ((s * 24 + c : Nat) : Int)) rfl rfl rfl (Go.IntWalk.i64_in _ (by omega))) ?_
  refine wl (ro_arith (r := (((s * 24 + c) * 2 : Nat) : Int)) rfl rfl rfl (Go.IntWalk.i64_in _ (by omega))) ?_
  refine wl (ro_assign rfl) ?_
  refine wl_nil (x_then (hK2 _ _ ?_))
  clear hK2 K2
  refine c_ret ?_
  refine bp_ret Tryz.results65 rfl ?_
  exact ⟨rfl, rfl⟩
theorem plc_lt {s c : Nat} (hs : s < 6) (hc : c < 24) : plc s c + 1 < 288 := by unfold plc; omega
set_option maxHeartbeats 4000000 in
theorem wipe60 {w : World} {X : BB} {b u r s : Nat} {P : List Tx} {M : List Nat} {A B : Nat → Tx} (hkp : X.k < X.p) (hpt : X.p < X.t) (hK : Blk w.heap X.k (bst X b u r) 60) (hP : Blk w.heap X.p (rws stc P) 9) (hM : Blk w.heap X.t (rws msc M) 85) (hpl : P.length = 288) (hml : M.length = 6) (hs : s < 6) (hr : RecV A B P (rF M s) s) :
    Ret Tryz.prog 60 [ptr X.k, i64c s] w (fun v w' => Blk w'.heap X.p (rws stc (stP P s zT zT 24)) 9 ∧ Blk w'.heap X.t (rws msc (M.set s 0)) 85 ∧ Fram (ptS X) w w') := by
  have hF : Fram (ptS X) w w := Fram.refl _ _
  have hm1 : ptS X X.p := .inl rfl
  have hm2 : ptS X X.t := .inr rfl
  have hm24 := hr.m24
  refine ret_of Tryz.func60 rfl Tryz.ntmps60 rfl ?_
  refine c_seq (fun K1 hK1 => ?_)
  refine c_reg ?_ -- region 0 ring.go:22
  refine wl (ro_move rfl) ?_
  refine wl (ro_nilCheck rfl) ?_
  refine wl (ro_fieldAddr (k := 2) rfl fo_60_2) ?_
  refine wl (ro_loadB rfl sc_57 (by assumption) rfl) ?_
  refine wl (ro_move rfl) ?_
  refine wl (ro_indexAddr (et := 85) (k := 1) rfl rfl se_57 rfl (by omega)) ?_
  refine wl (ro_loadB rfl sc_85 (hM) ((rw_get msc_len (rF_get (RL := M) (c := s) (by omega)) (j := 0) (by omega) rfl))) ?_
  refine wl (ro_assign rfl) ?_
  refine wl_nil (x_then (hK1 _ _ ?_))
  clear hK1 K1
  refine c_seq (fun K2 hK2 => ?_)
  refine c_seq (fun K3 hK3 => ?_)
  refine c_reg ?_ -- region 1 ring.go:23
  refine wl (ro_assign rfl) ?_
  refine wl_nil (x_then (hK3 _ _ ?_))
  clear hK3 K3
  refine c_block ?_
  -- loop@r2: live slots [0, 1, 4, 5]
  refine c_loopG (fun m a' w' => ∃ i, m = 24 - i ∧ i ≤ 24 ∧ Blk w'.heap X.k (bst X b u r) 60 ∧ Blk w'.heap X.p (rws stc (stP P s zT zT i)) 9 ∧ Blk w'.heap X.t (rws msc M) 85 ∧ Fram (ptS X) w w' ∧ ∃ e, a' = Fr 46 (upds e [(0, ptr X.k), (1, i64c s), (4, u32c (rF M s)), (5, i64c i)]) []) 24 ⟨0, rfl, by omega, hK, hP, hM, hF, kp _ ⟨rfl, rfl, rfl, rfl, trivial⟩⟩ ?_
  clear hF hP hK hM
  rintro m a' u1 ⟨i, rfl, hi, hK, hP, hM, hF, e, rfl⟩
  have hpl' : (stP P s zT zT i).length = 288 := by rw [stP_len]; exact hpl
  refine c_seq (fun K4 hK4 => ?_)
  refine c_seq (fun K5 hK5 => ?_)
  refine c_reg ?_ -- region 2 ring.go:23
  refine wl (ro_move rfl) ?_
  refine wl (ro_cmp (r := decide (i < 24)) rfl rfl (congrArg some (decide_eq_decide.2 (by omega)))) ?_
  refine wl_nil (x_then (hK5 _ _ ?_))
  clear hK5 K5
  refine wc_cond rfl (fun hc15 => ?_) (fun hc15 => ?_)
  · try simp only [decide_eq_true_eq, decide_eq_false_iff_not, Bool.not_eq_true', Bool.not_eq_false', Bool.not_eq_eq_eq_not, Bool.not_true, Bool.not_false, beq_iff_eq, bne_iff_ne, ne_eq, beq_eq_false_iff_ne, bne_eq_false_iff_eq, gt_iff_lt, ge_iff_le, Int.not_lt, Int.not_le] at hc15
    have hpc := plc_lt hs hc15
    refine c_skip (x_then (hK4 _ _ ?_))
    clear hK4 K4
    refine forget [(0, _), (1, _), (4, _), (5, _)] ⟨rfl, rfl, rfl, rfl, trivial⟩ (fun e => ?_)
    refine c_seq (fun K6 hK6 => ?_)
    refine c_block ?_
    refine c_seq (fun K7 hK7 => ?_)
    refine c_reg ?_ -- region 4 ring.go:24
    refine wl (ro_move rfl) ?_
    refine wl (ro_move rfl) ?_
    refine wl (ro_conv rfl sc_3 in_122 (Go.IntWalk.u64_in _ (by omega))) ?_
    refine wl (ro_shrN rfl rfl (by show i ≤ 32; omega)) ?_
    refine wl (ro_and32 rfl rfl (Nat.lt_of_le_of_lt (Nat.div_le_self _ _) (by omega)) (by decide)) ?_
    refine wl (ro_cmp (r := (rF M s).testBit i) rfl rfl (congrArg some (by rw [bit1]; cases (rF M s).testBit i <;> rfl))) ?_
    refine wl_nil (x_then (hK7 _ _ ?_))
    clear hK7 K7
    refine wc_cond rfl (fun hc23 => ?_) (fun hc23 => ?_)
    · try simp only [decide_eq_true_eq, decide_eq_false_iff_not, Bool.not_eq_true', Bool.not_eq_false', Bool.not_eq_eq_eq_not, Bool.not_true, Bool.not_false, beq_iff_eq, bne_iff_ne, ne_eq, beq_eq_false_iff_ne, bne_eq_false_iff_eq, gt_iff_lt, ge_iff_le, Int.not_lt, Int.not_le] at hc23
      refine c_seq (fun K8 hK8 => ?_)
      refine c_reg ?_ -- region 5 ring.go:25
      refine wl (ro_move rfl) ?_
      refine wl (ro_move rfl) ?_
      refine wl_call rfl en_65 (place65 hs hc15) ?_
      rintro _ _ ⟨rfl, rfl⟩
      refine wl (ro_assign rfl) ?_
      refine wl_nil (x_then (hK8 _ _ ?_))
      clear hK8 K8
      refine forget [(0, _), (1, _), (4, _), (5, _), (6, _)] ⟨rfl, rfl, rfl, rfl, rfl, trivial⟩ (fun e => ?_)
      refine c_seq (fun K9 hK9 => ?_)
      refine c_reg ?_ -- region 6 ring.go:26
      refine wl (ro_move rfl) ?_
      refine wl (ro_nilCheck rfl) ?_
      refine wl (ro_fieldAddr (k := 1) rfl fo_60_1) ?_
      refine wl (ro_loadB rfl sc_56 (by assumption) rfl) ?_
      refine wl (ro_move rfl) ?_
      refine wl (ro_indexAddr (et := 9) (k := 1) rfl rfl se_56 (rfl) ((by omega))) ?_
      refine wl_put rfl rfl rfl sz_9 hP ((rw_fit stc_len (i := plc s i) (j := 0) (m := 1) (by omega) (by omega) (by omega))) ((rw_put stc_len (i := plc s i) (j := 0) (x := tF (stP P s zT zT i) (plc s i)) (x' := []) (tF_get (by omega)) (by omega) (by omega) rfl)) (fun w1 hP F1 => ?_)
      replace hF := hF.thenDrew.thenO F1 (by first | exact .inr (by omega) | exact .inl rfl | exact .inl (by assumption))
      replace hK := F1.blkO hK (by omega)
      replace hM := F1.blkO hM (by omega)
      refine wl_nil (x_then (hK9 _ _ ?_))
      clear hK9 K9
      refine c_reg ?_ -- region 7 ring.go:27
      refine wl (ro_move rfl) ?_
      refine wl (ro_nilCheck rfl) ?_
      refine wl (ro_fieldAddr (k := 1) rfl fo_60_1) ?_
      refine wl (ro_loadB rfl sc_56 (by assumption) rfl) ?_
      refine wl (ro_move rfl) ?_
      refine wl (ro_arith (r := ((plc s i + 1 : Nat) : Int)) rfl rfl rfl (Go.IntWalk.i64_in _ (by omega))) ?_
      refine wl (ro_indexAddr (et := 9) (k := 1) rfl rfl se_56 (rfl) ((by omega))) ?_
      refine wl_put rfl rfl rfl sz_9 hP ((rw_fit stc_len (i := plc s i + 1) (j := 0) (m := 1) (by rw [List.length_set]; omega) (by omega) (by omega))) ((rw_put stc_len (i := plc s i + 1) (j := 0) (x := tF ((stP P s zT zT i).set (plc s i) []) (plc s i + 1)) (x' := []) (tF_get (by rw [List.length_set]; omega)) (by omega) (by omega) rfl)) (fun w2 hP F2 => ?_)
      replace hF := hF.thenDrew.thenO F2 (by first | exact .inr (by omega) | exact .inl rfl | exact .inl (by assumption))
      replace hK := F2.blkO hK (by omega)
      replace hM := F2.blkO hM (by omega)
      refine wl_nil (x_blk (x_then (hK6 _ _ ?_)))
      clear hK6 K6
      refine c_reg ?_ -- region 3 ring.go:23
      refine wl (ro_move rfl) ?_
      refine wl (ro_arith (r := ((i + 1 : Nat) : Int)) rfl rfl rfl (Go.IntWalk.i64_in _ (by omega))) ?_
      refine wl (ro_assign rfl) ?_
      refine wl_nil (x_then ?_)
      exact ⟨24 - (i + 1), by omega, i + 1, rfl, by omega, hK, hP, hM, hF, kp _ ⟨rfl, rfl, rfl, rfl, trivial⟩⟩
    · try simp only [decide_eq_true_eq, decide_eq_false_iff_not, Bool.not_eq_true', Bool.not_eq_false', Bool.not_eq_eq_eq_not, Bool.not_true, Bool.not_false, beq_iff_eq, bne_iff_ne, ne_eq, beq_eq_false_iff_ne, bne_eq_false_iff_eq, gt_iff_lt, ge_iff_le, Int.not_lt, Int.not_le] at hc23
      refine c_skip (x_blk (x_then (hK6 _ _ ?_)))
      clear hK6 K6
      refine c_reg ?_ -- region 3 ring.go:23
      refine wl (ro_move rfl) ?_
      refine wl (ro_arith (r := ((i + 1 : Nat) : Int)) rfl rfl rfl (Go.IntWalk.i64_in _ (by omega))) ?_
      refine wl (ro_assign rfl) ?_
      refine wl_nil (x_then ?_)
      have hab : A i = B i := Classical.byContradiction (fun q => by have := (hr.bt i hc15).2 q; rw [this] at hc23; cases hc23)
      rw [← stP_same hpl hs hc15 (by rw [hr.p0 i hc15, if_pos hab]; rfl) (by rw [hr.p1 i hc15, if_pos hab]; rfl)] at hP
      exact ⟨24 - (i + 1), by omega, i + 1, rfl, by omega, hK, hP, hM, hF, kp _ ⟨rfl, rfl, rfl, rfl, trivial⟩⟩
  · try simp only [decide_eq_true_eq, decide_eq_false_iff_not, Bool.not_eq_true', Bool.not_eq_false', Bool.not_eq_eq_eq_not, Bool.not_true, Bool.not_false, beq_iff_eq, bne_iff_ne, ne_eq, beq_eq_false_iff_ne, bne_eq_false_iff_eq, gt_iff_lt, ge_iff_le, Int.not_lt, Int.not_le] at hc15
    refine c_exit (x_thenX (x_thenX (x_blkX (x_then (hK2 _ _ ?_)))))
    clear hK4 K4 hK2 K2
    refine c_reg ?_ -- region 8 ring.go:30
    refine wl (ro_move rfl) ?_
    refine wl (ro_nilCheck rfl) ?_
    refine wl (ro_fieldAddr (k := 2) rfl fo_60_2) ?_
    refine wl (ro_loadB rfl sc_57 (by assumption) rfl) ?_
    refine wl (ro_move rfl) ?_
    refine wl (ro_indexAddr (et := 85) (k := 1) rfl rfl se_57 rfl (by omega)) ?_
    refine wl_put rfl rfl rfl sz_85 hM ((rw_fit msc_len (i := s) (j := 0) (m := 1) (by omega) (by omega) (by omega))) ((rw_put msc_len (i := s) (j := 0) (x := rF M s) (x' := 0) (rF_get (by omega)) (by omega) (by omega) rfl)) (fun w3 hM F3 => ?_)
    replace hF := hF.thenDrew.thenO F3 (by first | exact .inr (by omega) | exact .inl rfl | exact .inl (by assumption))
    replace hK := F3.blkO hK (by omega)
    replace hP := F3.blkO hP (by omega)
    refine wl_nil ?_
    refine bp_end Tryz.results60 rfl ?_
    have : i = 24 := by omega
    subst this
    exact ⟨hP, hM, hF⟩

end Go.Proofs.Qxb6500570aGreat
