import Derived.Test.Qxb6500570aGreatNb
import Derived.Test.Qxb6500570aGreatLe
/- The model's editor: trees rewritten, one cell set. -/
namespace Go.Proofs.Qxb6500570aGreat
set_option linter.unusedVariables false
set_option linter.unusedSimpArgs false

abbrev trc (nb : Nat) (n : List Nd) : List Value := [sl nb n.length, icv ((n.length : Int) - 1), icv 0, icv 0]
set_option maxHeartbeats 8000000 in
theorem Moved79 {w : World} {n : List Nd} {nb : Nat} {kind a : Int} (hok : edOK kind a = true) (h1 : 1 ≤ n.length) (h24 : n.length ≤ 24) (hN : Blk w.heap nb (rws ndc n) 143) :
    Ret Tryz.prog 79 [.agg (trc nb n).toArray, icv kind, icv a] w (fun v w' => (∃ qb, v = .agg (trc qb (n.map (shN (rwB kind) (inB kind) a))).toArray ∧ w.heap.size ≤ qb ∧ Blk w'.heap qb (rws ndc (n.map (shN (rwB kind) (inB kind) a))) 143) ∧ Fram none' w w') := by
  have hF : Fram none' w w := Fram.refl _ _
  generalize hg : shN (rwB kind) (inB kind) a = g
  refine ret_of Tryz.func79 rfl Tryz.ntmps79 rfl ?_
  refine c_seq (fun K1 hK1 => ?_)
  refine c_reg ?_ -- region 0 move.go:150
  refine wl_box (cs := (trc nb n)) rfl rfl (fun b3 w1 hbb3 h3 F1 => ?_)
  have hbsb3 := Nat.le_trans hF.size hbb3
  have hnenbb3 : nb < b3 := Nat.lt_of_lt_of_le hN.lt hbb3
  replace hF := hF.thenDrew.thenN F1
  replace hN := F1.blkN hN
  refine wl_new (ze_113) (fun b6 w2 hbb6 h6 F2 => ?_)
  have hbsb6 := Nat.le_trans hF.size hbb6
  have hnenbb6 : nb < b6 := Nat.lt_of_lt_of_le hN.lt hbb6
  have hneb3b6 : b3 < b6 := Nat.lt_of_lt_of_le h3.lt hbb6
  replace hF := hF.thenDrew.thenN F2
  replace hN := F2.blkN hN
  replace h3 := F2.blkN h3
  refine wl_nil (x_then (hK1 _ _ ?_))
  clear hK1 K1
  refine forget [(1, _), (2, _), (3, _), (6, _)] ⟨rfl, rfl, rfl, rfl, trivial⟩ (fun e => ?_)
  refine c_seq (fun K2 hK2 => ?_)
  refine c_reg ?_ -- region 1 move.go:151
  refine wl (ro_fieldAddr (k := 0) rfl fo_113_0) ?_
  refine wl (ro_loadB rfl sc_78 (h3) (rfl)) ?_
  refine wl_call rfl en_103 (CopyNodesL hN h1 h24) ?_
  rintro _ u1 ⟨qb, rfl, hqb, hQ, G1⟩
  have h3l := h3.lt
  have h6l := h6.lt
  have hws := hF.size
  replace hF := hF.transG G1 (by intro k hk h; simp only [none'] at h ⊢ <;> omega)
  replace hN := G1.blkF hN (by intro h; simp only [none'] at h <;> omega)
  replace h3 := G1.blkF h3 (by intro h; simp only [none'] at h <;> omega)
  replace h6 := G1.blkF h6 (by intro h; simp only [none'] at h <;> omega)
  have hsz1 := G1.size
  have hw0 : w.heap.size ≤ qb := by omega
  have hqb' : b3 < qb ∧ b6 < qb := ⟨by omega, by omega⟩
  refine wl (ro_assign rfl) ?_
  refine wl_nil (x_then (hK2 _ _ ?_))
  clear hK2 K2
  refine c_seq (fun K3 hK3 => ?_)
  refine c_seq (fun K4 hK4 => ?_)
  refine c_reg ?_ -- region 2 move.go:152
  refine wl (ro_assign rfl) ?_
  refine wl_nil (x_then (hK4 _ _ ?_))
  clear hK4 K4
  refine c_block ?_
  -- loop@r3: live slots [1, 2, 3, 6, 7, 8]
  refine c_loopG (fun m a' w' => ∃ i, m = n.length - i ∧ i ≤ n.length ∧ Blk w'.heap qb (rws ndc (mpI g n i)) 143 ∧ Blk w'.heap b3 (trc nb n) 113 ∧ Blk w'.heap b6 [.slice none 0 0, icv 0, icv 0, icv 0] 113 ∧ Fram none' w w' ∧ ∃ e, a' = Fr 32 (upds e [(1, icv kind), (2, icv a), (3, ptr b3), (6, ptr b6), (7, sl qb n.length), (8, i64c i)]) []) n.length ⟨0, rfl, by omega, by rw [mp_zero]; exact hQ, h3, h6, hF, kp _ ⟨rfl, rfl, rfl, rfl, rfl, rfl, trivial⟩⟩ ?_
  have hb36 : b3 < b6 := by assumption
  clear hF h3 h6 hQ hN
  rintro m a' u2 ⟨i, rfl, hi, hQ, h3, h6, hF, e, rfl⟩
  refine c_seq (fun K5 hK5 => ?_)
  refine c_seq (fun K6 hK6 => ?_)
  refine c_reg ?_ -- region 3 move.go:152
  refine wl (ro_move rfl) ?_
  refine wl (ro_move rfl) ?_
  refine wl (ro_lenL rfl se_78) ?_
  refine wl (ro_cmp (r := decide (i < n.length)) rfl rfl (congrArg some (decide_eq_decide.2 (by omega)))) ?_
  refine wl_nil (x_then (hK6 _ _ ?_))
  clear hK6 K6
  refine wc_cond rfl (fun hc15 => ?_) (fun hc15 => ?_)
  · try simp only [decide_eq_true_eq, decide_eq_false_iff_not, Bool.not_eq_true', Bool.not_eq_false', Bool.not_eq_eq_eq_not, Bool.not_true, Bool.not_false, beq_iff_eq, bne_iff_ne, ne_eq, beq_eq_false_iff_ne, bne_eq_false_iff_eq, gt_iff_lt, ge_iff_le, Int.not_lt, Int.not_le] at hc15
    obtain ⟨x, hx⟩ : ∃ x, n[i]? = some x := ⟨_, List.getElem?_eq_getElem hc15⟩
    have hx' := mp_get (g := g) hx
    have hil : i < (mpI g n i).length := by rw [mp_len]; exact hc15
    refine c_skip (x_then (hK5 _ _ ?_))
    clear hK5 K5
    refine forget [(1, _), (2, _), (3, _), (6, _), (7, _), (8, _)] ⟨rfl, rfl, rfl, rfl, rfl, rfl, trivial⟩ (fun e => ?_)
    refine c_seq (fun K7 hK7 => ?_)
    refine c_block ?_
    refine c_reg ?_ -- region 5 move.go:153
    refine wl (ro_move rfl) ?_
    refine wl (ro_move rfl) ?_
    refine wl (ro_move rfl) ?_
    refine wl (ro_move rfl) ?_
    refine wl (ro_indexAddr (et := 143) (k := 13) rfl rfl se_78 (rfl) ((by omega))) ?_
    refine wl (ro_loadAggB rfl ag_143 (hQ) ((ndc_len _)) ((rw_agg ndc_len hx' (by omega)))) ?_
    refine wl (ro_move rfl) ?_
    refine wl (ro_move rfl) ?_
    refine wl_call rfl en_104 (MoveNode104 (x := x) hok) ?_
    rintro _ u3 ⟨rfl, G3⟩
    rw [hg]
    replace hF := hF.transG G3 (by intro k hk h; simp only [none'] at h ⊢ <;> omega)
    replace hQ := G3.blkF hQ (by intro h; simp only [none'] at h <;> omega)
    replace h3 := G3.blkF h3 (by intro h; simp only [none'] at h <;> omega)
    replace h6 := G3.blkF h6 (by intro h; simp only [none'] at h <;> omega)
    refine wl (ro_indexAddr (et := 143) (k := 13) rfl rfl se_78 (rfl) ((by omega))) ?_
    refine wl_puta rfl rfl ((ndc_cells _)) sz_143 (rfl) hQ ((rw_fit ndc_len (i := i) (j := 0) (m := 13) hil (by omega) (by omega))) ((rw_puta ndc_len (i := i) (x' := g x) hil (by omega))) (fun w3 hQ F3 => ?_)
    replace hF := hF.thenDrew.thenO F3 (by first | exact .inr (by omega) | exact .inl rfl | exact .inl (by assumption))
    replace h3 := F3.blkO h3 (by omega)
    replace h6 := F3.blkO h6 (by omega)
    rw [mp_set hx rfl] at hQ
    refine wl_nil (x_blk (x_then (hK7 _ _ ?_)))
    clear hK7 K7
    refine c_reg ?_ -- region 4 move.go:152
    refine wl (ro_move rfl) ?_
    refine wl (ro_arith (r := ((i + 1 : Nat) : Int)) rfl rfl rfl (Go.IntWalk.i64_in _ (by omega))) ?_
    refine wl (ro_assign rfl) ?_
    refine wl_nil (x_then ?_)
    exact ⟨n.length - (i + 1), by omega, i + 1, rfl, by omega, hQ, h3, h6, hF, kp _ ⟨rfl, rfl, rfl, rfl, rfl, rfl, trivial⟩⟩
  · try simp only [decide_eq_true_eq, decide_eq_false_iff_not, Bool.not_eq_true', Bool.not_eq_false', Bool.not_eq_eq_eq_not, Bool.not_true, Bool.not_false, beq_iff_eq, bne_iff_ne, ne_eq, beq_eq_false_iff_ne, bne_eq_false_iff_eq, gt_iff_lt, ge_iff_le, Int.not_lt, Int.not_le] at hc15
    refine c_exit (x_thenX (x_thenX (x_blkX (x_then (hK3 _ _ ?_)))))
    clear hK5 K5 hK3 K3
    refine forget [(3, _), (6, _), (7, _)] ⟨rfl, rfl, rfl, trivial⟩ (fun e => ?_)
    refine c_seq (fun K8 hK8 => ?_)
    refine c_reg ?_ -- region 6 move.go:155
    refine wl (ro_move rfl) ?_
    refine wl (ro_fieldAddr (k := 1) rfl fo_113_1) ?_
    refine wl (ro_loadB rfl sc_3 (h3) (rfl)) ?_
    refine wl (ro_build rfl bld_113_0_1) ?_
    refine wl_puta rfl rfl ((by simp [Value.oneCell', icv, sl])) sz_113 (rfl) h6 ((by simp)) (rfl) (fun w4 h6 F4 => ?_)
    replace hF := hF.thenDrew.thenO F4 (by first | exact .inr (by omega) | exact .inl rfl | exact .inl (by assumption))
    replace hQ := F4.blkO hQ (by omega)
    replace h3 := F4.blkO h3 (by omega)
    refine wl_nil (x_then (hK8 _ _ ?_))
    clear hK8 K8
    refine c_ret ?_
    refine bq_ret (res1 Tryz.results79 (rv_c rfl ag_113 (h6) (rfl))) ?_
    have : i = n.length := by omega
    subst this
    rw [mp_all] at hQ
    refine ⟨⟨qb, ?_, hw0, hQ⟩, hF⟩
    rw [show trc qb (n.map g) = [sl qb n.length, icv ((n.length : Int) - 1), icv 0, icv 0] by show [sl qb (n.map g).length, icv (((n.map g).length : Int) - 1), icv 0, icv 0] = _; rw [List.length_map]]
    rfl
set_option maxHeartbeats 8000000 in
theorem Copied82 {w : World} {n : List Nd} {nb : Nat} {dc dr : Int} (hA : AOK n) (hd : -10 ≤ dc ∧ dc ≤ 10 ∧ -10 ≤ dr ∧ dr ≤ 10) (h1 : 1 ≤ n.length) (h24 : n.length ≤ 24) (hN : Blk w.heap nb (rws ndc n) 143) :
    Ret Tryz.prog 82 [.agg (trc nb n).toArray, icv dc, icv dr] w (fun v w' => (∃ qb, v = .agg (trc qb (n.map (cyN dc dr))).toArray ∧ w.heap.size ≤ qb ∧ Blk w'.heap qb (rws ndc (n.map (cyN dc dr))) 143) ∧ Fram none' w w') := by
  have hF : Fram none' w w := Fram.refl _ _
  generalize hg : cyN dc dr = g
  refine ret_of Tryz.func82 rfl Tryz.ntmps82 rfl ?_
  refine c_seq (fun K1 hK1 => ?_)
  refine c_reg ?_ -- region 0 move.go:158
  refine wl_box (cs := (trc nb n)) rfl rfl (fun b3 w1 hbb3 h3 F1 => ?_)
  have hbsb3 := Nat.le_trans hF.size hbb3
  have hnenbb3 : nb < b3 := Nat.lt_of_lt_of_le hN.lt hbb3
  replace hF := hF.thenDrew.thenN F1
  replace hN := F1.blkN hN
  refine wl_new (ze_113) (fun b6 w2 hbb6 h6 F2 => ?_)
  have hbsb6 := Nat.le_trans hF.size hbb6
  have hnenbb6 : nb < b6 := Nat.lt_of_lt_of_le hN.lt hbb6
  have hneb3b6 : b3 < b6 := Nat.lt_of_lt_of_le h3.lt hbb6
  replace hF := hF.thenDrew.thenN F2
  replace hN := F2.blkN hN
  replace h3 := F2.blkN h3
  refine wl_nil (x_then (hK1 _ _ ?_))
  clear hK1 K1
  refine forget [(1, _), (2, _), (3, _), (6, _)] ⟨rfl, rfl, rfl, rfl, trivial⟩ (fun e => ?_)
  refine c_seq (fun K2 hK2 => ?_)
  refine c_reg ?_ -- region 1 move.go:159
  refine wl (ro_fieldAddr (k := 0) rfl fo_113_0) ?_
  refine wl (ro_loadB rfl sc_78 (h3) (rfl)) ?_
  refine wl_call rfl en_103 (CopyNodesL hN h1 h24) ?_
  rintro _ u1 ⟨qb, rfl, hqb, hQ, G1⟩
  have h3l := h3.lt
  have h6l := h6.lt
  have hws := hF.size
  replace hF := hF.transG G1 (by intro k hk h; simp only [none'] at h ⊢ <;> omega)
  replace hN := G1.blkF hN (by intro h; simp only [none'] at h <;> omega)
  replace h3 := G1.blkF h3 (by intro h; simp only [none'] at h <;> omega)
  replace h6 := G1.blkF h6 (by intro h; simp only [none'] at h <;> omega)
  have hsz1 := G1.size
  have hw0 : w.heap.size ≤ qb := by omega
  have hqb' : b3 < qb ∧ b6 < qb := ⟨by omega, by omega⟩
  refine wl (ro_assign rfl) ?_
  refine wl_nil (x_then (hK2 _ _ ?_))
  clear hK2 K2
  refine c_seq (fun K3 hK3 => ?_)
  refine c_seq (fun K4 hK4 => ?_)
  refine c_reg ?_ -- region 2 move.go:160
  refine wl (ro_assign rfl) ?_
  refine wl_nil (x_then (hK4 _ _ ?_))
  clear hK4 K4
  refine c_block ?_
  -- loop@r3: live slots [1, 2, 3, 6, 7, 8]
  refine c_loopG (fun m a' w' => ∃ i, m = n.length - i ∧ i ≤ n.length ∧ Blk w'.heap qb (rws ndc (mpI g n i)) 143 ∧ Blk w'.heap b3 (trc nb n) 113 ∧ Blk w'.heap b6 [.slice none 0 0, icv 0, icv 0, icv 0] 113 ∧ Fram none' w w' ∧ ∃ e, a' = Fr 32 (upds e [(1, icv dc), (2, icv dr), (3, ptr b3), (6, ptr b6), (7, sl qb n.length), (8, i64c i)]) []) n.length ⟨0, rfl, by omega, by rw [mp_zero]; exact hQ, h3, h6, hF, kp _ ⟨rfl, rfl, rfl, rfl, rfl, rfl, trivial⟩⟩ ?_
  have hb36 : b3 < b6 := by assumption
  clear hF h3 h6 hQ hN
  rintro m a' u2 ⟨i, rfl, hi, hQ, h3, h6, hF, e, rfl⟩
  refine c_seq (fun K5 hK5 => ?_)
  refine c_seq (fun K6 hK6 => ?_)
  refine c_reg ?_ -- region 3 move.go:160
  refine wl (ro_move rfl) ?_
  refine wl (ro_move rfl) ?_
  refine wl (ro_lenL rfl se_78) ?_
  refine wl (ro_cmp (r := decide (i < n.length)) rfl rfl (congrArg some (decide_eq_decide.2 (by omega)))) ?_
  refine wl_nil (x_then (hK6 _ _ ?_))
  clear hK6 K6
  refine wc_cond rfl (fun hc15 => ?_) (fun hc15 => ?_)
  · try simp only [decide_eq_true_eq, decide_eq_false_iff_not, Bool.not_eq_true', Bool.not_eq_false', Bool.not_eq_eq_eq_not, Bool.not_true, Bool.not_false, beq_iff_eq, bne_iff_ne, ne_eq, beq_eq_false_iff_ne, bne_eq_false_iff_eq, gt_iff_lt, ge_iff_le, Int.not_lt, Int.not_le] at hc15
    obtain ⟨x, hx⟩ : ∃ x, n[i]? = some x := ⟨_, List.getElem?_eq_getElem hc15⟩
    have hx' := mp_get (g := g) hx
    have hil : i < (mpI g n i).length := by rw [mp_len]; exact hc15
    obtain ⟨hxp, hxq, -⟩ := hA x (List.mem_of_getElem? hx)
    refine c_skip (x_then (hK5 _ _ ?_))
    clear hK5 K5
    refine forget [(1, _), (2, _), (3, _), (6, _), (7, _), (8, _)] ⟨rfl, rfl, rfl, rfl, rfl, rfl, trivial⟩ (fun e => ?_)
    refine c_seq (fun K7 hK7 => ?_)
    refine c_block ?_
    refine c_reg ?_ -- region 5 move.go:161
    refine wl (ro_move rfl) ?_
    refine wl (ro_move rfl) ?_
    refine wl (ro_move rfl) ?_
    refine wl (ro_move rfl) ?_
    refine wl (ro_indexAddr (et := 143) (k := 13) rfl rfl se_78 (rfl) ((by omega))) ?_
    refine wl (ro_loadAggB rfl ag_143 (hQ) ((ndc_len _)) ((rw_agg ndc_len hx' (by omega)))) ?_
    refine wl (ro_move rfl) ?_
    refine wl (ro_move rfl) ?_
    refine wl_call rfl en_108 (CopyNode108 (x := x) hxp hxq hd) ?_
    rintro _ u3 ⟨rfl, G3⟩
    rw [hg]
    replace hF := hF.transG G3 (by intro k hk h; simp only [none'] at h ⊢ <;> omega)
    replace hQ := G3.blkF hQ (by intro h; simp only [none'] at h <;> omega)
    replace h3 := G3.blkF h3 (by intro h; simp only [none'] at h <;> omega)
    replace h6 := G3.blkF h6 (by intro h; simp only [none'] at h <;> omega)
    refine wl (ro_indexAddr (et := 143) (k := 13) rfl rfl se_78 (rfl) ((by omega))) ?_
    refine wl_puta rfl rfl ((ndc_cells _)) sz_143 (rfl) hQ ((rw_fit ndc_len (i := i) (j := 0) (m := 13) hil (by omega) (by omega))) ((rw_puta ndc_len (i := i) (x' := g x) hil (by omega))) (fun w3 hQ F3 => ?_)
    replace hF := hF.thenDrew.thenO F3 (by first | exact .inr (by omega) | exact .inl rfl | exact .inl (by assumption))
    replace h3 := F3.blkO h3 (by omega)
    replace h6 := F3.blkO h6 (by omega)
    rw [mp_set hx rfl] at hQ
    refine wl_nil (x_blk (x_then (hK7 _ _ ?_)))
    clear hK7 K7
    refine c_reg ?_ -- region 4 move.go:160
    refine wl (ro_move rfl) ?_
    refine wl (ro_arith (r := ((i + 1 : Nat) : Int)) rfl rfl rfl (Go.IntWalk.i64_in _ (by omega))) ?_
    refine wl (ro_assign rfl) ?_
    refine wl_nil (x_then ?_)
    exact ⟨n.length - (i + 1), by omega, i + 1, rfl, by omega, hQ, h3, h6, hF, kp _ ⟨rfl, rfl, rfl, rfl, rfl, rfl, trivial⟩⟩
  · try simp only [decide_eq_true_eq, decide_eq_false_iff_not, Bool.not_eq_true', Bool.not_eq_false', Bool.not_eq_eq_eq_not, Bool.not_true, Bool.not_false, beq_iff_eq, bne_iff_ne, ne_eq, beq_eq_false_iff_ne, bne_eq_false_iff_eq, gt_iff_lt, ge_iff_le, Int.not_lt, Int.not_le] at hc15
    refine c_exit (x_thenX (x_thenX (x_blkX (x_then (hK3 _ _ ?_)))))
    clear hK5 K5 hK3 K3
    refine forget [(3, _), (6, _), (7, _)] ⟨rfl, rfl, rfl, trivial⟩ (fun e => ?_)
    refine c_seq (fun K8 hK8 => ?_)
    refine c_reg ?_ -- region 6 move.go:163
    refine wl (ro_move rfl) ?_
    refine wl (ro_fieldAddr (k := 1) rfl fo_113_1) ?_
    refine wl (ro_loadB rfl sc_3 (h3) (rfl)) ?_
    refine wl (ro_build rfl bld_113_0_1) ?_
    refine wl_puta rfl rfl ((by simp [Value.oneCell', icv, sl])) sz_113 (rfl) h6 ((by simp)) (rfl) (fun w4 h6 F4 => ?_)
    replace hF := hF.thenDrew.thenO F4 (by first | exact .inr (by omega) | exact .inl rfl | exact .inl (by assumption))
    replace hQ := F4.blkO hQ (by omega)
    replace h3 := F4.blkO h3 (by omega)
    refine wl_nil (x_then (hK8 _ _ ?_))
    clear hK8 K8
    refine c_ret ?_
    refine bq_ret (res1 Tryz.results82 (rv_c rfl ag_113 (h6) (rfl))) ?_
    have : i = n.length := by omega
    subst this
    rw [mp_all] at hQ
    refine ⟨⟨qb, ?_, hw0, hQ⟩, hF⟩
    rw [show trc qb (n.map g) = [sl qb n.length, icv ((n.length : Int) - 1), icv 0, icv 0] by show [sl qb (n.map g).length, icv (((n.map g).length : Int) - 1), icv 0, icv 0] = _; rw [List.length_map]]
    rfl

end Go.Proofs.Qxb6500570aGreat
