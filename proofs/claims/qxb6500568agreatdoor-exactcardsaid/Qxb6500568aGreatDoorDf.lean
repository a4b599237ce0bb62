import Derived.Test.Qxb6500568aGreatDoorDe
/- The real tables: Reset, Make. -/
namespace Go.Proofs.Qxb6500568aGreatDoor
open Ieee
set_option linter.unusedVariables false
set_option linter.unusedSimpArgs false

theorem row_set2 {l cs : List Value} {o k j : Nat} {v : Value} (hl : o ≤ l.length) (hk : cs.length = k) (hj : j < k) : (l.take o ++ cs ++ l.drop (o + k)).set (o + j) v = l.take o ++ cs.set j v ++ l.drop (o + k) := by
  rw [row_set (row_back hl hk) hk hj, row_twice hl hk]
theorem ow_mf {H : Array Obj} {b r : Nat} {α : Type} [DecidableEq α] {kv : α → Value} {vv : Nat → Value} {f : α → Option Nat} {t : TypeId} {l : List Value} (h : Blk H b l t) (hm : MF kv vv H r f) : b ≠ r := fun e => (hm.blk_ne h) e.symm
set_option maxHeartbeats 8000000 in
theorem Reset84 {w : World} {ow : Nat → Nat} {nb xb : Nat} {T : List Tb} (hM : RTab w ow nb xb T) : Ret Tryz.prog 84 [ptr xb] w (fun r w' => RTab w' ow nb xb [] ∧ Fram (tg ow rtag) w w') := by
  have hF : Fram (tg ow rtag) w w := Fram.refl _ _
  obtain ⟨L, cnt, hL, rfl⟩ := hM
  obtain ⟨V, hX, hV⟩ := hL.x
  have hXl := hX.lt
  have hl12 := hL.l12
  have hcl := hL.cl
  have hmx : tg ow rtag xb := .inl hL.xt
  refine ret_of Tryz.func84 rfl Tryz.ntmps84 rfl ?_
  refine c_seq (fun K1 hK1 => ?_)
  refine c_seq (fun K2 hK2 => ?_)
  refine c_reg ?_ -- region 0 table.go:43
  refine wl (ro_move rfl) ?_
  refine wl (ro_nilCheck rfl) ?_
  refine wl (ro_fieldAddr (k := 2) rfl fo_75_2) ?_
  refine wl (ro_loadB rfl sc_3 (by assumption) rfl) ?_
  refine wl (ro_move rfl) ?_
  refine wl_nil (x_then (hK2 _ _ ?_))
  clear hK2 K2
  refine c_block ?_
  -- loop@r1: live slots [0, 7, 8]
  refine c_loopG (fun n a' w' => ∃ i L', n = cnt - i ∧ i ≤ cnt ∧ L'.length = L.length ∧ TBV w' ow nb xb L' cnt ∧ (∀ j t, j < i → L'[j]? = some t → t.R = rt0) ∧ Fram (tg ow rtag) w w' ∧ ∃ e, a' = Fr 52 (upds e [(0, ptr xb), (7, i64c cnt), (8, i64c i)]) []) cnt ⟨0, L, rfl, by omega, rfl, hL, fun j t hj => by omega, hF, kp _ ⟨rfl, rfl, rfl, trivial⟩⟩ ?_
  clear hF hX hV
  rintro n a' u1 ⟨i, L', rfl, hi, hlen, hT, hz, hF, e, rfl⟩
  refine c_seq (fun K3 hK3 => ?_)
  refine c_reg ?_ -- region 1 table.go:43
  refine wl (ro_cmp rfl rfl rfl) ?_
  refine wl_nil (x_then (hK3 _ _ ?_))
  clear hK3 K3
  refine forget [(0, _), (7, _), (8, _), (9, _)] ⟨rfl, rfl, rfl, rfl, trivial⟩ (fun e => ?_)
  refine c_seq (fun K4 hK4 => ?_)
  refine wc_cond rfl (fun hc9 => ?_) (fun hc9 => ?_)
  · try simp only [decide_eq_true_eq, decide_eq_false_iff_not, Bool.not_eq_true', Bool.not_eq_false', Bool.not_eq_eq_eq_not, Bool.not_true, Bool.not_false, beq_iff_eq, bne_iff_ne, ne_eq, beq_eq_false_iff_ne, bne_eq_false_iff_eq, gt_iff_lt, ge_iff_le, Int.not_lt, Int.not_le] at hc9
    obtain ⟨m, hm⟩ : ∃ m, L'[i]? = some m := ⟨_, List.getElem?_eq_getElem (by omega)⟩
    obtain ⟨ab, cap, l, hX, hA, hl, q1, q2, q3, q4, q5, q6⟩ := hT.row hm
    have hX1l := hX.lt
    have hTv := hT.tv i m hm
    obtain ⟨a1, c1, h1⟩ := hTv.o.form
    obtain ⟨a2, c2, h2⟩ := hTv.a.form
    have hN := hTv.n
    have hS' := hTv.s
    have hR := hTv.r
    have hol := row_len hl rfl (by omega)
    have hmab : tg ow rtag ab := .inr (.inl q1)
    have hmn : tg ow rtag m.mn := .inr (.inr (by rw [hTv.nt]; omega))
    have hms : tg ow rtag m.ms := .inr (.inr (by rw [hTv.st]; omega))
    have hmr : tg ow rtag m.mr := .inr (.inr (by rw [hTv.rt]; omega))
    have ne1 : ab ≠ xb := ow_ne q1 hT.xt (by omega)
    have ne2 : m.mn ≠ xb := ow_ne hTv.nt hT.xt (by omega)
    have ne3 : m.ms ≠ xb := ow_ne hTv.st hT.xt (by omega)
    have ne4 : m.mr ≠ xb := ow_ne hTv.rt hT.xt (by omega)
    have ne5 : m.mn ≠ ab := ow_ne hTv.nt q1 (by omega)
    have ne6 : m.ms ≠ ab := ow_ne hTv.st q1 (by omega)
    have ne7 : m.mr ≠ ab := ow_ne hTv.rt q1 (by omega)
    have ne8 : m.mn ≠ m.ms := ow_ne hTv.nt hTv.st (by omega)
    have ne9 : m.mn ≠ m.mr := ow_ne hTv.nt hTv.rt (by omega)
    have ne10 : m.ms ≠ m.mr := ow_ne hTv.st hTv.rt (by omega)
    have hW : Fram (fun b => b = ab ∨ b = m.mn ∨ b = m.ms ∨ b = m.mr) u1 u1 := Fram.refl _ _
    have hw1 : ab = ab ∨ ab = m.mn ∨ ab = m.ms ∨ ab = m.mr := .inl rfl
    have hw2 : m.mn = ab ∨ m.mn = m.mn ∨ m.mn = m.ms ∨ m.mn = m.mr := .inr (.inl rfl)
    have hw3 : m.ms = ab ∨ m.ms = m.mn ∨ m.ms = m.ms ∨ m.ms = m.mr := .inr (.inr (.inl rfl))
    have hw4 : m.mr = ab ∨ m.mr = m.mn ∨ m.mr = m.ms ∨ m.mr = m.mr := .inr (.inr (.inr rfl))
    refine c_skip (x_then (hK4 _ _ ?_))
    clear hK4 K4
    refine forget [(0, _), (7, _), (8, _)] ⟨rfl, rfl, rfl, trivial⟩ (fun e => ?_)
    refine c_seq (fun K5 hK5 => ?_)
    refine c_block ?_
    refine c_seq (fun K6 hK6 => ?_)
    refine c_reg ?_ -- region 2 table.go:43
    refine wl (ro_move rfl) ?_
    refine wl (ro_assign rfl) ?_
    refine wl_nil (x_then (hK6 _ _ ?_))
    clear hK6 K6
    refine forget [(0, _), (2, _), (7, _), (8, _)] ⟨rfl, rfl, rfl, rfl, trivial⟩ (fun e => ?_)
    refine c_seq (fun K7 hK7 => ?_)
    refine c_reg ?_ -- region 3 table.go:44
    refine wl (ro_move rfl) ?_
    refine wl (ro_nilCheck rfl) ?_
    refine wl (ro_fieldAddr (k := 1) rfl fo_75_1) ?_
    refine wl (ro_loadB rfl sc_73 (by assumption) rfl) ?_
    refine wl (ro_move rfl) ?_
    refine wl (ro_indexAddr (et := 251) (k := 6) rfl rfl se_73 rfl (by omega)) ?_
    refine wl (ro_assign rfl) ?_
    refine wl_nil (x_then (hK7 _ _ ?_))
    clear hK7 K7
    refine forget [(0, _), (3, _), (7, _), (8, _)] ⟨rfl, rfl, rfl, rfl, trivial⟩ (fun e => ?_)
    refine c_seq (fun K8 hK8 => ?_)
    refine c_reg ?_ -- region 4 table.go:45
    refine wl (ro_move rfl) ?_
    refine wl (ro_move rfl) ?_
    refine wl (ro_nilCheck rfl) ?_
    refine wl (ro_fieldAddr (k := 0) rfl fo_251_0) ?_
    refine wl (ro_loadB rfl sc_246 (hA) ((row_cell3 (j := 0) hl (by show some m.vo = _; rw [h1])))) ?_
    refine wl (ro_sliceH (h := 0) rfl rfl se_246 rfl (by omega)) ?_
    refine wl (ro_nilCheck rfl) ?_
    refine wl (ro_fieldAddr (k := 0) rfl fo_251_0) ?_
    refine wl_put rfl rfl rfl sz_246 hA ((by omega)) ((row_set (j := 0) hl rfl (by omega))) (fun w1 hA F1 => ?_)
    replace hF := hF.thenDrew.thenO F1 (by first | exact .inr (by omega) | exact .inl rfl | exact .inl (by assumption) | assumption)
    replace hX := F1.blkO hX (by omega)
    replace hN := hN.framO F1 (by omega)
    replace hS' := hS'.framO F1 (by omega)
    replace hR := hR.framO F1 (by omega)
    replace hW := hW.thenDrew.thenO F1 (by first | exact .inr (by omega) | exact .inl rfl | exact .inl (by assumption) | assumption)
    replace hl := row_back (l := l) (o := 0 + i * 6) (k := 6) (cs := (tmc m).set 0 (.slice a1 0 c1)) (by omega) rfl
    refine wl_nil (x_then (hK8 _ _ ?_))
    clear hK8 K8
    refine forget [(0, _), (3, _), (7, _), (8, _)] ⟨rfl, rfl, rfl, rfl, trivial⟩ (fun e => ?_)
    refine c_seq (fun K9 hK9 => ?_)
    refine c_reg ?_ -- region 5 table.go:46
    refine wl (ro_move rfl) ?_
    refine wl (ro_move rfl) ?_
    refine wl (ro_nilCheck rfl) ?_
    refine wl (ro_fieldAddr (k := 1) rfl fo_251_1) ?_
    refine wl (ro_loadB rfl sc_247 (hA) ((row_cell3 (j := 1) hl (by show some m.va = _; rw [h2])))) ?_
    refine wl (ro_sliceH (h := 0) rfl rfl se_247 rfl (by omega)) ?_
    refine wl (ro_nilCheck rfl) ?_
    refine wl (ro_fieldAddr (k := 1) rfl fo_251_1) ?_
    refine wl_put rfl rfl rfl sz_247 hA ((by have := row_len hl rfl (by omega); omega)) ((row_set2 (k := 6) (j := 1) (by omega) rfl (by omega))) (fun w2 hA F2 => ?_)
    replace hF := hF.thenDrew.thenO F2 (by first | exact .inr (by omega) | exact .inl rfl | exact .inl (by assumption) | assumption)
    replace hX := F2.blkO hX (by omega)
    replace hN := hN.framO F2 (by omega)
    replace hS' := hS'.framO F2 (by omega)
    replace hR := hR.framO F2 (by omega)
    replace hW := hW.thenDrew.thenO F2 (by first | exact .inr (by omega) | exact .inl rfl | exact .inl (by assumption) | assumption)
    replace hl := row_back (l := l) (o := 0 + i * 6) (k := 6) (cs := ((tmc m).set 0 (.slice a1 0 c1)).set 1 (.slice a2 0 c2)) (by omega) rfl
    refine wl_nil (x_then (hK9 _ _ ?_))
    clear hK9 K9
    refine forget [(0, _), (3, _), (7, _), (8, _)] ⟨rfl, rfl, rfl, rfl, trivial⟩ (fun e => ?_)
    refine c_seq (fun K10 hK10 => ?_)
    refine c_reg ?_ -- region 6 table.go:47
    refine wl (ro_move rfl) ?_
    refine wl (ro_nilCheck rfl) ?_
    refine wl (ro_fieldAddr (k := 2) rfl fo_251_2) ?_
    refine wl (ro_loadB rfl sc_248 (hA) ((row_cell3 (j := 2) hl rfl))) ?_
    refine wl_mfClear (kt := 117) (et := 21) rfl (by kernel_rfl) hN ?_
    intro u2 hN G2
    replace hX := hX.framO G2 (Ne.symm ne2)
    replace hA := hA.framO G2 (Ne.symm ne5)
    replace hS' := hS'.framO G2 (Ne.symm ne8)
    replace hR := hR.framO G2 (Ne.symm ne9)
    replace hF := hF.thenO G2 (.inl hmn)
    replace hW := hW.thenO G2 (.inl hw2)
    refine wl_nil (x_then (hK10 _ _ ?_))
    clear hK10 K10
    refine forget [(0, _), (3, _), (7, _), (8, _)] ⟨rfl, rfl, rfl, rfl, trivial⟩ (fun e => ?_)
    refine c_seq (fun K11 hK11 => ?_)
    refine c_reg ?_ -- region 7 table.go:48
    refine wl (ro_move rfl) ?_
    refine wl (ro_nilCheck rfl) ?_
    refine wl (ro_fieldAddr (k := 3) rfl fo_251_3) ?_
    refine wl (ro_loadB rfl sc_249 (hA) ((row_cell3 (j := 3) hl rfl))) ?_
    refine wl_mfClear (kt := 9) (et := 21) rfl (by kernel_rfl) hS' ?_
    intro u3 hS' G3
    replace hX := hX.framO G3 (Ne.symm ne3)
    replace hA := hA.framO G3 (Ne.symm ne6)
    replace hN := hN.framO G3 ne8
    replace hR := hR.framO G3 (Ne.symm ne10)
    replace hF := hF.thenO G3 (.inl hms)
    replace hW := hW.thenO G3 (.inl hw3)
    refine wl_nil (x_then (hK11 _ _ ?_))
    clear hK11 K11
    refine forget [(0, _), (3, _), (7, _), (8, _)] ⟨rfl, rfl, rfl, rfl, trivial⟩ (fun e => ?_)
    refine c_seq (fun K12 hK12 => ?_)
    refine c_reg ?_ -- region 8 table.go:49
    refine wl (ro_move rfl) ?_
    refine wl (ro_nilCheck rfl) ?_
    refine wl (ro_fieldAddr (k := 4) rfl fo_251_4) ?_
    refine wl (ro_loadB rfl sc_248 (hA) ((row_cell3 (j := 4) hl rfl))) ?_
    refine wl_mfClear (kt := 117) (et := 21) rfl (by kernel_rfl) hR ?_
    intro u4 hR G4
    replace hX := hX.framO G4 (Ne.symm ne4)
    replace hA := hA.framO G4 (Ne.symm ne7)
    replace hN := hN.framO G4 ne9
    replace hS' := hS'.framO G4 ne10
    replace hF := hF.thenO G4 (.inl hmr)
    replace hW := hW.thenO G4 (.inl hw4)
    refine wl_nil (x_then (hK12 _ _ ?_))
    clear hK12 K12
    refine c_reg ?_ -- region 9 table.go:50
    refine wl (ro_move rfl) ?_
    refine wl (ro_nilCheck rfl) ?_
    refine wl (ro_fieldAddr (k := 5) rfl fo_251_5) ?_
    refine wl_put rfl rfl rfl sz_3 hA ((by have := row_len hl rfl (by omega); omega)) ((row_set2 (k := 6) (j := 5) (by omega) rfl (by omega))) (fun w3 hA F3 => ?_)
    replace hF := hF.thenDrew.thenO F3 (by first | exact .inr (by omega) | exact .inl rfl | exact .inl (by assumption) | assumption)
    replace hX := F3.blkO hX (by omega)
    replace hN := hN.framO F3 (by omega)
    replace hS' := hS'.framO F3 (by omega)
    replace hR := hR.framO F3 (by omega)
    replace hW := hW.thenDrew.thenO F3 (by first | exact .inr (by omega) | exact .inl rfl | exact .inl (by assumption) | assumption)
    refine wl_nil (x_blk (x_then (hK5 _ _ ?_)))
    clear hK5 K5
    refine c_reg ?_ -- region 10 table.go:43
    refine wl (ro_arith rfl rfl rfl (Go.IntWalk.i64_in _ (by omega))) ?_
    refine wl (ro_move rfl) ?_
    refine wl_nil (x_then ?_)
    refine ⟨cnt - (i + 1), by omega, i + 1, L'.set i ⟨.slice a1 0 c1, .slice a2 0 c2, m.mn, m.ms, m.mr, rt0⟩, rfl, by omega, by rw [List.length_set]; exact hlen, ?_, ?_, hF, kp _ ⟨rfl, rfl, rfl, trivial⟩⟩
    · have ho := hTv.o
      have ha := hTv.a
      rw [h1] at ho
      rw [h2] at ha
      have hnw : ∀ b, (ow b = 100 + 8 * i ∨ ow b = 100 + 8 * i + 1) → ¬ (b = ab ∨ b = m.mn ∨ b = m.ms ∨ b = m.mr) := fun b h1 h2 => by
        rcases h2 with h2 | h2 | h2 | h2
        · rw [h2, q1] at h1; omega
        · rw [h2, hTv.nt] at h1; omega
        · rw [h2, hTv.st] at h1; omega
        · rw [h2, hTv.rt] at h1; omega
      refine hT.turned hm hX hA q3 q4 q5 q6 q1 ⟨(ho.far hW (fun b hb _ => hnw b (.inl hb)) (Xt.refl _ _)).take (Nat.zero_le _), (ha.far hW (fun b hb _ => hnw b (.inr hb)) (Xt.refl _ _)).take (Nat.zero_le _), hN, hS', hR, hTv.nt, hTv.st, hTv.rt⟩ ti0 (fun _ => rfl) hW (fun b hb _ => ?_) (Xt.refl _ _) hX1l
      rcases hb with hb | hb | hb | hb
      · rw [hb]; exact .inl q1
      · rw [hb, hTv.nt]; exact .inr (by omega)
      · rw [hb, hTv.st]; exact .inr (by omega)
      · rw [hb, hTv.rt]; exact .inr (by omega)
    · intro j t hj hjt
      rw [List.getElem?_set] at hjt
      by_cases e : i = j
      · subst e; simp [q2] at hjt; subst hjt; rfl
      · simp [e] at hjt; exact hz j t (by omega) hjt
  · try simp only [decide_eq_true_eq, decide_eq_false_iff_not, Bool.not_eq_true', Bool.not_eq_false', Bool.not_eq_eq_eq_not, Bool.not_true, Bool.not_false, beq_iff_eq, bne_iff_ne, ne_eq, beq_eq_false_iff_ne, bne_eq_false_iff_eq, gt_iff_lt, ge_iff_le, Int.not_lt, Int.not_le] at hc9
    obtain ⟨V, hX, hV⟩ := hT.x
    refine c_exit (x_thenX (x_thenX (x_blkX (x_then (hK1 _ _ ?_)))))
    clear hK4 K4 hK1 K1
    refine c_reg ?_ -- region 11 table.go:52
    refine wl (ro_move rfl) ?_
    refine wl (ro_nilCheck rfl) ?_
    refine wl (ro_fieldAddr (k := 2) rfl fo_75_2) ?_
    refine wl_put rfl rfl rfl sz_3 hX ((by simp)) (rfl) (fun w4 hX F4 => ?_)
    replace hF := hF.thenDrew.thenO F4 (by first | exact .inr (by omega) | exact .inl rfl | exact .inl (by assumption) | assumption)
    have hW := (F4)
    refine wl_nil ?_
    refine bp_end Tryz.results84 rfl ?_
    refine ⟨⟨L', 0, ⟨⟨V, hX, hV.far hW (fun b hb hl q => by rw [show b = xb from q, hT.xt] at hb; omega) (Xt.refl _ _)⟩, hT.xt, Nat.zero_le _, hT.l12, fun h t hh => (hT.tv h t hh).far hW (fun b q1 q2 q3 q4 => by rw [show b = xb from q4, hT.xt] at q1; omega) (Xt.refl _ _), hT.ti, fun h t _ hh => ?_⟩, by simp [absT]⟩, hF⟩
    by_cases hlt : h < cnt
    · exact hz h t (by omega) hh
    · exact hT.rest h t (by omega) hh

end Go.Proofs.Qxb6500568aGreatDoor
