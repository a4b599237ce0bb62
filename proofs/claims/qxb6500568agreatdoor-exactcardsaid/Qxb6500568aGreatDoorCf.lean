import Derived.Test.Qxb6500568aGreatDoorCe
/- The model's tables: Set. -/
namespace Go.Proofs.Qxb6500568aGreatDoor
open Ieee
set_option linter.unusedVariables false
set_option linter.unusedSimpArgs false

theorem set_seg {l : List Value} {p : Nat} {v : Value} (h : p < l.length) : l.set p v = l.take p ++ [v] ++ l.drop (p + 1) := by
  rw [List.set_eq_take_append_cons_drop, if_pos h]
  simp
theorem enc_one (p : PV × PV) : ∀ u ∈ enc p, u.oneCell' = true := by
  intro u hu
  rcases List.mem_append.1 hu with h | h
  · exact pvc_one _ u h
  · exact pvc_one _ u h
theorem enc_val (p : PV × PV) (v : PV) : enc (p.1, v) = (enc p).take 3 ++ pvc v ++ (enc p).drop (3 + 3) := rfl
theorem tSet_T {t : Tb} {k v : PV} (h0 : k.T ≠ 0) (h2 : (decide (k.T = 2) && isNaNW k.N) = false) : tSet t k v = match place t (nrmK k) with
  | some i => (0, t.modify i fun p => (p.1, v))
  | none => if v.T = 0 then (0, t) else if 32 ≤ t.length then (8, t) else (0, t ++ [(nrmK k, v)]) := by
  unfold tSet
  rw [if_neg h0, if_neg (fun h => by rw [decide_eq_true h.1, h.2] at h2; cases h2)]
  cases place t (nrmK k) <;> rfl
theorem modify_set {t : Tb} {i : Nat} {p : PV × PV} {v : PV} (h : t[i]? = some p) : (t.modify i fun p => (p.1, v)) = t.set i (p.1, v) := by
  apply List.ext_getElem?
  intro j
  rw [List.getElem?_modify, List.getElem?_set]
  by_cases e : i = j
  · subst e
    have := (List.getElem?_eq_some_iff.1 h).1
    simp [this]
    rw [(List.getElem?_eq_some_iff.1 h).2]
  · simp [e]
/-- A row of the model turned. -/
theorem MTV.turned {w w' : World} {ow ow' : Nat → Nat} {np : Value} {tb h : Nat} {T : List Tb} {t t' : Tb} {G : Nat → Prop} {V : Value} {rows : List Value} {v : Value}
    (hM : MTV w ow np tb T) (hX : Blk w'.heap tb [np, V] 99) (hV : OwT w' ow' 41 V 155 1 T.length (rows.set h v)) (hR : ∀ (h : Nat) t, T[h]? = some t → ∃ v, rows[h]? = some v ∧ OwT w ow (100 + h) v 154 6 t.length (rws enc t))
    (hh : T[h]? = some t) (hv : OwT w' ow' (100 + h) v 154 6 t'.length (rws enc t')) (hF : Fram G w w') (hG : ∀ b, G b → b < w.heap.size → ow b = 40 ∨ ow b = 41 ∨ ow b = 100 + h) (hE : Xt w ow ow') (ht : TOK t') (hl : tb < w.heap.size) : MTV w' ow' np tb (T.set h t') := by
  refine ⟨⟨V, rows.set h v, hX, by rw [List.length_set]; exact hV, fun i s hi => ?_⟩, by rw [hE tb hl]; exact hM.tag, by rw [List.length_set]; exact hM.len, hM.np1, fun i s hi => ?_⟩
  · rw [List.getElem?_set] at hi
    split at hi
    · rename_i e; subst e
      have hhl := (List.getElem?_eq_some_iff.1 hh).1
      rw [if_pos hhl] at hi
      cases hi
      obtain ⟨v0, hv0, _⟩ := hR h t hh
      exact ⟨v, by rw [List.getElem?_set_self (List.getElem?_eq_some_iff.1 hv0).1], hv⟩
    · rename_i e
      obtain ⟨v0, hv0, ho⟩ := hR i s hi
      exact ⟨v0, by rw [List.getElem?_set_ne e]; exact hv0, ho.far hF (fun b hb hlt hg => by rcases hG b hg hlt with q | q | q <;> omega) hE⟩
  · rw [List.getElem?_set] at hi
    split at hi
    · have hhl := (List.getElem?_eq_some_iff.1 hh).1
      rw [if_pos hhl] at hi
      cases hi
      exact ht
    · exact hM.ok i s hi
theorem set_self' {rows : List Value} {h : Nat} {v : Value} (hv : rows[h]? = some v) : rows.set h v = rows := by
  apply List.ext_getElem?
  intro j
  rw [List.getElem?_set]
  split
  · rename_i e; subst e; rw [if_pos (List.getElem?_eq_some_iff.1 hv).1, hv]
  · rfl
def mth (h t : Nat) : Prop := t = 40 ∨ t = 41 ∨ t = 100 + h
def mtr (h t : Nat) : Prop := t = 100 + h
def setR (T : List Tb) (h : Nat) (t : Tb) (k v : PV) : List Tb := T.set h (tSet t k v).2
theorem OwT.put1 {w w' : World} {ow ow' : Nat → Nat} {tag g n cap e h : Nat} {rows l0 : List Value} {v : Value} (hV : OwT w ow tag (.slice (some ⟨g, 0, none⟩) n cap) e 1 n rows) (hO : Blk w.heap g l0 e) (hB : Blk w'.heap g (l0.set (0 + h * 1) v) e) (ht : ow' g = tag) : OwT w' ow' tag (.slice (some ⟨g, 0, none⟩) n cap) e 1 n (rows.set h v) := by
  refine ⟨⟨by rw [List.length_set]; exact hV.o.1, .inr ?_⟩, fun b hb => by cases hb; exact ht⟩
  rcases hV.o.2 with ⟨h1, h2⟩ | ⟨g', cap', l, h1, h2, h3, h4, h5, h6⟩
  · cases h1
  · cases h1
    obtain ⟨rfl, _⟩ := Blk.uniq h2 hO
    refine ⟨g, cap, _, rfl, hB, h3, h4, by rw [List.length_set]; exact h5, ?_⟩
    simp only [Nat.zero_add, Nat.mul_one] at h6 ⊢
    rw [← h6, List.take_set]
set_option maxHeartbeats 8000000 in
theorem Set31 {w : World} {ow : Nat → Nat} {np : Value} {tb h : Nat} {T : List Tb} {t : Tb} {k v : PV} (hM : MTV w ow np tb T) (hh : T[h]? = some t) (hk : wfV k = true) (hN : W64 k.N) (hv : wfV v = true) (hvN : W64 v.N) (hok : TOK (tSet t k v).2) :
    Ret Tryz.prog 31 [ptr tb, i64c h, pv k, pv v] w (fun r w' => r = i64c (tSet t k v).1 ∧ ∃ ow', Xt w ow ow' ∧ MTV w' ow' np tb (setR T h t k v) ∧ Fram (tg ow mtag) w w') := by
  have hF : Fram (tg ow (mth h)) w w := Fram.refl _ _
  have hF0 : Fram none' w w := Fram.refl _ _
  have hG : Fram (tg ow (mtr h)) w w := Fram.refl _ _
  obtain ⟨V, a0, cap0, rows, rfl, hX, hV, hR⟩ := hM.lens
  obtain ⟨g0, cap0', l0, a, cap, hX', hO, hrow, ho, hhl, hc0, hg0, hl0, hc0'⟩ := hM.row hh
  have hmtb : tg ow (mth h) tb := .inl hM.tag
  have hFm : ∀ {u : World}, Fram (tg ow (mth h)) w u → Fram (tg ow mtag) w u := fun f => f.mono (fun b _ q => by rcases q with q | q | q; exact .inl q; exact .inr (.inl q); exact .inr (.inr (by have := hM.len; have := (List.getElem?_eq_some_iff.1 hh).1; omega)))
  have hXl := hX.lt
  have hsame := (Blk.uniq hX hX').1
  simp only [List.cons.injEq, Value.slice.injEq, and_true, true_and] at hsame
  obtain ⟨rfl, rfl⟩ := hsame
  clear hX'
  have hOl := hO.lt
  have hO0 := hO
  have hself : T.set h t = T := by
    apply List.ext_getElem?
    intro j
    rw [List.getElem?_set]
    by_cases e : h = j
    · subst e; simp [hhl, hh]
      exact ((List.getElem?_eq_some_iff.1 hh).2).symm
    · simp [e]
  have hsame : ∀ {u : World}, Fram none' w u → (tSet t k v).2 = t → ∃ ow', Xt w ow ow' ∧ MTV u ow' np tb (setR T h t k v) ∧ Fram (tg ow mtag) w u := fun {u} f e => ⟨ow, Xt.refl _ _, by unfold setR; rw [e, hself]; exact hM.farN f, f.mono (fun _ _ h => h.elim)⟩
  refine ret_of Tryz.func31 rfl Tryz.ntmps31 rfl ?_
  refine c_seq (fun K1 hK1 => ?_)
  refine c_reg ?_ -- region 0 tablem.go:78
  refine wl_box rfl rfl (fun b6 w1 hbb6 h6 F1 => ?_)
  have hbsb6 := Nat.le_trans hF.size hbb6
  have hbsb6 := Nat.le_trans hF0.size hbb6
  have hbsb6 := Nat.le_trans hG.size hbb6
  have hnetbb6 : tb < b6 := Nat.lt_of_lt_of_le hX.lt hbb6
  have hneg0b6 : g0 < b6 := Nat.lt_of_lt_of_le hO.lt hbb6
  replace hF := hF.thenDrew.thenN F1
  replace hF0 := hF0.thenDrew.thenN F1
  replace hG := hG.thenDrew.thenN F1
  replace hX := F1.blkN hX
  replace hO := F1.blkN hO
  refine wl_box rfl rfl (fun b7 w2 hbb7 h7 F2 => ?_)
  have hbsb7 := Nat.le_trans hF.size hbb7
  have hbsb7 := Nat.le_trans hF0.size hbb7
  have hbsb7 := Nat.le_trans hG.size hbb7
  have hnetbb7 : tb < b7 := Nat.lt_of_lt_of_le hX.lt hbb7
  have hneg0b7 : g0 < b7 := Nat.lt_of_lt_of_le hO.lt hbb7
  have hneb6b7 : b6 < b7 := Nat.lt_of_lt_of_le h6.lt hbb7
  replace hF := hF.thenDrew.thenN F2
  replace hF0 := hF0.thenDrew.thenN F2
  replace hG := hG.thenDrew.thenN F2
  replace hX := F2.blkN hX
  replace hO := F2.blkN hO
  replace h6 := F2.blkN h6
  refine wl (ro_assign rfl) ?_
  refine wl_nil (x_then (hK1 _ _ ?_))
  clear hK1 K1
  refine c_seq (fun K2 hK2 => ?_)
  refine c_seq (fun K3 hK3 => ?_)
  refine c_reg ?_ -- region 1 tablem.go:79
  refine wl (ro_move rfl) ?_
  refine wl (ro_cmp (r := false) rfl rfl (congrArg some (decide_eq_false (by omega)))) ?_
  refine wl (ro_move rfl) ?_
  refine wlg_yes rfl (ro_move rfl) ?_
  refine wlg_yes rfl (ro_move rfl) ?_
  refine wlg_yes rfl (ro_nilCheck rfl) ?_
  refine wlg_yes rfl (ro_fieldAddr (k := 1) rfl fo_99_1) ?_
  refine wlg_yes rfl (ro_loadB rfl sc_97 (by assumption) rfl) ?_
  refine wlg_yes rfl (ro_lenL rfl se_97) ?_
  refine wlg_yes rfl (ro_cmp (r := false) rfl rfl (congrArg some (decide_eq_false (by omega)))) ?_
  refine wl (ro_pick rfl rfl rfl) ?_
  refine wl_nil (x_then (hK3 _ _ ?_))
  clear hK3 K3
  refine wc_condF rfl ?_
  refine c_skip (x_then (hK2 _ _ ?_))
  clear hK2 K2
  refine forget [(0, _), (1, _), (6, _), (7, _)] ⟨rfl, rfl, rfl, rfl, trivial⟩ (fun e => ?_)
  refine c_seq (fun K4 hK4 => ?_)
  refine c_reg ?_ -- region 3 tablem.go:82
  refine wl (ro_loadAggB rfl ag_119 (by assumption) rfl rfl) ?_
  refine wl_call rfl en_51 (WF51 hk hN) ?_
  rintro _ w3 ⟨rfl, F3⟩
  replace hF := hF.thenDrew.thenN F3
  replace hF0 := hF0.thenDrew.thenN F3
  replace hG := hG.thenDrew.thenN F3
  replace hX := F3.blkN hX
  replace hO := F3.blkN hO
  replace h6 := F3.blkN h6
  replace h7 := F3.blkN h7
  refine wl (ro_assign rfl) ?_
  refine wl_nil (x_then (hK4 _ _ ?_))
  clear hK4 K4
  refine forget [(0, _), (1, _), (6, _), (7, _), (9, _)] ⟨rfl, rfl, rfl, rfl, rfl, trivial⟩ (fun e => ?_)
  refine c_seq (fun K5 hK5 => ?_)
  refine c_reg ?_ -- region 4 tablem.go:83
  refine wl (ro_loadAggB rfl ag_119 (by assumption) rfl rfl) ?_
  refine wl_call rfl en_51 (WF51 hv hvN) ?_
  rintro _ w4 ⟨rfl, F4⟩
  replace hF := hF.thenDrew.thenN F4
  replace hF0 := hF0.thenDrew.thenN F4
  replace hG := hG.thenDrew.thenN F4
  replace hX := F4.blkN hX
  replace hO := F4.blkN hO
  replace h6 := F4.blkN h6
  replace h7 := F4.blkN h7
  refine wl (ro_assign rfl) ?_
  refine wl_nil (x_then (hK5 _ _ ?_))
  clear hK5 K5
  refine c_seq (fun K6 hK6 => ?_)
  refine c_seq (fun K7 hK7 => ?_)
  refine c_reg ?_ -- region 5 tablem.go:84
  refine wl (ro_move rfl) ?_
  refine wl (ro_not rfl) ?_
  refine wl (ro_move rfl) ?_
  refine wlg_yes rfl (ro_move rfl) ?_
  refine wlg_yes rfl (ro_not rfl) ?_
  refine wl (ro_pick rfl rfl rfl) ?_
  refine wl_nil (x_then (hK7 _ _ ?_))
  clear hK7 K7
  refine wc_condF rfl ?_
  refine c_skip (x_then (hK6 _ _ ?_))
  clear hK6 K6
  refine c_seq (fun K8 hK8 => ?_)
  refine c_seq (fun K9 hK9 => ?_)
  refine c_reg ?_ -- region 7 tablem.go:87
  refine wl (ro_fieldAddr (k := 0) rfl fo_119_0) ?_
  refine wl (ro_loadB rfl sc_3 (by assumption) rfl) ?_
  refine wl (ro_cmp rfl rfl rfl) ?_
  refine wl_nil (x_then (hK9 _ _ ?_))
  clear hK9 K9
  refine wc_cond rfl (fun hc37 => ?_) (fun hc37 => ?_)
  · try simp only [decide_eq_true_eq, decide_eq_false_iff_not, Bool.not_eq_true', Bool.not_eq_false', Bool.not_eq_eq_eq_not, Bool.not_true, Bool.not_false, beq_iff_eq, bne_iff_ne, ne_eq, beq_eq_false_iff_ne, bne_eq_false_iff_eq, gt_iff_lt, ge_iff_le, Int.not_lt, Int.not_le] at hc37
    refine c_seq (fun K10 hK10 => ?_)
    refine c_reg ?_ -- region 8 tablem.go:88
    refine wl (ro_assign rfl) ?_
    refine wl_nil (x_then (hK10 _ _ ?_))
    clear hK10 K10
    refine c_ret (x_thenR ?_)
    refine bp_ret Tryz.results31 rfl ?_
    exact ⟨by unfold tSet; rw [if_pos (by omega)]; rfl, hsame hF0 (by unfold tSet; rw [if_pos (by omega)])⟩
  · try simp only [decide_eq_true_eq, decide_eq_false_iff_not, Bool.not_eq_true', Bool.not_eq_false', Bool.not_eq_eq_eq_not, Bool.not_true, Bool.not_false, beq_iff_eq, bne_iff_ne, ne_eq, beq_eq_false_iff_ne, bne_eq_false_iff_eq, gt_iff_lt, ge_iff_le, Int.not_lt, Int.not_le] at hc37
    refine c_skip (x_then (hK8 _ _ ?_))
    clear hK8 K8
    refine forget [(0, _), (1, _), (6, _), (7, _)] ⟨rfl, rfl, rfl, rfl, trivial⟩ (fun e => ?_)
    refine c_seq (fun K11 hK11 => ?_)
    refine c_reg ?_ -- region 9 tablem.go:90
    refine wl (ro_move rfl) ?_
    refine wl (ro_loadAggB rfl ag_119 (by assumption) rfl rfl) ?_
    refine wl_call rfl en_52 (isNaN52 (ow := ow) hX hN) ?_
    rintro _ w5 ⟨rfl, F5⟩
    replace hF := hF.thenDrew.thenN F5
    replace hF0 := hF0.thenDrew.thenN F5
    replace hG := hG.thenDrew.thenN F5
    replace hX := F5.blkN hX
    replace hO := F5.blkN hO
    replace h6 := F5.blkN h6
    replace h7 := F5.blkN h7
    refine wl (ro_assign rfl) ?_
    refine wl_nil (x_then (hK11 _ _ ?_))
    clear hK11 K11
    refine c_seq (fun K12 hK12 => ?_)
    refine c_seq (fun K13 hK13 => ?_)
    refine c_reg ?_ -- region 10 tablem.go:91
    refine wl (ro_move rfl) ?_
    refine wl_nil (x_then (hK13 _ _ ?_))
    clear hK13 K13
    refine wc_cond rfl (fun hc41 => ?_) (fun hc41 => ?_)
    · try simp only [decide_eq_true_eq, decide_eq_false_iff_not, Bool.not_eq_true', Bool.not_eq_false', Bool.not_eq_eq_eq_not, Bool.not_true, Bool.not_false, beq_iff_eq, bne_iff_ne, ne_eq, beq_eq_false_iff_ne, bne_eq_false_iff_eq, gt_iff_lt, ge_iff_le, Int.not_lt, Int.not_le] at hc41
      simp only [Bool.and_eq_true, decide_eq_true_eq] at hc41
      refine c_seq (fun K14 hK14 => ?_)
      refine c_reg ?_ -- region 11 tablem.go:92
      refine wl (ro_assign rfl) ?_
      refine wl_nil (x_then (hK14 _ _ ?_))
      clear hK14 K14
      refine c_ret (x_thenR ?_)
      refine bp_ret Tryz.results31 rfl ?_
      exact ⟨by unfold tSet; rw [if_neg (by omega), if_pos hc41]; rfl, hsame hF0 (by unfold tSet; rw [if_neg (by omega), if_pos hc41])⟩
    · try simp only [decide_eq_true_eq, decide_eq_false_iff_not, Bool.not_eq_true', Bool.not_eq_false', Bool.not_eq_eq_eq_not, Bool.not_true, Bool.not_false, beq_iff_eq, bne_iff_ne, ne_eq, beq_eq_false_iff_ne, bne_eq_false_iff_eq, gt_iff_lt, ge_iff_le, Int.not_lt, Int.not_le] at hc41
      refine c_skip (x_then (hK12 _ _ ?_))
      clear hK12 K12
      refine forget [(0, _), (1, _), (6, _), (7, _)] ⟨rfl, rfl, rfl, rfl, trivial⟩ (fun e => ?_)
      refine c_seq (fun K15 hK15 => ?_)
      refine c_reg ?_ -- region 12 tablem.go:94
      refine wl (ro_move rfl) ?_
      refine wl (ro_move rfl) ?_
      refine wl (ro_loadAggB rfl ag_119 (by assumption) rfl rfl) ?_
      refine wl_call rfl en_53 (find53 (hM.farN hF0) hh) ?_
      rintro _ w6 ⟨rfl, F6⟩
      replace hF := hF.thenDrew.thenN F6
      replace hF0 := hF0.thenDrew.thenN F6
      replace hG := hG.thenDrew.thenN F6
      replace hX := F6.blkN hX
      replace hO := F6.blkN hO
      replace h6 := F6.blkN h6
      replace h7 := F6.blkN h7
      refine wl (ro_assign rfl) ?_
      refine wl_nil (x_then (hK15 _ _ ?_))
      clear hK15 K15
      refine c_seq (fun K16 hK16 => ?_)
      refine c_seq (fun K17 hK17 => ?_)
      refine c_reg ?_ -- region 13 tablem.go:95
      refine wl (ro_move rfl) ?_
      refine wl (ro_cmp rfl rfl rfl) ?_
      refine wl_nil (x_then (hK17 _ _ ?_))
      clear hK17 K17
      refine wc_cond rfl (fun hc47 => ?_) (fun hc47 => ?_)
      · try simp only [decide_eq_true_eq, decide_eq_false_iff_not, Bool.not_eq_true', Bool.not_eq_false', Bool.not_eq_eq_eq_not, Bool.not_true, Bool.not_false, beq_iff_eq, bne_iff_ne, ne_eq, beq_eq_false_iff_ne, bne_eq_false_iff_eq, gt_iff_lt, ge_iff_le, Int.not_lt, Int.not_le] at hc47
        obtain ⟨i, p, hp0, hp1, hp2⟩ := plc_pos hc47
        obtain ⟨g, l, rfl, hRB, e1, e2, q1, q2, q3, q4, q5, q6⟩ := ho.elem hp2
        have hgl := hRB.lt
        have hgtb : g ≠ tb := ow_ne q5 hM.tag (by omega)
        have hgg0 : g ≠ g0 := ow_ne q5 hg0 (by omega)
        replace hRB := hF0.blkN hRB
        have hmg : tg ow (mth h) g := .inr (.inr q5)
        have hmg2 : tg ow (mtr h) g := q5
        refine c_seq (fun K18 hK18 => ?_)
        refine c_piL 11 [(0, false), (1, false), (2, false), (3, false), (4, false), (5, false), (6, false), (7, false), (8, false), (9, false), (10, false)] (SameH _) mixed (by kernel_rfl) rfl (by kernel_rfl) (po_then (po_then (po_bp))) (sameH_now _ _) ?_ -- region 14 tablem.go:96
        refine ql_ro rfl (fun w hS => ro_move rfl) ?_
        refine ql_ro rfl (fun w hS => ro_nilCheck rfl) ?_
        refine ql_ro rfl (fun w hS => ro_fieldAddr (k := 1) rfl fo_99_1) ?_
        refine ql_ro rfl (fun w hS => ro_loadB rfl sc_97 (Blk.of_heap (by assumption) hS) rfl) ?_
        refine ql_ro rfl (fun w hS => ro_move rfl) ?_
        refine ql_ro rfl (fun w hS => ro_indexAddr (et := 155) (k := 1) rfl rfl se_97 rfl (by omega)) ?_
        refine ql_ro rfl (fun w hS => ro_loadB rfl sc_155 (Blk.of_heap hO hS) (hrow)) ?_
        refine ql_ro rfl (fun w hS => ro_move rfl) ?_
        refine ql_ro rfl (fun w hS => ro_loadAggB rfl ag_119 (Blk.of_heap (by assumption) hS) rfl rfl) ?_
        refine ql_ro rfl (fun w hS => ro_indexAddr (et := 154) (k := 6) rfl rfl se_155 (hp1) ((by omega))) ?_
        refine ql_ro rfl (fun w hS => ro_fieldAddr (k := 3) rfl fo_154_1) ?_
        refine ql_puta rfl rfl rfl ((pvc_one _)) sz_119 (rfl) hRB ((by omega)) (rfl) (fun w7 hRB F7 => ?_)
        replace hF := hF.thenDrew.thenO F7 (by first | exact .inr (by omega) | exact .inl rfl | exact .inl (by assumption) | assumption)
        replace hG := hG.thenDrew.thenO F7 (by first | exact .inr (by omega) | exact .inl rfl | exact .inl (by assumption) | assumption)
        replace hX := F7.blkO hX (by omega)
        replace hO := F7.blkO hO (by omega)
        replace h6 := F7.blkO h6 (by omega)
        replace h7 := F7.blkO h7 (by omega)
        refine x_then (hK18 _ _ ?_)
        clear hK18 K18
        refine forget [] trivial (fun e => ?_)
        refine c_seq (fun K19 hK19 => ?_)
        refine c_reg ?_ -- region 15 tablem.go:97
        refine wl (ro_assign rfl) ?_
        refine wl_nil (x_then (hK19 _ _ ?_))
        clear hK19 K19
        refine c_ret (x_thenR ?_)
        refine bp_ret Tryz.results31 rfl ?_
        refine ⟨by rw [tSet_T (by omega) hc41, hp0]; rfl, ow, Xt.refl _ _, ?_, hFm hF⟩
        have hi6 : 0 + i * 6 + 3 = i * 6 + 3 := by omega
        rw [hi6] at hRB
        have hv' := OwT.put (x' := (nrmK k, v)) enc_len hRB q2 q6 q3 q4 q5 rfl hp2 rfl (by omega) (enc_val (nrmK k, p) v)
        have hts : (tSet t k v).2 = t.set i (nrmK k, v) := by rw [tSet_T (by omega) hc41, hp0]; exact modify_set hp2
        obtain ⟨v0, hv0, hv1⟩ := hR h t hh
        have hrows : rows[h]? = some (.slice (some ⟨g, 0, none⟩) t.length cap) := by
          rcases hV.o.2 with ⟨c1, c2⟩ | ⟨g', cap', l1, c1, c2, c3, c4, c5, c6⟩
          · cases c1
          · cases c1
            obtain ⟨rfl, _⟩ := Blk.uniq c2 hO0
            have := own_get (v := v0) c6 hv0
            simp only [Nat.zero_add, Nat.mul_one] at hrow
            rw [this] at hrow
            cases hrow
            exact hv0
        refine MTV.turned (G := tg ow (mth h)) hM hX (rows := rows) (v := .slice (some ⟨g, 0, none⟩) t.length cap) ?_ hR hh ?_ hF (fun b q _ => q) (Xt.refl _ _) hok hXl
        · rw [set_self' hrows]
          exact hV.far hG (fun b hb _ q => by have q : ow b = 100 + h := q; omega) (Xt.refl _ _)
        · rw [hts, List.length_set]; exact hv'
      · try simp only [decide_eq_true_eq, decide_eq_false_iff_not, Bool.not_eq_true', Bool.not_eq_false', Bool.not_eq_eq_eq_not, Bool.not_true, Bool.not_false, beq_iff_eq, bne_iff_ne, ne_eq, beq_eq_false_iff_ne, bne_eq_false_iff_eq, gt_iff_lt, ge_iff_le, Int.not_lt, Int.not_le] at hc47
        have hp := plc_neg hc47
        refine c_skip (x_then (hK16 _ _ ?_))
        clear hK16 K16
        refine c_seq (fun K20 hK20 => ?_)
        refine c_seq (fun K21 hK21 => ?_)
        refine c_reg ?_ -- region 16 tablem.go:99
        refine wl (ro_fieldAddr (k := 0) rfl fo_119_0) ?_
        refine wl (ro_loadB rfl sc_3 (by assumption) rfl) ?_
        refine wl (ro_cmp rfl rfl rfl) ?_
        refine wl_nil (x_then (hK21 _ _ ?_))
        clear hK21 K21
        refine wc_cond rfl (fun hc61 => ?_) (fun hc61 => ?_)
        · try simp only [decide_eq_true_eq, decide_eq_false_iff_not, Bool.not_eq_true', Bool.not_eq_false', Bool.not_eq_eq_eq_not, Bool.not_true, Bool.not_false, beq_iff_eq, bne_iff_ne, ne_eq, beq_eq_false_iff_ne, bne_eq_false_iff_eq, gt_iff_lt, ge_iff_le, Int.not_lt, Int.not_le] at hc61
          refine c_seq (fun K22 hK22 => ?_)
          refine c_reg ?_ -- region 17 tablem.go:100
          refine wl (ro_assign rfl) ?_
          refine wl_nil (x_then (hK22 _ _ ?_))
          clear hK22 K22
          refine c_ret (x_thenR ?_)
          refine bp_ret Tryz.results31 rfl ?_
          exact ⟨by rw [tSet_T (by omega) hc41, hp]; simp only; rw [if_pos (by omega)]; rfl, hsame hF0 (by rw [tSet_T (by omega) hc41, hp]; simp only; rw [if_pos (by omega)])⟩
        · try simp only [decide_eq_true_eq, decide_eq_false_iff_not, Bool.not_eq_true', Bool.not_eq_false', Bool.not_eq_eq_eq_not, Bool.not_true, Bool.not_false, beq_iff_eq, bne_iff_ne, ne_eq, beq_eq_false_iff_ne, bne_eq_false_iff_eq, gt_iff_lt, ge_iff_le, Int.not_lt, Int.not_le] at hc61
          refine c_skip (x_then (hK20 _ _ ?_))
          clear hK20 K20
          refine c_seq (fun K23 hK23 => ?_)
          refine c_seq (fun K24 hK24 => ?_)
          refine c_reg ?_ -- region 18 tablem.go:102
          refine wl (ro_move rfl) ?_
          refine wl (ro_nilCheck rfl) ?_
          refine wl (ro_fieldAddr (k := 1) rfl fo_99_1) ?_
          refine wl (ro_loadB rfl sc_97 (by assumption) rfl) ?_
          refine wl (ro_move rfl) ?_
          refine wl (ro_indexAddr (et := 155) (k := 1) rfl rfl se_97 rfl (by omega)) ?_
          refine wl (ro_loadB rfl sc_155 (hO) (hrow)) ?_
          refine wl (ro_lenL rfl se_155) ?_
          refine wl (ro_cmp rfl rfl rfl) ?_
          refine wl_nil (x_then (hK24 _ _ ?_))
          clear hK24 K24
          refine wc_cond rfl (fun hc70 => ?_) (fun hc70 => ?_)
          · try simp only [decide_eq_true_eq, decide_eq_false_iff_not, Bool.not_eq_true', Bool.not_eq_false', Bool.not_eq_eq_eq_not, Bool.not_true, Bool.not_false, beq_iff_eq, bne_iff_ne, ne_eq, beq_eq_false_iff_ne, bne_eq_false_iff_eq, gt_iff_lt, ge_iff_le, Int.not_lt, Int.not_le] at hc70
            refine c_seq (fun K25 hK25 => ?_)
            refine c_reg ?_ -- region 19 tablem.go:103
            refine wl (ro_assign rfl) ?_
            refine wl_nil (x_then (hK25 _ _ ?_))
            clear hK25 K25
            refine c_ret (x_thenR ?_)
            refine bp_ret Tryz.results31 rfl ?_
            exact ⟨by rw [tSet_T (by omega) hc41, hp]; simp only; rw [if_neg (by omega), if_pos (by omega)]; rfl, hsame hF0 (by rw [tSet_T (by omega) hc41, hp]; simp only; rw [if_neg (by omega), if_pos (by omega)])⟩
          · try simp only [decide_eq_true_eq, decide_eq_false_iff_not, Bool.not_eq_true', Bool.not_eq_false', Bool.not_eq_eq_eq_not, Bool.not_true, Bool.not_false, beq_iff_eq, bne_iff_ne, ne_eq, beq_eq_false_iff_ne, bne_eq_false_iff_eq, gt_iff_lt, ge_iff_le, Int.not_lt, Int.not_le] at hc70
            refine c_skip (x_then (hK23 _ _ ?_))
            clear hK23 K23
            refine forget [(0, _), (1, _), (6, _), (7, _)] ⟨rfl, rfl, rfl, rfl, trivial⟩ (fun e => ?_)
            refine c_seq (fun K26 hK26 => ?_)
            refine c_pi [(0, false), (1, false), (2, false), (3, false), (4, false), (5, false), (6, false), (7, false), (9, false), (8, true), (10, false), (11, true), (12, true), (13, false)] (fun w => Blk w.heap tb [np, .slice (some ⟨g0, 0, none⟩) T.length cap0] 99 ∧ Blk w.heap g0 l0 155 ∧ Blk w.heap b6 (pvc k) 119 ∧ Blk w.heap b7 (pvc v) 119) mixed (by kernel_rfl) rfl (by kernel_rfl) (po_then (po_bp)) (⟨hX, hO, h6, h7⟩) ?_ -- region 20 tablem.go:105
            refine pi_ro rfl (fun w hS => ro_move rfl) ?_
            refine pi_ro rfl (fun w hS => ro_nilCheck rfl) ?_
            refine pi_ro rfl (fun w hS => ro_fieldAddr (k := 1) rfl fo_99_1) ?_
            refine pi_ro rfl (fun w hS => ro_loadB rfl sc_97 (hS.1) rfl) ?_
            refine pi_ro rfl (fun w hS => ro_move rfl) ?_
            refine pi_ro rfl (fun w hS => ro_indexAddr (et := 155) (k := 1) rfl rfl se_97 rfl (by omega)) ?_
            refine pi_ro rfl (fun w hS => ro_loadB rfl sc_155 (hS.2.1) (hrow)) ?_
            refine pi_ro rfl (fun w hS => ro_loadAggB rfl ag_119 (hS.2.2.1) (rfl) (rfl)) ?_
            refine pi_ro rfl (fun w hS => ro_loadAggB rfl ag_119 (hS.2.2.2) (rfl) (rfl)) ?_
            refine pi_call rfl rfl en_54 (norm54) ?_
            rintro _ u1 ⟨rfl, G1⟩
            refine ⟨⟨G1.blkN hX, G1.blkN hO, G1.blkN h6, G1.blkN h7⟩, ?_⟩
            replace hF := hF.transG G1 (by intro k hk h; simp only [one, none'] at h ⊢ <;> omega)
            replace hF0 := hF0.transG G1 (by intro k hk h; simp only [one, none'] at h ⊢ <;> omega)
            replace hG := hG.transG G1 (by intro k hk h; simp only [one, none'] at h ⊢ <;> omega)
            replace hX := G1.blkF hX (by intro h; simp only [one, none'] at h <;> omega)
            replace hO := G1.blkF hO (by intro h; simp only [one, none'] at h <;> omega)
            replace h6 := G1.blkF h6 (by intro h; simp only [one, none'] at h <;> omega)
            replace h7 := G1.blkF h7 (by intro h; simp only [one, none'] at h <;> omega)
            refine pi_ro rfl (fun w hS => ro_build rfl bld_154_0_1) ?_
            refine pi_bsapp (t := 155) (et := 154) (k := 6) (cs := enc (nrmK k, v)) rfl rfl rfl rfl rfl rfl se_155 zx_154 by_154 rfl rfl rfl (enc_one _) (ho.o.fram hF0 (fun _ _ h => h)) (by omega) (by omega) (fun w1 F ↦ ⟨F.blkN hX, F.blkN hO, F.blkN h6, F.blkN h7⟩) (fun w1 F ↦ ⟨F.blkF hX (fun h ↦ by have := ho.t _ h; rw [hM.tag] at this; omega), F.blkF hO (fun h ↦ by have := ho.t _ h; omega), F.blkF h6 (fun h ↦ by have := ho.o.lt h; omega), F.blkF h7 (fun h ↦ by have := ho.o.lt h; omega)⟩) ?_
            intro v' u2 hon G2 hnb
            obtain ⟨a', cap', rfl⟩ := hon.form
            replace hX := G2.blkF hX (fun h ↦ by have := ho.t _ h; rw [hM.tag] at this; omega)
            replace hO := G2.blkF hO (fun h ↦ by have := ho.t _ h; omega)
            have hO2 := hO
            replace hF := hF.trans' G2 (fun k hk q ↦ .inr (.inr (ho.t _ q)))
            replace hG := hG.trans' G2 (fun k hk q ↦ ho.t _ q)
            have hG0 := hG
            have hG1 := G2
            have hmg0 : tg ow (mth h) g0 := .inr (.inl hg0)
            have hg0tb : g0 ≠ tb := ow_ne hg0 hM.tag (by omega)
            skip
            refine pi_ro rfl (fun w hS => ro_assign rfl) ?_
            refine pi_nil (x_then (hK26 _ _ ?_))
            clear hK26 K26
            refine forget [(0, _), (1, _), (13, _)] ⟨rfl, rfl, rfl, trivial⟩ (fun e => ?_)
            refine c_seq (fun K27 hK27 => ?_)
            refine c_reg ?_ -- region 21 tablem.go:106
            refine wl (ro_move rfl) ?_
            refine wl (ro_nilCheck rfl) ?_
            refine wl (ro_fieldAddr (k := 1) rfl fo_99_1) ?_
            refine wl (ro_loadB rfl sc_97 (by assumption) rfl) ?_
            refine wl (ro_move rfl) ?_
            refine wl (ro_move rfl) ?_
            refine wl (ro_indexAddr (et := 155) (k := 1) rfl rfl se_97 rfl (by omega)) ?_
            refine wl_put rfl rfl rfl sz_155 hO ((by omega)) (rfl) (fun w8 hO F8 => ?_)
            replace hF := hF.thenDrew.thenO F8 (by first | exact .inr (by omega) | exact .inl rfl | exact .inl (by assumption) | assumption)
            replace hX := F8.blkO hX (by omega)
            have hG2 := (F8)
            refine wl_nil (x_then (hK27 _ _ ?_))
            clear hK27 K27
            refine forget [] trivial (fun e => ?_)
            refine c_seq (fun K28 hK28 => ?_)
            refine c_reg ?_ -- region 22 tablem.go:107
            refine wl (ro_assign rfl) ?_
            refine wl_nil (x_then (hK28 _ _ ?_))
            clear hK28 K28
            refine c_ret ?_
            refine bp_ret Tryz.results31 rfl ?_
            have hts : (tSet t k v).2 = t ++ [(nrmK k, v)] := by rw [tSet_T (by omega) hc41, hp]; simp only; rw [if_neg (by omega), if_neg (by omega)]
            refine ⟨by rw [tSet_T (by omega) hc41, hp]; simp only; rw [if_neg (by omega), if_neg (by omega)]; rfl, Go.Proofs.Qxb6500568aGreatDoor.nw ow u1.heap.size (100 + h), Xt.nw hF0.size, ?_, hFm hF⟩
            refine MTV.turned (G := tg ow (mth h)) hM hX (rows := rows) (v := .slice a' (t.length + 1) cap') ?_ hR hh ?_ hF (fun b q _ => q) (Xt.nw hF0.size) hok hXl
            · refine OwT.put1 (w := u2) (ow := Go.Proofs.Qxb6500568aGreatDoor.nw ow u1.heap.size (100 + h)) (l0 := l0) ?_ hO2 hO (by rw [nw_old (by have := hF0.size; omega)]; exact hg0)
              exact hV.far hG0 (fun b hb _ q => by have q : ow b = 100 + h := q; omega) (Xt.nw hF0.size)
            · rw [hts, List.length_append, rws_app, rws_one]
              have := (ho.far hF0 (fun _ _ _ h => h) (Xt.refl _ _)).grow hon hnb hG1.size
              exact this.far hG2 (fun b hb hl q => by rw [show b = _ from q, nw_old (by have := hF0.size; omega), hg0] at hb; omega) (Xt.refl _ _)

end Go.Proofs.Qxb6500568aGreatDoor
