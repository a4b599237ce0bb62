import Derived.Test.Qxb6500569aGreatQb
/- The model's search: goals. -/
namespace Go.Proofs.Qxb6500569aGreat
set_option linter.unusedVariables false
set_option linter.unusedSimpArgs false

theorem eo_app0 {P : Program} {n : Nat} {e : Nat → Option Value} {w : World} {t et k m cap c2 : Nat} {base a2 : Option Addr} {x y : Operand} (hx : evO n e x = some (.slice base m cap)) (hy : evO n e y = some (.slice a2 0 c2)) (ht : selB P t et k = true) (hm : m ≤ cap) :
    EO P n e w (.call ⟨.builtin .append, #[x, y], #[t, t]⟩) (.slice base m cap) w := by
  intro ds dst ty ps af g
  obtain ⟨t1, ts⟩ := selB_spec ht
  have h0 : ∀ (a : Addr), (loadCells a 0).run P w = .ok #[] w := fun a => by
    have := run_loadCells_list (P := P) (w := w) a [] (by intro j v h; simp at h)
    simpa using this
  cases a2 with
  | none =>
    cases base with
    | none => simp [execOp, resolve, evO_eval hx, evO_eval hy, invoke, builtin, Builtin.append_, run_underlying t1, run_sizeOf ts, Builtin.lenOf, Builtin.firstCells, hm]
    | some b => simp [execOp, resolve, evO_eval hx, evO_eval hy, invoke, builtin, Builtin.append_, run_underlying t1, run_sizeOf ts, Builtin.lenOf, Builtin.firstCells, hm, storeCells]
  | some a =>
    cases base with
    | none => simp [execOp, resolve, evO_eval hx, evO_eval hy, invoke, builtin, Builtin.append_, run_underlying t1, run_sizeOf ts, Builtin.lenOf, Builtin.firstCells, hm, h0]
    | some b => simp [execOp, resolve, evO_eval hx, evO_eval hy, invoke, builtin, Builtin.append_, run_underlying t1, run_sizeOf ts, Builtin.lenOf, Builtin.firstCells, hm, h0, storeCells]

/-- A goal of the model: its address, its call's number, the calls below that had clauses left. -/
abbrev Gl := Nat × Nat × Nat
def gc (g : Gl) : List Value := [i64c g.1, i64c g.2.1, i64c g.2.2]

/-- A row of goals that is only read. -/
def GSl (H : Array Obj) (v : Value) (gs : List Gl) : Prop :=
  (gs = [] ∧ ∃ a c, v = .slice a 0 c) ∨ (∃ b o c l, v = .slice (some ⟨b, o, none⟩) gs.length c ∧ gs.length ≤ c ∧ Blk H b l 127 ∧ (l.drop o).take (gs.length * 3) = gs.flatMap gc)

theorem gcs_len (gs : List Gl) : (gs.flatMap gc).length = gs.length * 3 := by
  induction gs with
  | nil => rfl
  | cons g gs ih => simp [gc, ih]; omega

theorem GSl.fram {F : Nat → Prop} {w w' : World} {v : Value} {gs : List Gl} (h : GSl w.heap v gs) (hf : Fram F w w') (hn : ∀ b, F b → ∀ l, ¬ Blk w.heap b l 127) : GSl w'.heap v gs := by
  rcases h with h | ⟨b, o, c, l, h1, h2, h3, h4⟩
  · exact .inl h
  · exact .inr ⟨b, o, c, l, h1, h2, h3.fram hf (fun hF => hn b hF l h3), h4⟩

theorem GSl.none {w w' : World} {v : Value} {gs : List Gl} (h : GSl w.heap v gs) (hf : Fram none' w w') : GSl w'.heap v gs := h.fram hf (fun _ h => h.elim)

/-- The goals of a node, from an argument on. -/
def kidsS (hp : List Nd) (root frm lvl left : Nat) : List Gl := ((List.range' frm (4 - frm)).filterMap (fun j => argOf hp root j)).map (fun a => (a, lvl, left))

theorem Own.gsl {H : Array Obj} {v : Value} {gs : List Gl} (h : Own H v 127 3 gs.length (gs.flatMap gc)) : GSl H v gs := by
  rcases h.2 with ⟨h1, h2⟩ | ⟨g, cap, l, h1, h2, h3, h4, h5, h6⟩
  · exact .inl ⟨List.eq_nil_of_length_eq_zero h2, none, 0, h1⟩
  · exact .inr ⟨g, 0, cap, l, h1, h3, h2, by simpa using h6⟩

def kidsT (hp : List Nd) (root frm j lvl left : Nat) : List Gl := ((List.range' frm (j - frm)).filterMap (fun j => argOf hp root j)).map (fun a => (a, lvl, left))

theorem kidsT_step (hp : List Nd) (root frm j lvl left : Nat) (h : frm ≤ j) : kidsT hp root frm (j + 1) lvl left = kidsT hp root frm j lvl left ++ (match argOf hp root j with | some a => [(a, lvl, left)] | none => []) := by
  unfold kidsT
  rw [show j + 1 - frm = (j - frm) + 1 by omega, List.range'_concat]
  simp only [Nat.one_mul, List.filterMap_append, List.map_append]
  rw [show frm + (j - frm) = j by omega]
  congr 1
  cases ho : argOf hp root j <;> simp [ho]

theorem kidsT_len (hp : List Nd) (root frm j lvl left : Nat) : (kidsT hp root frm j lvl left).length ≤ j := by
  unfold kidsT
  have := List.length_filterMap_le (fun j => argOf hp root j) (List.range' frm (j - frm))
  simp at this ⊢
  omega

theorem gcs_one (gs : List Gl) : ∀ u ∈ gs.flatMap gc, u.oneCell' = true := by
  intro u hu
  obtain ⟨g, _, h⟩ := List.mem_flatMap.1 hu
  simp only [gc, List.mem_cons, List.not_mem_nil, or_false] at h
  rcases h with rfl | rfl | rfl <;> rfl

theorem kids36 {w : World} {hb : Nat} {VH : Value} {hp : List Nd} (M : MH w.heap hb VH hp) (hok : HOK hp) {root frm lvl left : Nat} (hr : root < hp.length) (hf : frm ≤ 4) {v : Value} {rest : List Gl} (hG : GSl w.heap v rest) (hrl : rest.length ≤ 10000) :
    Ret Tryz.prog 36 [ptr hb, i64c root, i64c frm, i64c lvl, i64c left, v] w (fun r w' => GSl w'.heap r (kidsS hp root frm lvl left ++ rest) ∧ Fram none' w w') := by
  have h64 := hok.cap
  obtain ⟨av, lv, cv, rfl⟩ : ∃ a n c, v = .slice a n c := by
    rcases hG with ⟨_, a, c, rfl⟩ | ⟨b, o, c, l, rfl, _⟩ <;> exact ⟨_, _, _, rfl⟩
  refine ret_of Tryz.func36 rfl Tryz.ntmps36 rfl ?_
  refine c_seq (fun K1 hK1 => ?_)
  refine c_reg ?_ -- region 0 solvem.go:55
  refine wl (ro_assign rfl) ?_
  refine wl_nil (x_then (hK1 _ _ ?_))
  clear hK1 K1
  refine forget [(0, _), (1, _), (2, _), (3, _), (4, _), (5, _)] ⟨rfl, rfl, rfl, rfl, rfl, rfl, trivial⟩ (fun e => ?_)
  refine c_seq (fun K2 hK2 => ?_)
  refine c_reg ?_ -- region 1 solvem.go:56
  refine wl (ro_assign rfl) ?_
  refine wl_nil (x_then (hK2 _ _ ?_))
  clear hK2 K2
  refine c_seq (fun K3 hK3 => ?_)
  refine c_seq (fun K4 hK4 => ?_)
  refine c_reg ?_ -- region 2 solvem.go:57
  refine wl (ro_move rfl) ?_
  refine wl (ro_assign rfl) ?_
  refine wl_nil (x_then (hK4 _ _ ?_))
  clear hK4 K4
  refine c_block ?_
  -- loop@r3: live slots [0, 1, 3, 4, 5, 13, 14]
  refine c_loopG (fun m a' w' => ∃ j V, m = 4 - j ∧ frm ≤ j ∧ j ≤ 4 ∧ Own w'.heap V 127 3 (kidsT hp root frm j lvl left).length ((kidsT hp root frm j lvl left).flatMap gc) ∧ (∀ b, V.ownBlock = some b → w.heap.size ≤ b) ∧ Fram none' w w' ∧ ∃ e, a' = Fr 37 (upds e [(0, ptr hb), (1, i64c root), (3, i64c lvl), (4, i64c left), (5, .slice av lv cv), (13, V), (14, i64c j)]) []) (4 - frm) ⟨frm, _, rfl, Nat.le_refl _, hf, (by have : kidsT hp root frm frm lvl left = [] := by { unfold kidsT; simp }; rw [this]; exact Own.nil _ _ _), (fun b h => by cases h), Fram.refl _ _, kp _ ⟨rfl, rfl, rfl, rfl, rfl, rfl, rfl, trivial⟩⟩ ?_
  rintro m a' w1 ⟨j, V, rfl, hj1, hj2, hown, hloc, F1, e, rfl⟩
  have M1 := M.none F1
  have hkl := kidsT_len hp root frm j lvl left
  have hst := kidsT_step hp root frm j lvl left hj1
  obtain ⟨a1, cap1, rfl⟩ := hown.form
  refine c_seq (fun K5 hK5 => ?_)
  refine c_seq (fun K6 hK6 => ?_)
  refine c_reg ?_ -- region 3 solvem.go:57
  refine wl (ro_move rfl) ?_
  refine wl (ro_cmp rfl rfl rfl) ?_
  refine wl_nil (x_then (hK6 _ _ ?_))
  clear hK6 K6
  refine wc_cond rfl (fun hc18 => ?_) (fun hc18 => ?_)
  · try simp only [decide_eq_true_eq, decide_eq_false_iff_not, Bool.not_eq_true', Bool.not_eq_false', Bool.not_eq_eq_eq_not, Bool.not_true, Bool.not_false, beq_iff_eq, bne_iff_ne, ne_eq, beq_eq_false_iff_ne, bne_eq_false_iff_eq, gt_iff_lt, ge_iff_le, Int.not_lt, Int.not_le] at hc18
    have hj4 : j < 4 := by omega
    refine c_skip (x_then (hK5 _ _ ?_))
    clear hK5 K5
    refine forget [(0, _), (1, _), (3, _), (4, _), (5, _), (13, _), (14, _)] ⟨rfl, rfl, rfl, rfl, rfl, rfl, rfl, trivial⟩ (fun e => ?_)
    refine c_seq (fun K7 hK7 => ?_)
    refine c_block ?_
    refine c_seq (fun K8 hK8 => ?_)
    refine c_reg ?_ -- region 5 solvem.go:58
    refine wl (ro_move rfl) ?_
    refine wl (ro_move rfl) ?_
    refine wl (ro_move rfl) ?_
    refine wl_call rfl en_62 (Arg62 M1 hok.wf hr h64 j (by omega)) ?_
    rintro _ w1 ⟨rfl, rfl⟩
    obtain ⟨o, ho⟩ : ∃ o, o = argOf hp root j := ⟨_, rfl⟩
    rw [← ho] at hst ⊢
    refine wl (ro_assign rfl) ?_
    refine wl_nil (x_then (hK8 _ _ ?_))
    clear hK8 K8
    refine forget [(0, _), (1, _), (3, _), (4, _), (5, _), (13, _), (14, _), (15, _)] ⟨rfl, rfl, rfl, rfl, rfl, rfl, rfl, rfl, trivial⟩ (fun e => ?_)
    refine c_seq (fun K9 hK9 => ?_)
    refine c_reg ?_ -- region 6 solvem.go:59
    refine wl (ro_move rfl) ?_
    refine wl (ro_cmp (r := o.isSome) rfl rfl (by cases o with | none => rfl | some q => exact congrArg some (decide_eq_true (by simp [optI])))) ?_
    refine wl_nil (x_then (hK9 _ _ ?_))
    clear hK9 K9
    refine wc_cond rfl (fun hc26 => ?_) (fun hc26 => ?_)
    · try simp only [decide_eq_true_eq, decide_eq_false_iff_not, Bool.not_eq_true', Bool.not_eq_false', Bool.not_eq_eq_eq_not, Bool.not_true, Bool.not_false, beq_iff_eq, bne_iff_ne, ne_eq, beq_eq_false_iff_ne, bne_eq_false_iff_eq, gt_iff_lt, ge_iff_le, Int.not_lt, Int.not_le] at hc26
      obtain ⟨q, rfl⟩ : ∃ q, o = some q := by cases o with | none => cases hc26 | some q => exact ⟨q, rfl⟩
      refine c_reg ?_ -- region 7 solvem.go:60
      refine wl (ro_move rfl) ?_
      refine wl (ro_move rfl) ?_
      refine wl (ro_move rfl) ?_
      refine wl (ro_move rfl) ?_
      refine wl (ro_build rfl bld_127_0_1_2) ?_
      refine wle (eo_bs1 rfl rfl se_90 zx_127 rfl rfl rfl) ?_
      have hN := Blk.new w1 [i64c q, i64c lvl, i64c left] 127
      have hown2 := hown.alloc (.cells [i64c q, i64c lvl, i64c left].toArray 127)
      refine wl_app (news := [i64c q, i64c lvl, i64c left]) rfl rfl se_90 zx_127 by_127 rfl hown2 hN rfl rfl (by simp [i64c, Value.oneCell']) (by omega) (by omega) ?_
      intro V3 w3 hown3 hgr hlo
      refine wl (ro_assign rfl) ?_
      refine wl_nil (x_blk (x_then (hK7 _ _ ?_)))
      clear hK7 K7
      refine c_reg ?_ -- region 4 solvem.go:57
      refine wl (ro_move rfl) ?_
      refine wl (ro_arith rfl rfl rfl (Go.IntWalk.i64_in _ (by omega))) ?_
      refine wl (ro_assign rfl) ?_
      refine wl_nil (x_then ?_)
      refine ⟨4 - (j + 1), by omega, j + 1, V3, rfl, by omega, by omega, ?_, ?_, F1.thenAlloc.thenGrown hgr (fun b hb' => .inr (hloc b hb')), kp _ ⟨rfl, rfl, rfl, rfl, rfl, rfl, rfl, trivial⟩⟩
      · rw [hst]
        simpa [gc] using hown3
      · intro b hb'
        rcases hlo with h | h
        · rw [h] at hb'; exact hloc b hb'
        · rw [h] at hb'; cases hb'; have := F1.size; simp; omega
    · try simp only [decide_eq_true_eq, decide_eq_false_iff_not, Bool.not_eq_true', Bool.not_eq_false', Bool.not_eq_eq_eq_not, Bool.not_true, Bool.not_false, beq_iff_eq, bne_iff_ne, ne_eq, beq_eq_false_iff_ne, bne_eq_false_iff_eq, gt_iff_lt, ge_iff_le, Int.not_lt, Int.not_le] at hc26
      obtain rfl : o = none := by cases o with | none => rfl | some q => cases hc26
      refine c_skip (x_blk (x_then (hK7 _ _ ?_)))
      clear hK7 K7
      refine c_reg ?_ -- region 4 solvem.go:57
      refine wl (ro_move rfl) ?_
      refine wl (ro_arith rfl rfl rfl (Go.IntWalk.i64_in _ (by omega))) ?_
      refine wl (ro_assign rfl) ?_
      refine wl_nil (x_then ?_)
      refine ⟨4 - (j + 1), by omega, j + 1, _, rfl, by omega, by omega, ?_, hloc, F1, kp _ ⟨rfl, rfl, rfl, rfl, rfl, rfl, rfl, trivial⟩⟩
      rw [hst]
      simpa using hown
  · try simp only [decide_eq_true_eq, decide_eq_false_iff_not, Bool.not_eq_true', Bool.not_eq_false', Bool.not_eq_eq_eq_not, Bool.not_true, Bool.not_false, beq_iff_eq, bne_iff_ne, ne_eq, beq_eq_false_iff_ne, bne_eq_false_iff_eq, gt_iff_lt, ge_iff_le, Int.not_lt, Int.not_le] at hc18
    have hj4 : j = 4 := by omega
    subst hj4
    have hkc : (kidsT hp root frm 4 lvl left).length ≤ cap1 := by
      rcases hown.2 with ⟨h1, h2⟩ | ⟨g, cap, l, h1, h2, h3, _⟩
      · omega
      · injection h1 with _ _ h; omega
    have hks : kidsT hp root frm 4 lvl left = kidsS hp root frm lvl left := rfl
    rw [hks] at hown hkl
    have hG1 := hG.none F1
    refine c_exit (x_thenX (x_thenX (x_blkX (x_then (hK3 _ _ ?_)))))
    clear hK5 K5 hK3 K3
    refine forget [(5, _), (13, _)] ⟨rfl, rfl, trivial⟩ (fun e => ?_)
    refine c_seq (fun K10 hK10 => ?_)
    rcases hG1 with ⟨rfl, a, c, hv⟩ | ⟨b, o, c, l, hv, hlc, hBl, hl2⟩
    · skip
      cases hv
      refine c_reg ?_ -- region 8 solvem.go:63
      refine wl (ro_move rfl) ?_
      refine wl (ro_move rfl) ?_
      refine wle (eo_app0 rfl rfl se_90 hkc) ?_
      skip
      refine wl (ro_assign rfl) ?_
      refine wl_nil (x_then (hK10 _ _ ?_))
      clear hK10 K10
      refine c_ret ?_
      refine bp_ret Tryz.results36 rfl ?_
      refine ⟨?_, F1⟩
      rw [List.append_nil]
      exact hown.gsl
    · skip
      cases hv
      refine c_reg ?_ -- region 8 solvem.go:63
      refine wl (ro_move rfl) ?_
      refine wl (ro_move rfl) ?_
      refine wl_app (news := rest.flatMap gc) rfl rfl se_90 zx_127 by_127 rfl hown hBl hl2 (gcs_len rest) (gcs_one rest) (by omega) (by omega) ?_
      intro V3 w3 hown3 hgr hlo
      refine wl (ro_assign rfl) ?_
      refine wl_nil (x_then (hK10 _ _ ?_))
      clear hK10 K10
      refine c_ret ?_
      refine bp_ret Tryz.results36 rfl ?_
      refine ⟨?_, F1.thenGrown hgr (fun b hb' => .inr (hloc b hb'))⟩
      have : Own w3.heap V3 127 3 (kidsS hp root frm lvl left ++ rest).length ((kidsS hp root frm lvl left ++ rest).flatMap gc) := by simpa using hown3
      exact this.gsl

end Go.Proofs.Qxb6500569aGreat
