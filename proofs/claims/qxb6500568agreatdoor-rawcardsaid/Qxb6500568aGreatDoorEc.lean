import Derived.Test.Qxb6500568aGreatDoorEb
/- The program's package variables; keywords and signs. Ranges over a string. -/
namespace Go.Proofs.Qxb6500568aGreatDoor
open Ieee
set_option linter.unusedVariables false
set_option linter.unusedSimpArgs false

/-- A package variable that holds a list of rows of k cells. -/
structure GS (w : World) (ow : Nat → Nat) (g n k : Nat) (rows : List (List Value)) : Prop where
  ex : ∃ b o cap, w.cell? ⟨g, 0, none⟩ = some (.slice (some ⟨b, o, none⟩) n cap) ∧ (∀ (i : Nat) r, rows[i]? = some r → ∀ (j : Nat) v, r[j]? = some v → w.cell? ⟨b, o + i * k + j, none⟩ = some v) ∧ g < w.heap.size ∧ b < w.heap.size ∧ ow g = 9 ∧ ow b = 9
  len : rows.length = n
theorem cell_fram {w w' : World} {G : Nat → Prop} {a : Addr} (f : Fram G w w') (hl : a.block < w.heap.size) (hn : ¬ G a.block) : w'.cell? a = w.cell? a := World.cell?_of_block (f.block _ hl hn)
theorem GS.far {w w' : World} {ow ow' : Nat → Nat} {g n k : Nat} {rows : List (List Value)} {G : Nat → Prop} (h : GS w ow g n k rows) (f : Fram G w w') (hn : ∀ b, ow b = 9 → b < w.heap.size → ¬ G b) (hE : Xt w ow ow') : GS w' ow' g n k rows := by
  obtain ⟨b, o, cap, h1, h2, h3, h4, h5, h6⟩ := h.ex
  refine ⟨⟨b, o, cap, ?_, fun i r hr j v hv => ?_, Nat.lt_of_lt_of_le h3 f.size, Nat.lt_of_lt_of_le h4 f.size, by rw [hE g h3]; exact h5, by rw [hE b h4]; exact h6⟩, h.len⟩
  · rw [cell_fram f h3 (hn g h5 h3)]; exact h1
  · rw [cell_fram f h4 (hn b h6 h4)]; exact h2 i r hr j v hv
def bndL : List (List Value) := [[i64c 1, i64c 25, u64c 0], [i64c 2, i64c 24, u64c 0], [i64c 3, i64c 22, u64c 11], [i64c 3, i64c 22, u64c 12], [i64c 3, i64c 22, u64c 13], [i64c 3, i64c 22, u64c 14], [i64c 3, i64c 22, u64c 15], [i64c 3, i64c 22, u64c 16], [i64c 4, i64c 22, u64c 20], [i64c 5, i64c 22, u64c 1], [i64c 5, i64c 22, u64c 2], [i64c 6, i64c 22, u64c 3], [i64c 6, i64c 22, u64c 4], [i64c 6, i64c 22, u64c 5], [i64c 6, i64c 22, u64c 6]]
/-- The package variables. -/
structure GV (w : World) (ow : Nat → Nat) : Prop where
  kw : GS w ow 0 19 1 (kwL.map fun x => [S x])
  sg : GS w ow 1 23 1 (sgL.map fun x => [S x])
  bi : GS w ow 3 15 3 bndL
theorem GV.far {w w' : World} {ow ow' : Nat → Nat} {G : Nat → Prop} (h : GV w ow) (f : Fram G w w') (hn : ∀ b, ow b = 9 → b < w.heap.size → ¬ G b) (hE : Xt w ow ow') : GV w' ow' := ⟨h.kw.far f hn hE, h.sg.far f hn hE, h.bi.far f hn hE⟩
theorem GV.farN {w w' : World} {ow : Nat → Nat} (h : GV w ow) (f : Fram none' w w') : GV w' ow := h.far f (fun _ _ _ h => h) (Xt.refl _ _)

theorem posP_no {α : Type} {p : α → Bool} : ∀ {l : List α}, (∀ x ∈ l, p x = false) → posP p l = none
  | [], _ => rfl
  | x :: l, h => by
    unfold posP
    rw [if_neg (by simp [h x (by simp)]), posP_no (fun y hy => h y (by simp [hy]))]
    rfl
theorem posP_yes {α : Type} {p : α → Bool} : ∀ {l : List α} {i : Nat} {x : α}, l[i]? = some x → p x = true → (∀ j y, j < i → l[j]? = some y → p y = false) → posP p l = some i
  | x :: l, 0, y, h, hp, _ => by simp at h; subst h; unfold posP; rw [if_pos hp]
  | x :: l, i + 1, y, h, hp, hn => by
    unfold posP
    rw [if_neg (by simp [hn 0 x (by omega) rfl]), posP_yes (l := l) (i := i) (by simpa using h) hp (fun j z hj hz => hn (j + 1) z (by omega) (by simpa using hz))]
    rfl
theorem keyword130 {w : World} {ow : Nat → Nat} {s : Str} (hG : GV w ow) : Ret Tryz.prog 130 [S s] w (fun v w' => v = i64c (match posS s kwL with | some i => 5 + i | none => 2) ∧ w' = w) := by
  obtain ⟨b, o, cap, g1, g2, g3, g4, g5, g6⟩ := hG.kw.ex
  refine ret_of Tryz.func130 rfl Tryz.ntmps130 rfl ?_
  refine c_seq (fun K1 hK1 => ?_)
  refine c_reg ?_ -- region 0 token.go:73
  refine wl (ro_assign rfl) ?_
  refine wl_nil (x_then (hK1 _ _ ?_))
  clear hK1 K1
  refine c_seq (fun K2 hK2 => ?_)
  refine c_seq (fun K3 hK3 => ?_)
  refine c_reg ?_ -- region 1 token.go:74
  refine wl (ro_load (a := ⟨0, 0, none⟩) rfl sc_192 g1) ?_
  refine wl (ro_lenL rfl se_192) ?_
  refine wl (ro_move rfl) ?_
  refine wl_nil (x_then (hK3 _ _ ?_))
  clear hK3 K3
  refine c_block ?_
  -- loop@r2: live slots [0, 5, 6, 7]
  refine c_loopG (fun n a' w' => ∃ i, n = 19 - i ∧ i ≤ 19 ∧ (∀ j y, j < i → kwL[j]? = some y → y ≠ s) ∧ w' = w ∧ ∃ e, a' = Fr 18 (upds e [(0, S s), (5, .slice (some ⟨b, o, none⟩) 19 cap), (6, i64c 19), (7, i64c i)]) []) 19 ⟨0, rfl, by omega, fun j y hj => by omega, rfl, kp _ ⟨rfl, rfl, rfl, rfl, trivial⟩⟩ ?_
  rintro n a' u1 ⟨i, rfl, hi, hno, rfl, e, rfl⟩
  refine c_seq (fun K4 hK4 => ?_)
  refine c_reg ?_ -- region 2 token.go:74
  refine wl (ro_cmp rfl rfl rfl) ?_
  refine wl_nil (x_then (hK4 _ _ ?_))
  clear hK4 K4
  refine forget [(0, _), (5, _), (6, _), (7, _), (8, _)] ⟨rfl, rfl, rfl, rfl, rfl, trivial⟩ (fun e => ?_)
  refine c_seq (fun K5 hK5 => ?_)
  refine wc_cond rfl (fun hc8 => ?_) (fun hc8 => ?_)
  · try simp only [decide_eq_true_eq, decide_eq_false_iff_not, Bool.not_eq_true', Bool.not_eq_false', Bool.not_eq_eq_eq_not, Bool.not_true, Bool.not_false, beq_iff_eq, bne_iff_ne, ne_eq, beq_eq_false_iff_ne, bne_eq_false_iff_eq, gt_iff_lt, ge_iff_le, Int.not_lt, Int.not_le] at hc8
    obtain ⟨x, hx⟩ : ∃ x, kwL[i]? = some x := ⟨_, List.getElem?_eq_getElem (by show i < 19; omega)⟩
    have hcx := g2 i [S x] (by rw [List.getElem?_map, hx]; rfl) 0 (S x) rfl
    refine c_skip (x_then (hK5 _ _ ?_))
    clear hK5 K5
    refine forget [(0, _), (5, _), (6, _), (7, _)] ⟨rfl, rfl, rfl, rfl, trivial⟩ (fun e => ?_)
    refine c_seq (fun K6 hK6 => ?_)
    refine c_block ?_
    refine c_seq (fun K7 hK7 => ?_)
    refine c_reg ?_ -- region 3 token.go:74
    refine wl (ro_move rfl) ?_
    refine wl (ro_indexAddr (et := 9) (k := 1) rfl rfl se_192 rfl (by omega)) ?_
    refine wl (ro_load (a := ⟨b, o + i * 1 + 0, none⟩) rfl sc_9 hcx) ?_
    refine wl (ro_assign rfl) ?_
    refine wl (ro_assign rfl) ?_
    refine wl_nil (x_then (hK7 _ _ ?_))
    clear hK7 K7
    refine forget [(0, _), (3, _), (4, _), (5, _), (6, _), (7, _)] ⟨rfl, rfl, rfl, rfl, rfl, rfl, trivial⟩ (fun e => ?_)
    refine c_seq (fun K8 hK8 => ?_)
    refine c_reg ?_ -- region 4 token.go:75
    refine wl (ro_move rfl) ?_
    refine wl (ro_move rfl) ?_
    refine wl (ro_eqS rfl rfl rfl) ?_
    refine wl_nil (x_then (hK8 _ _ ?_))
    clear hK8 K8
    refine wc_cond rfl (fun hc14 => ?_) (fun hc14 => ?_)
    · try simp only [decide_eq_true_eq, decide_eq_false_iff_not, Bool.not_eq_true', Bool.not_eq_false', Bool.not_eq_eq_eq_not, Bool.not_true, Bool.not_false, beq_iff_eq, bne_iff_ne, ne_eq, beq_eq_false_iff_ne, bne_eq_false_iff_eq, gt_iff_lt, ge_iff_le, Int.not_lt, Int.not_le] at hc14
      refine c_seq (fun K9 hK9 => ?_)
      refine c_reg ?_ -- region 5 token.go:76
      refine wl (ro_move rfl) ?_
      refine wl (ro_arith rfl rfl rfl (Go.IntWalk.i64_in _ (by omega))) ?_
      refine wl (ro_assign rfl) ?_
      refine wl_nil (x_then (hK9 _ _ ?_))
      clear hK9 K9
      refine c_ret (x_blkR (x_thenR (x_thenR (x_blkR (x_thenR ?_)))))
      refine bp_ret Tryz.results130 rfl ?_
      refine ⟨?_, rfl⟩
      have hxs : x = s := by simpa using hc14
      have : posS s kwL = some i := posP_yes hx (by simp [hxs]) (fun j y hj hy => by simpa using hno j y hj hy)
      rw [this]
      show Value.int .i64 _ = Value.int .i64 _
      congr 1
    · try simp only [decide_eq_true_eq, decide_eq_false_iff_not, Bool.not_eq_true', Bool.not_eq_false', Bool.not_eq_eq_eq_not, Bool.not_true, Bool.not_false, beq_iff_eq, bne_iff_ne, ne_eq, beq_eq_false_iff_ne, bne_eq_false_iff_eq, gt_iff_lt, ge_iff_le, Int.not_lt, Int.not_le] at hc14
      refine c_skip (x_blk (x_then (hK6 _ _ ?_)))
      clear hK6 K6
      refine c_reg ?_ -- region 6 token.go:74
      refine wl (ro_arith rfl rfl rfl (Go.IntWalk.i64_in _ (by omega))) ?_
      refine wl (ro_move rfl) ?_
      refine wl_nil (x_then ?_)
      refine ⟨19 - (i + 1), by omega, i + 1, rfl, by omega, fun j y hj hy => ?_, rfl, kp _ ⟨rfl, rfl, rfl, rfl, trivial⟩⟩
      by_cases hji : j = i
      · subst hji; rw [hx] at hy; cases hy; simpa using hc14
      · exact hno j y (by omega) hy
  · try simp only [decide_eq_true_eq, decide_eq_false_iff_not, Bool.not_eq_true', Bool.not_eq_false', Bool.not_eq_eq_eq_not, Bool.not_true, Bool.not_false, beq_iff_eq, bne_iff_ne, ne_eq, beq_eq_false_iff_ne, bne_eq_false_iff_eq, gt_iff_lt, ge_iff_le, Int.not_lt, Int.not_le] at hc8
    refine c_exit (x_thenX (x_thenX (x_blkX (x_then (hK2 _ _ ?_)))))
    clear hK5 K5 hK2 K2
    refine forget [] trivial (fun e => ?_)
    refine c_seq (fun K10 hK10 => ?_)
    refine c_reg ?_ -- region 7 token.go:79
    refine wl (ro_assign rfl) ?_
    refine wl_nil (x_then (hK10 _ _ ?_))
    clear hK10 K10
    refine c_ret ?_
    refine bp_ret Tryz.results130 rfl ?_
    refine ⟨?_, rfl⟩
    have : posS s kwL = none := posP_no (fun x hx => by
      obtain ⟨j, hj⟩ := List.getElem?_of_mem hx
      have hjl : j < 19 := (List.getElem?_eq_some_iff.1 hj).1
      simpa using hno j x (by omega) hj)
    rw [this]
    rfl

theorem sign133 {w : World} {ow : Nat → Nat} {s : Str} (hG : GV w ow) : Ret Tryz.prog 133 [S s] w (fun v w' => v = i64c (match posS s sgL with | some i => 24 + i | none => 1) ∧ w' = w) := by
  obtain ⟨b, o, cap, g1, g2, g3, g4, g5, g6⟩ := hG.sg.ex
  refine ret_of Tryz.func133 rfl Tryz.ntmps133 rfl ?_
  refine c_seq (fun K1 hK1 => ?_)
  refine c_reg ?_ -- region 0 token.go:83
  refine wl (ro_assign rfl) ?_
  refine wl_nil (x_then (hK1 _ _ ?_))
  clear hK1 K1
  refine c_seq (fun K2 hK2 => ?_)
  refine c_seq (fun K3 hK3 => ?_)
  refine c_reg ?_ -- region 1 token.go:84
  refine wl (ro_load (a := ⟨1, 0, none⟩) rfl sc_192 g1) ?_
  refine wl (ro_lenL rfl se_192) ?_
  refine wl (ro_move rfl) ?_
  refine wl_nil (x_then (hK3 _ _ ?_))
  clear hK3 K3
  refine c_block ?_
  -- loop@r2: live slots [0, 5, 6, 7]
  refine c_loopG (fun n a' w' => ∃ i, n = 23 - i ∧ i ≤ 23 ∧ (∀ j y, j < i → sgL[j]? = some y → y ≠ s) ∧ w' = w ∧ ∃ e, a' = Fr 18 (upds e [(0, S s), (5, .slice (some ⟨b, o, none⟩) 23 cap), (6, i64c 23), (7, i64c i)]) []) 23 ⟨0, rfl, by omega, fun j y hj => by omega, rfl, kp _ ⟨rfl, rfl, rfl, rfl, trivial⟩⟩ ?_
  rintro n a' u1 ⟨i, rfl, hi, hno, rfl, e, rfl⟩
  refine c_seq (fun K4 hK4 => ?_)
  refine c_reg ?_ -- region 2 token.go:84
  refine wl (ro_cmp rfl rfl rfl) ?_
  refine wl_nil (x_then (hK4 _ _ ?_))
  clear hK4 K4
  refine forget [(0, _), (5, _), (6, _), (7, _), (8, _)] ⟨rfl, rfl, rfl, rfl, rfl, trivial⟩ (fun e => ?_)
  refine c_seq (fun K5 hK5 => ?_)
  refine wc_cond rfl (fun hc8 => ?_) (fun hc8 => ?_)
  · try simp only [decide_eq_true_eq, decide_eq_false_iff_not, Bool.not_eq_true', Bool.not_eq_false', Bool.not_eq_eq_eq_not, Bool.not_true, Bool.not_false, beq_iff_eq, bne_iff_ne, ne_eq, beq_eq_false_iff_ne, bne_eq_false_iff_eq, gt_iff_lt, ge_iff_le, Int.not_lt, Int.not_le] at hc8
    obtain ⟨x, hx⟩ : ∃ x, sgL[i]? = some x := ⟨_, List.getElem?_eq_getElem (by show i < 23; omega)⟩
    have hcx := g2 i [S x] (by rw [List.getElem?_map, hx]; rfl) 0 (S x) rfl
    refine c_skip (x_then (hK5 _ _ ?_))
    clear hK5 K5
    refine forget [(0, _), (5, _), (6, _), (7, _)] ⟨rfl, rfl, rfl, rfl, trivial⟩ (fun e => ?_)
    refine c_seq (fun K6 hK6 => ?_)
    refine c_block ?_
    refine c_seq (fun K7 hK7 => ?_)
    refine c_reg ?_ -- region 3 token.go:84
    refine wl (ro_move rfl) ?_
    refine wl (ro_indexAddr (et := 9) (k := 1) rfl rfl se_192 rfl (by omega)) ?_
    refine wl (ro_load (a := ⟨b, o + i * 1 + 0, none⟩) rfl sc_9 hcx) ?_
    refine wl (ro_assign rfl) ?_
    refine wl (ro_assign rfl) ?_
    refine wl_nil (x_then (hK7 _ _ ?_))
    clear hK7 K7
    refine forget [(0, _), (3, _), (4, _), (5, _), (6, _), (7, _)] ⟨rfl, rfl, rfl, rfl, rfl, rfl, trivial⟩ (fun e => ?_)
    refine c_seq (fun K8 hK8 => ?_)
    refine c_reg ?_ -- region 4 token.go:85
    refine wl (ro_move rfl) ?_
    refine wl (ro_move rfl) ?_
    refine wl (ro_eqS rfl rfl rfl) ?_
    refine wl_nil (x_then (hK8 _ _ ?_))
    clear hK8 K8
    refine wc_cond rfl (fun hc14 => ?_) (fun hc14 => ?_)
    · try simp only [decide_eq_true_eq, decide_eq_false_iff_not, Bool.not_eq_true', Bool.not_eq_false', Bool.not_eq_eq_eq_not, Bool.not_true, Bool.not_false, beq_iff_eq, bne_iff_ne, ne_eq, beq_eq_false_iff_ne, bne_eq_false_iff_eq, gt_iff_lt, ge_iff_le, Int.not_lt, Int.not_le] at hc14
      refine c_seq (fun K9 hK9 => ?_)
      refine c_reg ?_ -- region 5 token.go:86
      refine wl (ro_move rfl) ?_
      refine wl (ro_arith rfl rfl rfl (Go.IntWalk.i64_in _ (by omega))) ?_
      refine wl (ro_assign rfl) ?_
      refine wl_nil (x_then (hK9 _ _ ?_))
      clear hK9 K9
      refine c_ret (x_blkR (x_thenR (x_thenR (x_blkR (x_thenR ?_)))))
      refine bp_ret Tryz.results133 rfl ?_
      refine ⟨?_, rfl⟩
      have hxs : x = s := by simpa using hc14
      have : posS s sgL = some i := posP_yes hx (by simp [hxs]) (fun j y hj hy => by simpa using hno j y hj hy)
      rw [this]
      show Value.int .i64 _ = Value.int .i64 _
      congr 1
    · try simp only [decide_eq_true_eq, decide_eq_false_iff_not, Bool.not_eq_true', Bool.not_eq_false', Bool.not_eq_eq_eq_not, Bool.not_true, Bool.not_false, beq_iff_eq, bne_iff_ne, ne_eq, beq_eq_false_iff_ne, bne_eq_false_iff_eq, gt_iff_lt, ge_iff_le, Int.not_lt, Int.not_le] at hc14
      refine c_skip (x_blk (x_then (hK6 _ _ ?_)))
      clear hK6 K6
      refine c_reg ?_ -- region 6 token.go:84
      refine wl (ro_arith rfl rfl rfl (Go.IntWalk.i64_in _ (by omega))) ?_
      refine wl (ro_move rfl) ?_
      refine wl_nil (x_then ?_)
      refine ⟨23 - (i + 1), by omega, i + 1, rfl, by omega, fun j y hj hy => ?_, rfl, kp _ ⟨rfl, rfl, rfl, rfl, trivial⟩⟩
      by_cases hji : j = i
      · subst hji; rw [hx] at hy; cases hy; simpa using hc14
      · exact hno j y (by omega) hy
  · try simp only [decide_eq_true_eq, decide_eq_false_iff_not, Bool.not_eq_true', Bool.not_eq_false', Bool.not_eq_eq_eq_not, Bool.not_true, Bool.not_false, beq_iff_eq, bne_iff_ne, ne_eq, beq_eq_false_iff_ne, bne_eq_false_iff_eq, gt_iff_lt, ge_iff_le, Int.not_lt, Int.not_le] at hc8
    refine c_exit (x_thenX (x_thenX (x_blkX (x_then (hK2 _ _ ?_)))))
    clear hK5 K5 hK2 K2
    refine forget [] trivial (fun e => ?_)
    refine c_seq (fun K10 hK10 => ?_)
    refine c_reg ?_ -- region 7 token.go:89
    refine wl (ro_assign rfl) ?_
    refine wl_nil (x_then (hK10 _ _ ?_))
    clear hK10 K10
    refine c_ret ?_
    refine bp_ret Tryz.results133 rfl ?_
    refine ⟨?_, rfl⟩
    have : posS s sgL = none := posP_no (fun x hx => by
      obtain ⟨j, hj⟩ := List.getElem?_of_mem hx
      have hjl : j < 23 := (List.getElem?_eq_some_iff.1 hj).1
      simpa using hno j x (by omega) hj)
    rw [this]
    rfl

/-! ### ranges over a string -/
def SIt (H : Array Obj) (ri : Nat) (s : Str) (pos : Nat) : Prop := H[ri]? = some (.stringIter ⟨s.toArray⟩ pos)
theorem SIt.lt {H : Array Obj} {ri pos : Nat} {s : Str} (h : SIt H ri s pos) : ri < H.size := (Array.getElem?_eq_some_iff.1 h).1
theorem SIt.fram {F : Nat → Prop} {w w' : World} {ri pos : Nat} {s : Str} (h : SIt w.heap ri s pos) (hf : Fram F w w') (hn : ¬ F ri) : SIt w'.heap ri s pos := by
  unfold SIt at h ⊢
  rw [hf.block ri (Array.getElem?_eq_some_iff.1 h).1 hn]; exact h
theorem SIt.blk_ne {H : Array Obj} {ri pos b t : Nat} {s : Str} {l : List Value} (h : SIt H ri s pos) (hb : Blk H b l t) : b ≠ ri := fun e => by
  subst e
  unfold SIt at h
  unfold Blk at hb
  rw [h] at hb; cases hb
section
variable {P : Program} {n : Nat} {e : Nat → Option Value} {w : World} {ds : List Deferred} {ops : Array Oper} {Q : Exit → Act → World → Prop} {rest : List Oper} {ty : TypeId} {ps : String} {af : Array Edge} {d : Nat}
theorem eo_rangeS {t : TypeId} {x : Operand} {s : Str} (hx : evO n e x = some (S s)) (ht : strB P t = true) : EO P n e w (.range t x) (ptr w.heap.size) (w.alloc (.stringIter ⟨s.toArray⟩ 0)) := by
  intro ds dst ty ps af g
  have : (Instr.range t (S s)).run P w = .ok (ptr w.heap.size) (w.alloc (.stringIter ⟨s.toArray⟩ 0)) := by
    simp [Instr.range, run_underlying (strB_spec ht), S, ptr, Sem.run_bind, run_newObj_alloc]
  simp [execOp, evO_eval hx, this]
theorem run_nextS {ri pos : Nat} {s : Str} (hI : SIt w.heap ri s pos) (hp : pos < s.length) (ty : TypeId) : (Instr.next (ptr ri) true ty).run P w = .ok (.tuple #[.bool true, i64c pos, .int .i32 (Utf8.decode ⟨s.toArray⟩ pos).1]) (setM w ri (.stringIter ⟨s.toArray⟩ (pos + (Utf8.decode ⟨s.toArray⟩ pos).2))) := by
  unfold SIt at hI
  have hs : pos < (⟨s.toArray⟩ : ByteArray).size := by simpa [ByteArray.size] using hp
  simp [Instr.next, ptr, getObj, setObj, Sem.run, hI, hs, setM, goInt, i64c]
theorem run_nextE {ri pos : Nat} {s : Str} (hI : SIt w.heap ri s pos) (hp : s.length ≤ pos) (ty : TypeId) : (Instr.next (ptr ri) true ty).run P w = .ok (.tuple #[.bool false]) w := by
  unfold SIt at hI
  have hs : ¬ pos < (⟨s.toArray⟩ : ByteArray).size := by simpa [ByteArray.size] using hp
  simp [Instr.next, ptr, getObj, Sem.run, hI, hs]
theorem wl_nextS {ri pos : Nat} {x : Operand} {s : Str} (hx : evO n e x = some (ptr ri)) (hI : SIt w.heap ri s pos)
    (k1 : s.length ≤ pos → WL P ops Q rest (Fr n (upd e d (.tuple #[.bool false])) ds) w)
    (k2 : ∀ w1, pos < s.length → SIt w1.heap ri s (pos + (Utf8.decode ⟨s.toArray⟩ pos).2) → Fram (one ri) w w1 → WL P ops Q rest (Fr n (upd e d (.tuple #[.bool true, i64c pos, .int .i32 (Utf8.decode ⟨s.toArray⟩ pos).1])) ds) w1) :
    WL P ops Q (⟨some d, .next x true, ty, ps, af, none⟩ :: rest) (Fr n e ds) w := by
  rcases Nat.lt_or_ge pos s.length with hp | hp
  · refine ⟨wpList_plain rfl fun K hK => ?_⟩
    unfold Oper.wp
    have hl := hI.lt
    have : (execOp (Fr n e ds).eval ⟨some d, .next x true, ty, ps, af, none⟩).run P w = .ok (.value (.tuple #[.bool true, i64c pos, .int .i32 (Utf8.decode ⟨s.toArray⟩ pos).1])) (setM w ri (.stringIter ⟨s.toArray⟩ (pos + (Utf8.decode ⟨s.toArray⟩ pos).2))) := by
      simp [execOp, evO_eval hx, run_nextS hI hp]
    rw [this]
    simp only [Oper.upon, put_some]
    exact hK _ _ (k2 _ hp (by simp [SIt, setM, hl]) (setM_fram w ri _)).out
  · refine ⟨wpList_plain rfl fun K hK => ?_⟩
    unfold Oper.wp
    have : (execOp (Fr n e ds).eval ⟨some d, .next x true, ty, ps, af, none⟩).run P w = .ok (.value (.tuple #[.bool false])) w := by
      simp [execOp, evO_eval hx, run_nextE hI hp]
    rw [this]
    simp only [Oper.upon, put_some]
    exact hK _ _ (k1 hp).out
end
theorem ba_get {s : Str} {i : Nat} {c : UInt8} (h : s[i]? = some c) : (⟨s.toArray⟩ : ByteArray).get! i = c := by
  have hl := (List.getElem?_eq_some_iff.1 h).1
  have hv := (List.getElem?_eq_some_iff.1 h).2
  show s.toArray[i]! = c
  simp [hl, hv]
theorem dec_asc {s : Str} {i : Nat} {c : UInt8} (h : s[i]? = some c) (hc : c.toNat < 128) : Utf8.decode ⟨s.toArray⟩ i = (c.toNat, 1) := by
  unfold Utf8.decode
  have : ((⟨s.toArray⟩ : ByteArray).get! (i + 0)).toNat = c.toNat := by rw [Nat.add_zero, ba_get h]
  simp only [this]
  rw [if_pos hc]
/-- A rune that is no byte of the low half: its bytes are of the high half. -/
theorem dec_hi {s : Str} {i : Nat} {c : UInt8} (h : s[i]? = some c) (hc : 128 ≤ c.toNat) : 128 ≤ (Utf8.decode ⟨s.toArray⟩ i).1 ∧ (Utf8.decode ⟨s.toArray⟩ i).1 ≤ 1114111 ∧ 1 ≤ (Utf8.decode ⟨s.toArray⟩ i).2 ∧ ∀ k, 1 ≤ k → k < (Utf8.decode ⟨s.toArray⟩ i).2 → ∃ d : UInt8, s[i + k]? = some d ∧ 128 ≤ d.toNat := by
  have h0 : ((⟨s.toArray⟩ : ByteArray).get! (i + 0)).toNat = c.toNat := by rw [Nat.add_zero, ba_get h]
  have hcont : ∀ k, (decide (i + k < (⟨s.toArray⟩ : ByteArray).size) && ((⟨s.toArray⟩ : ByteArray).get! (i + k)).toNat / 64 == 2) = true → ∃ d : UInt8, s[i + k]? = some d ∧ 128 ≤ d.toNat := fun k hk => by
    simp only [Bool.and_eq_true, decide_eq_true_eq, beq_iff_eq] at hk
    have hl : i + k < s.length := by simpa [ByteArray.size] using hk.1
    obtain ⟨d, hd⟩ : ∃ d, s[i + k]? = some d := ⟨_, List.getElem?_eq_getElem hl⟩
    rw [ba_get hd] at hk
    exact ⟨d, hd, by omega⟩
  have hlt : c.toNat < 256 := c.toBitVec.isLt
  unfold Utf8.decode
  simp only [h0]
  rw [if_neg (by omega)]
  split
  · rename_i h2
    simp only [Bool.and_eq_true] at h2
    split
    · rename_i h3
      refine ⟨h3, ?_, Nat.le_of_ble_eq_true rfl, fun k k1 k2 => ?_⟩
      · show c.toNat % 32 * 64 + _ % 64 ≤ _; omega
      · have : k = 1 := by have : k < 2 := k2; omega
        subst this; exact hcont 1 (by simpa using h2.2)
    · exact ⟨by decide, by decide, by decide, fun k k1 k2 => by have : k < 1 := k2; omega⟩
  · split
    · rename_i h2
      simp only [Bool.and_eq_true] at h2
      split
      · rename_i h3
        simp only [Bool.and_eq_true, decide_eq_true_eq] at h3
        refine ⟨by have := h3.1; omega, ?_, Nat.le_of_ble_eq_true rfl, fun k k1 k2 => ?_⟩
        · show c.toNat % 16 * 4096 + _ % 64 * 64 + _ % 64 ≤ _; omega
        · have : k = 1 ∨ k = 2 := by have : k < 3 := k2; omega
          rcases this with rfl | rfl
          · exact hcont 1 (by simpa using h2.1.2)
          · exact hcont 2 (by simpa using h2.2)
      · exact ⟨by decide, by decide, by decide, fun k k1 k2 => by have : k < 1 := k2; omega⟩
    · split
      · rename_i h2
        simp only [Bool.and_eq_true] at h2
        split
        · rename_i h3
          simp only [Bool.and_eq_true, decide_eq_true_eq] at h3
          refine ⟨by have := h3.1; omega, ?_, Nat.le_of_ble_eq_true rfl, fun k k1 k2 => ?_⟩
          · have h4 := h3.2
            unfold Utf8.valid at h4
            simp only [Bool.or_eq_true, Bool.and_eq_true, decide_eq_true_eq] at h4
            show c.toNat % 8 * 262144 + _ % 64 * 4096 + _ % 64 * 64 + _ % 64 ≤ _
            omega
          · have : k = 1 ∨ k = 2 ∨ k = 3 := by have : k < 4 := k2; omega
            rcases this with rfl | rfl | rfl
            · exact hcont 1 (by simpa using h2.1.1.2)
            · exact hcont 2 (by simpa using h2.1.2)
            · exact hcont 3 (by simpa using h2.2)
        · exact ⟨by decide, by decide, by decide, fun k k1 k2 => by have : k < 1 := k2; omega⟩
      · exact ⟨by decide, by decide, by decide, fun k k1 k2 => by have : k < 1 := k2; omega⟩

end Go.Proofs.Qxb6500568aGreatDoor
