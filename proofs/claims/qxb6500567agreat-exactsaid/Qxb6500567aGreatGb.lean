import Derived.Test.Qxb6500567aGreatGa
/- The definition of matching: lists of ways; join. -/
namespace Go.Proofs.Qxb6500567aGreat
set_option linter.unusedVariables false
set_option linter.unusedSimpArgs false

/-- The cells of a way, of a list of ways. -/
abbrev wcl (x : Way) : List Value := i64c x.1 :: capc x.2
def wcs (L : List Way) : List Value := L.flatMap wcl

theorem wcl_len (x : Way) : (wcl x).length = 9 := rfl
theorem wcl_cells (x : Way) : ∀ u ∈ wcl x, u.oneCell' = true := by
  intro u hu
  rcases List.mem_cons.1 hu with rfl | hu
  · rfl
  · exact capc_cells _ u hu
theorem wcs_len : ∀ L : List Way, (wcs L).length = L.length * 9
  | [] => rfl
  | x :: L => by
    have := wcs_len L
    unfold wcs at this ⊢
    rw [List.flatMap_cons, List.length_append, this, wcl_len, List.length_cons]
    omega
theorem wcs_app (A B : List Way) : wcs (A ++ B) = wcs A ++ wcs B := by simp [wcs]
theorem wcs_one (x : Way) : wcs [x] = wcl x := by simp [wcs]

theorem wcs_at : ∀ {L : List Way} {k : Nat} {x : Way}, L[k]? = some x → ((wcs L).drop (k * 9)).take 9 = wcl x
  | y :: L, 0, x, h => by
    simp only [List.getElem?_cons_zero, Option.some.injEq] at h
    subst h
    rw [Nat.zero_mul, List.drop_zero]
    unfold wcs
    rw [List.flatMap_cons, List.take_left' (wcl_len y)]
  | y :: L, k + 1, x, h => by
    rw [List.getElem?_cons_succ] at h
    have := wcs_at h
    have e : wcs (y :: L) = wcl y ++ wcs L := by simp [wcs]
    rw [e, show (k + 1) * 9 = 9 + k * 9 by omega, ← List.drop_drop, List.drop_left' (wcl_len y)]
    exact this

/-- A list of ways of one's own, its block between lo and hi. -/
structure WV (w : World) (V : Value) (L : List Way) (lo hi : Nat) : Prop where
  own : Own w.heap V 215 9 L.length (wcs L)
  lo' : ∀ b, V.ownBlock = some b → lo ≤ b
  hi' : ∀ b, V.ownBlock = some b → b < hi

/-- Blocks from lo to hi. -/
def rgs (lo hi : Nat) : Nat → Prop := fun b => lo ≤ b ∧ b < hi

theorem WV.framS {w w' : World} {V : Value} {L : List Way} {lo hi d : Nat} {F : Nat → Prop} (h : WV w V L lo hi) (f : Fram F { w with drawn := d } w') (hn : ∀ b, lo ≤ b → b < hi → ¬ F b) : WV w' V L lo hi :=
  ⟨(show Own ({ w with drawn := d } : World).heap V 215 9 L.length (wcs L) from h.own).fram f (fun b hb => hn b (h.lo' b hb) (h.hi' b hb)), h.lo', h.hi'⟩
theorem WV.framN {w w' : World} {V : Value} {L : List Way} {lo hi : Nat} (h : WV w V L lo hi) (f : Fram none' w w') : WV w' V L lo hi := h.framS f (fun _ _ _ h => h)
theorem WV.framO {w w' : World} {V : Value} {L : List Way} {lo hi c : Nat} (h : WV w V L lo hi) (f : Fram (one c) w w') (hn : c < lo ∨ hi ≤ c) : WV w' V L lo hi := h.framS f (fun b h1 h2 he => by simp only [one] at he; omega)
theorem WV.drew {w : World} {V : Value} {L : List Way} {lo hi d : Nat} (h : WV w V L lo hi) : WV { w with drawn := d } V L lo hi := h.framN (Fram.drew none' w d)
theorem WV.wide {w : World} {V : Value} {L : List Way} {lo hi lo1 hi1 : Nat} (h : WV w V L lo hi) (h1 : lo1 ≤ lo) (h2 : hi ≤ hi1) : WV w V L lo1 hi1 :=
  ⟨h.own, fun b hb => by have := h.lo' b hb; omega, fun b hb => by have := h.hi' b hb; omega⟩
theorem WV.nil (w : World) (lo hi : Nat) : WV w (.slice none 0 0) [] lo hi := ⟨Own.nil _ _ _, fun b hb => by simp [Value.ownBlock] at hb, fun b hb => by simp [Value.ownBlock] at hb⟩

/-- The block behind it. -/
theorem WV.at {w : World} {V : Value} {L : List Way} {lo hi k : Nat} {x : Way} (h : WV w V L lo hi) (hk : L[k]? = some x) : ∃ g cap l, V = .slice (some ⟨g, 0, none⟩) L.length cap ∧ Blk w.heap g l 215 ∧ L.length ≤ cap ∧ l.length = cap * 9 ∧ lo ≤ g ∧ g < hi ∧ (∀ k x, L[k]? = some x → (l.drop (0 + k * 9)).take 9 = wcl x) := by
  have hl := (List.getElem?_eq_some_iff.1 hk).1
  obtain ⟨g, cap, l, hV, hB, h1, h2, h3, h4⟩ := h.own.pos (by omega)
  refine ⟨g, cap, l, hV, hB, h1, h3, h.lo' g (by rw [hV]; rfl), h.hi' g (by rw [hV]; rfl), ?_⟩
  intro k x hk
  have hkl := (List.getElem?_eq_some_iff.1 hk).1
  rw [Nat.zero_add, ← wcs_at hk, ← h4, List.drop_take, List.take_take]
  congr 1
  omega

theorem way_cell {l : List Value} {k j : Nat} {x : Way} {v : Value} (h : (l.drop (0 + k * 9)).take 9 = wcl x) (hv : (wcl x)[j]? = some v) : l[0 + k * 9 + j]? = some v := by
  rw [← h, List.getElem?_take] at hv
  split at hv
  · rw [List.getElem?_drop] at hv; exact hv
  · cases hv

theorem ddS_snoc (V : List Nat) (L : List Way) (x : Way) : ddS V (L ++ [x]) = ddS V L ++ (if x.1 ∈ ends L ++ V then [] else [x]) := by
  rw [ddS_app, ddS_single]

theorem ends_jn (A B : List Way) (e : Nat) : e ∈ ends (jn A B) ↔ e ∈ ends A ∨ e ∈ ends B := by
  unfold jn ends
  rw [List.map_append, List.mem_append]
  have := ends_ddS (V := ends A) (L := B) e
  unfold ends at this
  rw [this]
  constructor
  · rintro (h | h)
    · exact .inl h
    · exact .inr h.1
  · rintro (h | h)
    · exact .inl h
    · by_cases h' : e ∈ A.map Prod.fst
      · exact .inl h'
      · exact .inr ⟨h, h'⟩

theorem jn_step (A B : List Way) (k : Nat) (x : Way) (h : B[k]? = some x) : jn A (B.take (k + 1)) = if x.1 ∈ ends (jn A (B.take k)) then jn A (B.take k) else jn A (B.take k) ++ [x] := by
  have e : B.take (k + 1) = B.take k ++ [x] := by rw [List.take_add_one, h]; rfl
  rw [e]
  have e2 : jn A (B.take k ++ [x]) = jn A (B.take k) ++ (if x.1 ∈ ends (B.take k) ++ ends A then [] else [x]) := by
    unfold jn
    rw [ddS_snoc, List.append_assoc]
  rw [e2]
  have : (x.1 ∈ ends (B.take k) ++ ends A) ↔ x.1 ∈ ends (jn A (B.take k)) := by
    rw [ends_jn, List.mem_append]
    exact Or.comm
  by_cases h' : x.1 ∈ ends (jn A (B.take k))
  · rw [if_pos (this.2 h'), if_pos h']; simp
  · rw [if_neg (fun h => h' (this.1 h)), if_neg h']

theorem jn_nil (A : List Way) : jn A [] = A := by simp [jn, ddS]

theorem jn_len (A B : List Way) : (jn A B).length ≤ A.length + B.length := by
  have : ∀ (V : List Nat) (L : List Way), (ddS V L).length ≤ L.length := by
    intro V L
    induction L generalizing V with
    | nil => simp [ddS]
    | cons x L ih =>
      simp only [ddS]
      split
      · have := ih V; simp only [List.length_cons]; omega
      · have := ih (x.1 :: V); simp only [List.length_cons]; omega
  have h := this (ends A) B
  unfold jn
  simp only [List.length_append]
  omega

set_option maxHeartbeats 4000000 in
theorem join136 {w : World} {VA VB : Value} {LA LB : List Way} {loA hiA loB hiB n : Nat} (hA : WV w VA LA loA hiA) (hB : WV w VB LB loB hiB) (hd : hiA ≤ loB ∨ hiB ≤ loA) (hsA : hiA ≤ w.heap.size) (hsB : hiB ≤ w.heap.size) (hlo : loA ≤ w.heap.size) (hn : n ≤ 256) (heA : ∀ x ∈ LA, x.1 ≤ n) (heB : ∀ x ∈ LB, x.1 ≤ n) (hLA : LA.length ≤ 1000) (hLB : LB.length ≤ 1000) :
    Ret Tryz.prog 136 [VA, VB, i64c n] w (fun v w' => WV w' v (jn LA LB) loA w'.heap.size ∧ Fram (rgs loA hiA) w w') := by
  have hF : Fram (rgs loA hiA) w w := Fram.refl _ _
  obtain ⟨aA, cA, rfl⟩ := hA.own.form
  obtain ⟨aB, cB, rfl⟩ := hB.own.form
  refine ret_of Tryz.func136 rfl Tryz.ntmps136 rfl ?_
  refine c_seq (fun K1 hK1 => ?_)
  refine c_reg ?_ -- region 0 match.go:43
  refine wl (ro_assign rfl) ?_
  refine wl_nil (x_then (hK1 _ _ ?_))
  clear hK1 K1
  refine forget [(0, _), (1, _), (2, _)] ⟨rfl, rfl, rfl, trivial⟩ (fun e => ?_)
  refine c_seq (fun K2 hK2 => ?_)
  refine c_reg ?_ -- region 1 match.go:44
  refine wl (ro_move rfl) ?_
  refine wl (ro_arith rfl rfl rfl (Go.IntWalk.i64_in _ (by omega))) ?_
  refine wl_make (len := n + 1) (cap := n + 1) rfl rfl se_235 ze_4 (by simp) (by omega) (by omega) rfl bb_4 (fun sb w1 hbsb hS F1 => ?_)
  have hbssb := Nat.le_trans hF.size hbsb
  replace hF := hF.thenDrew.thenN F1
  replace hA := hA.framN F1
  replace hB := hB.framN F1
  refine wl (ro_assign rfl) ?_
  refine wl_nil (x_then (hK2 _ _ ?_))
  clear hK2 K2
  refine c_seq (fun K3 hK3 => ?_)
  refine c_seq (fun K4 hK4 => ?_)
  refine c_reg ?_ -- region 2 match.go:45
  refine wl (ro_assign rfl) ?_
  refine wl_nil (x_then (hK4 _ _ ?_))
  clear hK4 K4
  refine c_block ?_
  -- loop@r3: live slots [0, 1, 7, 8]
  have hsb0 : w.heap.size ≤ sb := hbssb
  refine c_loopG (fun m a' w' => ∃ (k : Nat) (fs : Nat → Value), m = LA.length - k ∧ k ≤ LA.length ∧ (∀ e, e ≤ n → fs e = .bool (decide (e ∈ ends (LA.take k)))) ∧ FB w'.heap sb ((n + 1) * 1) fs 4 ∧ WV w' (.slice aA LA.length cA) LA loA hiA ∧ WV w' (.slice aB LB.length cB) LB loB hiB ∧ Fram (rgs loA hiA) w w' ∧ ∃ e, a' = Fr 56 (upds e [(0, .slice aA LA.length cA), (1, .slice aB LB.length cB), (7, .slice (some ⟨sb, 0, none⟩) (n + 1) (n + 1)), (8, i64c k)]) []) LA.length ⟨0, zc [.bool false], rfl, by omega, fun e _ => by simp [zc, ends, Nat.mod_one], hS, hA, hB, hF, kp _ ⟨rfl, rfl, rfl, rfl, trivial⟩⟩ ?_
  clear hA hB hS hF
  rintro m a' w1 ⟨k, fs, rfl, hk, hfs, hS, hA, hB, hF, e, rfl⟩
  refine c_seq (fun K5 hK5 => ?_)
  refine c_seq (fun K6 hK6 => ?_)
  refine c_reg ?_ -- region 3 match.go:45
  refine wl (ro_move rfl) ?_
  refine wl (ro_move rfl) ?_
  refine wl (ro_lenL rfl se_212) ?_
  refine wl (ro_cmp (r := decide (k < LA.length)) rfl rfl (congrArg some (decide_eq_decide.2 (by omega)))) ?_
  refine wl_nil (x_then (hK6 _ _ ?_))
  clear hK6 K6
  refine wc_cond rfl (fun hc16 => ?_) (fun hc16 => ?_)
  · try simp only [decide_eq_true_eq, decide_eq_false_iff_not, Bool.not_eq_true', Bool.not_eq_false', Bool.not_eq_eq_eq_not, Bool.not_true, Bool.not_false, beq_iff_eq, bne_iff_ne, ne_eq, beq_eq_false_iff_ne, bne_eq_false_iff_eq, gt_iff_lt, ge_iff_le, Int.not_lt, Int.not_le] at hc16
    obtain ⟨x, hx⟩ : ∃ x, LA[k]? = some x := ⟨_, List.getElem?_eq_getElem hc16⟩
    have hxn := heA x (List.mem_of_getElem? hx)
    obtain ⟨g, cap, l, hV, hG, hgc, hgl, hg1, hg2, hga⟩ := hA.at hx
    cases hV
    have hcell : l[0 + k * 9 + 0]? = some (i64c x.1) := way_cell (hga k x hx) rfl
    refine c_skip (x_then (hK5 _ _ ?_))
    clear hK5 K5
    refine forget [(0, _), (1, _), (7, _), (8, _)] ⟨rfl, rfl, rfl, rfl, trivial⟩ (fun e => ?_)
    refine c_seq (fun K7 hK7 => ?_)
    refine c_block ?_
    refine c_reg ?_ -- region 5 match.go:46
    refine wl (ro_move rfl) ?_
    refine wl (ro_move rfl) ?_
    refine wl (ro_move rfl) ?_
    refine wl (ro_indexAddr (et := 215) (k := 9) rfl rfl se_212 (rfl) (hc16)) ?_
    refine wl (ro_fieldAddr (k := 0) rfl fo_215_0) ?_
    refine wl (ro_loadB rfl sc_3 (hG) (hcell)) ?_
    refine wl (ro_indexAddr (et := 4) (k := 1) rfl rfl se_235 (rfl) ((by omega : x.1 < n + 1))) ?_
    refine wl_put rfl rfl rfl sz_4 hS ((cel_lt (by omega))) ((cel_put x.1 (by omega))) (fun w2 hS F2 => ?_)
    replace hF := hF.thenDrew.thenO F2 (by first | exact .inr (by omega) | exact .inl rfl | exact .inl (by assumption))
    replace hA := hA.framO F2 (by omega)
    replace hB := hB.framO F2 (by omega)
    refine wl_nil (x_blk (x_then (hK7 _ _ ?_)))
    clear hK7 K7
    refine c_reg ?_ -- region 4 match.go:45
    refine wl (ro_move rfl) ?_
    refine wl (ro_arith rfl rfl rfl (Go.IntWalk.i64_in _ (by omega))) ?_
    refine wl (ro_assign rfl) ?_
    refine wl_nil (x_then ?_)
    refine ⟨LA.length - (k + 1), by omega, k + 1, _, rfl, by omega, ?_, hS, hA, hB, hF, kp _ ⟨rfl, rfl, rfl, rfl, trivial⟩⟩
    intro e he
    rw [List.take_add_one, hx]
    by_cases h : e = x.1
    · subst h; rw [pt_same]; simp [ends]
    · rw [pt_ne h, hfs e he]; simp [ends, h]
  · try simp only [decide_eq_true_eq, decide_eq_false_iff_not, Bool.not_eq_true', Bool.not_eq_false', Bool.not_eq_eq_eq_not, Bool.not_true, Bool.not_false, beq_iff_eq, bne_iff_ne, ne_eq, beq_eq_false_iff_ne, bne_eq_false_iff_eq, gt_iff_lt, ge_iff_le, Int.not_lt, Int.not_le] at hc16
    refine c_exit (x_thenX (x_thenX (x_blkX (x_then (hK3 _ _ ?_)))))
    clear hK5 K5 hK3 K3
    refine c_seq (fun K8 hK8 => ?_)
    refine c_seq (fun K9 hK9 => ?_)
    refine c_reg ?_ -- region 6 match.go:48
    refine wl (ro_assign rfl) ?_
    refine wl_nil (x_then (hK9 _ _ ?_))
    clear hK9 K9
    refine c_block ?_
    -- loop@r7: live slots [0, 1, 7, 9]
    have hkA : k = LA.length := by omega
    subst hkA
    rw [List.take_length] at hfs
    have hwsz := hF.size
    refine c_loopG (fun m a' w' => ∃ (k : Nat) (fs : Nat → Value) (V : Value), m = LB.length - k ∧ k ≤ LB.length ∧ (∀ e, e ≤ n → fs e = .bool (decide (e ∈ ends (jn LA (LB.take k))))) ∧ FB w'.heap sb ((n + 1) * 1) fs 4 ∧ Own w'.heap V 215 9 (jn LA (LB.take k)).length (wcs (jn LA (LB.take k))) ∧ (∀ b, V.ownBlock = some b → (loA ≤ b ∧ b < hiA) ∨ sb < b) ∧ WV w' (.slice aB LB.length cB) LB loB hiB ∧ Fram (rgs loA hiA) w w' ∧ ∃ e, a' = Fr 56 (upds e [(0, V), (1, .slice aB LB.length cB), (7, .slice (some ⟨sb, 0, none⟩) (n + 1) (n + 1)), (9, i64c k)]) []) LB.length ⟨0, _, _, rfl, by omega, fun e he => by rw [hfs e he, List.take_zero, jn_nil], hS, by rw [List.take_zero, jn_nil]; exact hA.own, fun b hb => .inl ⟨hA.lo' b hb, hA.hi' b hb⟩, hB, hF, kp _ ⟨rfl, rfl, rfl, rfl, trivial⟩⟩ ?_
    clear hA hB hS hF hfs hwsz
    rintro m a' w1 ⟨k, fs, V, rfl, hk, hfs, hS, hon, hloc, hB, hF, e, rfl⟩
    refine c_seq (fun K10 hK10 => ?_)
    refine c_seq (fun K11 hK11 => ?_)
    refine c_reg ?_ -- region 7 match.go:48
    refine wl (ro_move rfl) ?_
    refine wl (ro_move rfl) ?_
    refine wl (ro_lenL rfl se_212) ?_
    refine wl (ro_cmp (r := decide (k < LB.length)) rfl rfl (congrArg some (decide_eq_decide.2 (by omega)))) ?_
    refine wl_nil (x_then (hK11 _ _ ?_))
    clear hK11 K11
    refine wc_cond rfl (fun hc29 => ?_) (fun hc29 => ?_)
    · try simp only [decide_eq_true_eq, decide_eq_false_iff_not, Bool.not_eq_true', Bool.not_eq_false', Bool.not_eq_eq_eq_not, Bool.not_true, Bool.not_false, beq_iff_eq, bne_iff_ne, ne_eq, beq_eq_false_iff_ne, bne_eq_false_iff_eq, gt_iff_lt, ge_iff_le, Int.not_lt, Int.not_le] at hc29
      obtain ⟨x, hx⟩ : ∃ x, LB[k]? = some x := ⟨_, List.getElem?_eq_getElem hc29⟩
      have hxn := heB x (List.mem_of_getElem? hx)
      obtain ⟨g, cap, l, hV, hG, hgc, hgl, hg1, hg2, hga⟩ := hB.at hx
      cases hV
      have hcell : l[0 + k * 9 + 0]? = some (i64c x.1) := way_cell (hga k x hx) rfl
      have hst := jn_step LA LB k x hx
      have hjl := jn_len LA (LB.take k)
      have htl : (LB.take k).length ≤ 1000 := by rw [List.length_take]; omega
      have hsz1 := hF.size
      refine c_skip (x_then (hK10 _ _ ?_))
      clear hK10 K10
      refine forget [(0, _), (1, _), (7, _), (9, _)] ⟨rfl, rfl, rfl, rfl, trivial⟩ (fun e => ?_)
      refine c_seq (fun K12 hK12 => ?_)
      refine c_block ?_
      refine c_seq (fun K13 hK13 => ?_)
      refine c_reg ?_ -- region 9 match.go:49
      refine wl (ro_move rfl) ?_
      refine wl (ro_move rfl) ?_
      refine wl (ro_move rfl) ?_
      refine wl (ro_indexAddr (et := 215) (k := 9) rfl rfl se_212 (rfl) (hc29)) ?_
      refine wl (ro_fieldAddr (k := 0) rfl fo_215_0) ?_
      refine wl (ro_loadB rfl sc_3 (hG) (hcell)) ?_
      refine wl (ro_indexAddr (et := 4) (k := 1) rfl rfl se_235 (rfl) ((by omega : x.1 < n + 1))) ?_
      refine wl (ro_loadB rfl sc_4 (hS) (cel_at (by omega) (by omega) (hfs x.1 hxn))) ?_
      refine wl (ro_not rfl) ?_
      refine wl_nil (x_then (hK13 _ _ ?_))
      clear hK13 K13
      refine wc_cond rfl (fun hc40 => ?_) (fun hc40 => ?_)
      · try simp only [decide_eq_true_eq, decide_eq_false_iff_not, Bool.not_eq_true', Bool.not_eq_false', Bool.not_eq_eq_eq_not, Bool.not_true, Bool.not_false, beq_iff_eq, bne_iff_ne, ne_eq, beq_eq_false_iff_ne, bne_eq_false_iff_eq, gt_iff_lt, ge_iff_le, Int.not_lt, Int.not_le] at hc40
        have hni : ¬ x.1 ∈ ends (jn LA (LB.take k)) := by simpa using hc40
        rw [if_neg hni] at hst
        refine c_seq (fun K14 hK14 => ?_)
        refine c_reg ?_ -- region 10 match.go:50
        refine wl (ro_move rfl) ?_
        refine wl (ro_move rfl) ?_
        refine wl (ro_move rfl) ?_
        refine wl (ro_indexAddr (et := 215) (k := 9) rfl rfl se_212 (rfl) (hc29)) ?_
        refine wl (ro_fieldAddr (k := 0) rfl fo_215_0) ?_
        refine wl (ro_loadB rfl sc_3 (hG) (hcell)) ?_
        refine wl (ro_indexAddr (et := 4) (k := 1) rfl rfl se_235 (rfl) ((by omega : x.1 < n + 1))) ?_
        refine wl_put rfl rfl rfl sz_4 hS ((cel_lt (by omega))) ((cel_put x.1 (by omega))) (fun w3 hS F3 => ?_)
        replace hF := hF.thenDrew.thenO F3 (by first | exact .inr (by omega) | exact .inl rfl | exact .inl (by assumption))
        replace hB := hB.framO F3 (by omega)
        replace hon := hon.fram F3 (fun b hb h => by simp only [one] at h; have := hloc b hb; omega)
        replace hG := F3.blkO hG (by omega)
        refine wl_nil (x_then (hK14 _ _ ?_))
        clear hK14 K14
        refine c_reg ?_ -- region 11 match.go:51
        refine wl (ro_move rfl) ?_
        refine wl (ro_move rfl) ?_
        refine wl (ro_move rfl) ?_
        refine wl (ro_indexAddr (et := 215) (k := 9) rfl rfl se_212 (rfl) (hc29)) ?_
        refine wl (ro_loadAggB rfl ag_215 (hG) (rfl) ((hga k x hx))) ?_
        skip
        have hsS0 := hS.lt
        refine wl_bsapp rfl rfl rfl rfl se_212 zx_215 by_215 rfl rfl (wcl_len x) (wcl_cells x) hon (by omega) (by omega) (fun VX w3 hon3 F3 hnb3 ↦ ?_)
        have hS3 := F3.blkF hS (fun h => by have := hloc _ h; omega)
        have hB3 := hB.framS F3 (fun b h1 h2 h => by have := hloc _ h; omega)
        clear hS hB
        have hS := hS3
        have hB := hB3
        have hsS := hS.lt
        replace hF := hF.transG F3 (fun k hk h => by simp only [rgs]; have := hloc _ h; omega)
        refine wl (ro_assign rfl) ?_
        refine wl_nil (x_blk (x_then (hK12 _ _ ?_)))
        clear hK12 K12
        refine c_reg ?_ -- region 8 match.go:48
        refine wl (ro_move rfl) ?_
        refine wl (ro_arith rfl rfl rfl (Go.IntWalk.i64_in _ (by omega))) ?_
        refine wl (ro_assign rfl) ?_
        refine wl_nil (x_then ?_)
        refine ⟨LB.length - (k + 1), by omega, k + 1, _, VX, rfl, by omega, ?_, hS, ?_, ?_, hB, hF, kp _ ⟨rfl, rfl, rfl, rfl, trivial⟩⟩
        · intro e he
          rw [hst]
          by_cases h : e = x.1
          · subst h; rw [pt_same]; simp [ends]
          · rw [pt_ne h, hfs e he]; simp [ends, h]
        · rw [hst, wcs_app, wcs_one, List.length_append]
          exact hon3
        · intro b hb
          rcases hnb3 b hb with h | h
          · exact hloc b h
          · right; omega
      · try simp only [decide_eq_true_eq, decide_eq_false_iff_not, Bool.not_eq_true', Bool.not_eq_false', Bool.not_eq_eq_eq_not, Bool.not_true, Bool.not_false, beq_iff_eq, bne_iff_ne, ne_eq, beq_eq_false_iff_ne, bne_eq_false_iff_eq, gt_iff_lt, ge_iff_le, Int.not_lt, Int.not_le] at hc40
        have hni : x.1 ∈ ends (jn LA (LB.take k)) := by simpa using hc40
        rw [if_pos hni] at hst
        refine c_skip (x_blk (x_then (hK12 _ _ ?_)))
        clear hK12 K12
        refine c_reg ?_ -- region 8 match.go:48
        refine wl (ro_move rfl) ?_
        refine wl (ro_arith rfl rfl rfl (Go.IntWalk.i64_in _ (by omega))) ?_
        refine wl (ro_assign rfl) ?_
        refine wl_nil (x_then ?_)
        exact ⟨LB.length - (k + 1), by omega, k + 1, fs, V, rfl, by omega, by rw [hst]; exact hfs, hS, by rw [hst]; exact hon, hloc, hB, hF, kp _ ⟨rfl, rfl, rfl, rfl, trivial⟩⟩
    · try simp only [decide_eq_true_eq, decide_eq_false_iff_not, Bool.not_eq_true', Bool.not_eq_false', Bool.not_eq_eq_eq_not, Bool.not_true, Bool.not_false, beq_iff_eq, bne_iff_ne, ne_eq, beq_eq_false_iff_ne, bne_eq_false_iff_eq, gt_iff_lt, ge_iff_le, Int.not_lt, Int.not_le] at hc29
      refine c_exit (x_thenX (x_thenX (x_blkX (x_then (hK8 _ _ ?_)))))
      clear hK10 K10 hK8 K8
      refine forget [(0, _)] ⟨rfl, trivial⟩ (fun e => ?_)
      refine c_seq (fun K15 hK15 => ?_)
      refine c_reg ?_ -- region 12 match.go:54
      refine wl (ro_move rfl) ?_
      refine wl (ro_assign rfl) ?_
      refine wl_nil (x_then (hK15 _ _ ?_))
      clear hK15 K15
      refine c_ret ?_
      refine bp_ret Tryz.results136 rfl ?_
      have hkB : k = LB.length := by omega
      subst hkB
      rw [List.take_length] at hon
      exact ⟨⟨hon, fun b hb => by have := hloc b hb; omega, fun b hb => hon.lt hb⟩, hF⟩

end Go.Proofs.Qxb6500567aGreat
