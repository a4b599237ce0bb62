import Derived.Test.Qxb6500567aGreatPp
/- The real simplifier: the builder's view; push, roots, add. -/
namespace Go.Proofs.Qxb6500567aGreat
set_option linter.unusedVariables false
set_option linter.unusedSimpArgs false

/-- The blocks that building writes. -/
def bset (B : SB) : Nat → Prop := fun k => k = B.sb ∨ k = B.ob ∨ k = B.kb ∨ k = B.rb

/-- A task as it lies. -/
def TkC (T : List RE) (t : TK) (cs : List Value) : Prop := ∃ n : Nat, T[n]? = some t.r ∧ cs = [i64c t.what, i64c n, i64c t.at', icv t.e]
def TkOK (m : Nat) (t : TK) : Prop := WF t.r ∧ t.what ≤ 4 ∧ t.at' ≤ m ∧ -1 ≤ t.e ∧ t.e < m

/-- Children stand before. -/
def OKx (m : Nat) (x : PN) : Prop := -1 ≤ x.a ∧ x.a < m ∧ -1 ≤ x.b ∧ x.b < m
def OKo (o : List PN) : Prop := ∀ k x, o[k]? = some x → OKx k x

/-- The builder in memory. -/
structure BVr (H : Array Obj) (B : SB) (T : List RE) (σ : BS) (fo fw fr : Nat → Value) : Prop where
  s : Blk H B.sb (B.cells σ.o.length σ.W.length σ.rs.length) 101
  o : FB H B.ob 341 fo 89
  k : FB H B.kb 196 fw 202
  r : FB H B.rb 25 fr 3
  ol : σ.o.length ≤ 31
  wl : σ.W.length ≤ 49
  rl : σ.rs.length ≤ 25
  ov : ∀ k x, σ.o[k]? = some x → cel 11 (fun j => fo (0 + 11 * k + j)) = ndP x
  ok : OKo σ.o
  wv : ∀ k t, σ.W[k]? = some t → TkC T t (cel 4 (fun j => fw (0 + 4 * (σ.W.length - 1 - k) + j))) ∧ TkOK σ.o.length t
  rv : ∀ k v, σ.rs[k]? = some v → fr (σ.rs.length - 1 - k) = icv v ∧ -1 ≤ v ∧ v < σ.o.length

def BV (H : Array Obj) (B : SB) (T : List RE) (σ : BS) : Prop := ∃ fo fw fr, BVr H B T σ fo fw fr

/-- The four blocks are four. -/
structure D4 (B : SB) : Prop where
  so : B.sb ≠ B.ob
  sk : B.sb ≠ B.kb
  sr : B.sb ≠ B.rb
  ok : B.ob ≠ B.kb
  or : B.ob ≠ B.rb
  kr : B.kb ≠ B.rb

theorem BV.fram {w w' : World} {B : SB} {T : List RE} {σ : BS} {F : Nat → Prop} (h : BV w.heap B T σ) (f : Fram F w w') (hn : ∀ k, bset B k → ¬ F k) : BV w'.heap B T σ := by
  obtain ⟨fo, fw, fr, V⟩ := h
  exact ⟨fo, fw, fr, V.s.fram f (hn _ (.inl rfl)), V.o.fram f (hn _ (.inr (.inl rfl))), V.k.fram f (hn _ (.inr (.inr (.inl rfl)))), V.r.fram f (hn _ (.inr (.inr (.inr rfl)))), V.ol, V.wl, V.rl, V.ov, V.ok, V.wv, V.rv⟩

theorem BV.heap {H : Array Obj} {w : World} {B : SB} {T : List RE} {σ : BS} (h : BV H B T σ) (hs : SameH H w) : BV w.heap B T σ := by unfold SameH at hs; rw [hs]; exact h

theorem ndP_cells (x : PN) : ∀ u ∈ ndP x, u.oneCell' = true := by
  intro u hu
  simp only [ndP, ndc, List.mem_cons, List.not_mem_nil, or_false] at hu
  rcases hu with rfl | rfl | rfl | rfl | rfl | rfl | rfl | rfl | rfl | rfl | rfl <;> rfl

theorem tk_cells (a b c : Nat) (e : Int) : ∀ u ∈ [i64c a, i64c b, i64c c, icv e], u.oneCell' = true := by
  intro u hu
  simp only [List.mem_cons, List.not_mem_nil, or_false] at hu
  rcases hu with rfl | rfl | rfl | rfl <;> rfl

theorem cel_four {f : Nat → Value} {o : Nat} {cs : List Value} (hl : cs.length = 4) : cel 4 (fun j => pts f o cs (o + j)) = cs := by
  conv => rhs; rw [cel_of cs, hl]
  apply cel_congr
  intro j hj
  rw [pts_in (v := cs.getD j undef)]
  rw [List.getD, List.getElem?_eq_getElem (by omega)]
  rfl

theorem cel_elev {f : Nat → Value} {o : Nat} {cs : List Value} (hl : cs.length = 11) : cel 11 (fun j => pts f o cs (o + j)) = cs := by
  conv => rhs; rw [cel_of cs, hl]
  apply cel_congr
  intro j hj
  rw [pts_in (v := cs.getD j undef)]
  rw [List.getD, List.getElem?_eq_getElem (by omega)]
  rfl

/-- A task laid on top. -/
theorem BVr.pushed {H H' : Array Obj} {B : SB} {T : List RE} {σ : BS} {fo fw fr : Nat → Value} {t : TK} {n : Nat} (V : BVr H B T σ fo fw fr) (h49 : σ.W.length < 49) (hn : T[n]? = some t.r) (ht : TkOK σ.o.length t)
    (hs : Blk H' B.sb (B.cells σ.o.length (σ.W.length + 1) σ.rs.length) 101) (ho : FB H' B.ob 341 fo 89) (hk : FB H' B.kb 196 (pts fw (4 * σ.W.length) [i64c t.what, i64c n, i64c t.at', icv t.e]) 202) (hr : FB H' B.rb 25 fr 3) : BV H' B T { σ with W := pushB σ.W t } := by
  rw [pushB_room h49]
  refine ⟨fo, _, fr, hs, ho, hk, hr, V.ol, by simp only [List.length_cons]; omega, V.rl, V.ov, V.ok, ?_, V.rv⟩
  intro k t' ht'
  simp only [List.length_cons] at ht' ⊢
  cases k with
  | zero =>
    simp only [List.getElem?_cons_zero, Option.some.injEq] at ht'
    subst ht'
    refine ⟨⟨n, hn, ?_⟩, ht⟩
    rw [show 0 + 4 * (σ.W.length + 1 - 1 - 0) = 4 * σ.W.length by omega]
    exact cel_four rfl
  | succ k =>
    rw [List.getElem?_cons_succ] at ht'
    have hk := (List.getElem?_eq_some_iff.1 ht').1
    have := V.wv k t' ht'
    refine ⟨?_, this.2⟩
    have e1 := this.1
    rw [show 0 + 4 * (σ.W.length - 1 - k) = 0 + 4 * (σ.W.length + 1 - 1 - (k + 1)) by omega] at e1
    rw [cel_congr (g := fun j => fw (0 + 4 * (σ.W.length + 1 - 1 - (k + 1)) + j))]
    · exact e1
    · intro j hj
      exact pts_out (.inl (by omega))

theorem push102 {w : World} {B : SB} {T : List RE} {σ : BS} {t : TK} {n : Nat} (D : D4 B) (V : BV w.heap B T σ) (hn : T[n]? = some t.r) (ht : TkOK σ.o.length t) :
    Ret Tryz.prog 102 [ptr B.sb, i64c t.what, i64c n, i64c t.at', icv t.e] w (fun v w' => v = .tuple #[] ∧ BV w'.heap B T { σ with W := pushB σ.W t } ∧ Fram (bset B) w w') := by
  obtain ⟨fo, fw, fr, V⟩ := V
  obtain ⟨dso, dsk, dsr, dok, dor, dkr⟩ := D
  have hF : Fram (bset B) w w := Fram.refl _ _
  have hms : bset B B.sb := .inl rfl
  have hmk : bset B B.kb := .inr (.inr (.inl rfl))
  have hB := V.s
  have hO := V.o
  have hK := V.k
  have hR := V.r
  have hwl := V.wl
  by_cases h49 : σ.W.length < 49
  · skip
    refine ret_of Tryz.func102 rfl Tryz.ntmps102 rfl ?_
    refine c_seq (fun K1 hK1 => ?_)
    refine c_pi [(0, false), (1, false), (2, false), (3, false), (4, false), (5, false), (6, false), (7, false), (8, false), (9, false)] (SameH _) mixed (by kernel_rfl) rfl (by kernel_rfl) (po_then (po_bp)) (sameH_now _ _) ?_ -- region 0 build.go:15
    refine pi_ro rfl (fun w hS => ro_move rfl) ?_
    refine pi_ro rfl (fun w hS => ro_nilCheck rfl) ?_
    refine pi_ro rfl (fun w hS => ro_fieldAddr (k := 6) rfl fo_101_6) ?_
    refine pi_ro rfl (fun w hS => ro_loadB rfl sc_3 (Blk.of_heap hB hS) (rfl)) ?_
    refine pi_ro rfl (fun w hS => ro_move rfl) ?_
    refine pi_ro rfl (fun w hS => ro_nilCheck rfl) ?_
    refine pi_ro rfl (fun w hS => ro_fieldAddr (k := 5) rfl fo_101_5) ?_
    refine pi_ro rfl (fun w hS => ro_loadB rfl sc_99 (Blk.of_heap hB hS) (rfl)) ?_
    refine pi_ro rfl (fun w hS => ro_lenL rfl se_99) ?_
    refine pi_ro rfl (fun w hS => ro_cmp (r := true) rfl rfl (congrArg some (decide_eq_true (by omega)))) ?_
    refine pi_nil (x_then (hK1 _ _ ?_))
    clear hK1 K1
    refine wc_condT rfl ?_
    refine c_seq (fun K2 hK2 => ?_)
    refine c_piL 14 [(0, false), (1, false), (2, false), (3, false), (4, false), (5, false), (6, false), (7, false), (8, false), (9, false), (10, false), (11, false), (12, false), (13, false)] (SameH _) mixed (by kernel_rfl) rfl (by kernel_rfl) (po_then (po_bp)) (sameH_now _ _) ?_ -- region 1 build.go:16
    refine ql_ro rfl (fun w hS => ro_move rfl) ?_
    refine ql_ro rfl (fun w hS => ro_nilCheck rfl) ?_
    refine ql_ro rfl (fun w hS => ro_fieldAddr (k := 5) rfl fo_101_5) ?_
    refine ql_ro rfl (fun w hS => ro_loadB rfl sc_99 (Blk.of_heap hB hS) (rfl)) ?_
    refine ql_ro rfl (fun w hS => ro_move rfl) ?_
    refine ql_ro rfl (fun w hS => ro_nilCheck rfl) ?_
    refine ql_ro rfl (fun w hS => ro_fieldAddr (k := 6) rfl fo_101_6) ?_
    refine ql_ro rfl (fun w hS => ro_loadB rfl sc_3 (Blk.of_heap hB hS) (rfl)) ?_
    refine ql_ro rfl (fun w hS => ro_move rfl) ?_
    refine ql_ro rfl (fun w hS => ro_move rfl) ?_
    refine ql_ro rfl (fun w hS => ro_move rfl) ?_
    refine ql_ro rfl (fun w hS => ro_move rfl) ?_
    refine ql_ro rfl (fun w hS => ro_build rfl bld_202_0_1_2_3) ?_
    refine ql_ro rfl (fun w hS => ro_indexAddr (et := 202) (k := 4) rfl rfl se_99 (rfl) (h49)) ?_
    refine ql_puta rfl rfl rfl ((tk_cells _ _ _ _)) sz_202 (rfl) hK ((by rw [cel_len]; simp; omega)) ((cel_puts (4 * σ.W.length) (by omega) rfl (by omega))) (fun w1 hK F1 => ?_)
    replace hF := hF.thenDrew.thenO F1 (by first | exact .inr (by omega) | exact .inl rfl | exact .inl (by assumption))
    replace hB := F1.blkO hB (by omega)
    replace hO := F1.blkO hO (by omega)
    replace hR := F1.blkO hR (by omega)
    refine x_then (hK2 _ _ ?_)
    clear hK2 K2
    refine c_reg ?_ -- region 2 build.go:17
    refine wl (ro_move rfl) ?_
    refine wl (ro_nilCheck rfl) ?_
    refine wl (ro_fieldAddr (k := 6) rfl fo_101_6) ?_
    refine wl (ro_loadB rfl sc_3 (hB) (rfl)) ?_
    refine wl (ro_arith rfl rfl rfl (Go.IntWalk.i64_in _ (by omega))) ?_
    refine wl (ro_nilCheck rfl) ?_
    refine wl (ro_fieldAddr (k := 6) rfl fo_101_6) ?_
    refine wl_put rfl rfl rfl sz_3 hB ((by simp)) (rfl) (fun w2 hB F2 => ?_)
    replace hF := hF.thenDrew.thenO F2 (by first | exact .inr (by omega) | exact .inl rfl | exact .inl (by assumption))
    replace hO := F2.blkO hO (by omega)
    replace hK := F2.blkO hK (by omega)
    replace hR := F2.blkO hR (by omega)
    refine wl_nil ?_
    refine bp_end Tryz.results102 rfl ?_
    exact ⟨rfl, V.pushed h49 hn ht hB hO hK hR, hF⟩
  · have e : pushB σ.W t = σ.W := if_neg h49
    rw [e]
    refine ret_of Tryz.func102 rfl Tryz.ntmps102 rfl ?_
    refine c_seq (fun K1 hK1 => ?_)
    refine c_pi [(0, false), (1, false), (2, false), (3, false), (4, false), (5, false), (6, false), (7, false), (8, false), (9, false)] (SameH _) mixed (by kernel_rfl) rfl (by kernel_rfl) (po_then (po_bp)) (sameH_now _ _) ?_ -- region 0 build.go:15
    refine pi_ro rfl (fun w hS => ro_move rfl) ?_
    refine pi_ro rfl (fun w hS => ro_nilCheck rfl) ?_
    refine pi_ro rfl (fun w hS => ro_fieldAddr (k := 6) rfl fo_101_6) ?_
    refine pi_ro rfl (fun w hS => ro_loadB rfl sc_3 (Blk.of_heap hB hS) (rfl)) ?_
    refine pi_ro rfl (fun w hS => ro_move rfl) ?_
    refine pi_ro rfl (fun w hS => ro_nilCheck rfl) ?_
    refine pi_ro rfl (fun w hS => ro_fieldAddr (k := 5) rfl fo_101_5) ?_
    refine pi_ro rfl (fun w hS => ro_loadB rfl sc_99 (Blk.of_heap hB hS) (rfl)) ?_
    refine pi_ro rfl (fun w hS => ro_lenL rfl se_99) ?_
    refine pi_ro rfl (fun w hS => ro_cmp (r := false) rfl rfl (congrArg some (decide_eq_false (by omega)))) ?_
    refine pi_nil (x_then (hK1 _ _ ?_))
    clear hK1 K1
    refine wc_condF rfl ?_
    refine c_skip ?_
    refine bp_end Tryz.results102 rfl ?_
    exact ⟨rfl, ⟨fo, fw, fr, V⟩, hF.thenDrew⟩

/-- A root laid on top. -/
theorem BVr.rooted {H H' : Array Obj} {B : SB} {T : List RE} {σ : BS} {fo fw fr : Nat → Value} {v : Int} (V : BVr H B T σ fo fw fr) (h25 : σ.rs.length < 25) (h1 : -1 ≤ v) (h2 : v < σ.o.length)
    (hs : Blk H' B.sb (B.cells σ.o.length σ.W.length (σ.rs.length + 1)) 101) (ho : FB H' B.ob 341 fo 89) (hk : FB H' B.kb 196 fw 202) (hr : FB H' B.rb 25 (pt fr σ.rs.length (icv v)) 3) : BV H' B T { σ with rs := rootB σ.rs v } := by
  rw [rootB_room h25]
  refine ⟨fo, fw, _, hs, ho, hk, hr, V.ol, V.wl, by simp only [List.length_cons]; omega, V.ov, V.ok, V.wv, ?_⟩
  intro k u hu
  simp only [List.length_cons] at hu ⊢
  cases k with
  | zero =>
    simp only [List.getElem?_cons_zero, Option.some.injEq] at hu
    subst hu
    exact ⟨pt_same, h1, h2⟩
  | succ k =>
    rw [List.getElem?_cons_succ] at hu
    have hk := (List.getElem?_eq_some_iff.1 hu).1
    have := V.rv k u hu
    rw [show σ.rs.length + 1 - 1 - (k + 1) = σ.rs.length - 1 - k by omega, pt_ne (by omega)]
    exact this

theorem pushRoot107 {w : World} {B : SB} {T : List RE} {σ : BS} {v : Int} (D : D4 B) (V : BV w.heap B T σ) (h1 : -1 ≤ v) (h2 : v < σ.o.length) :
    Ret Tryz.prog 107 [ptr B.sb, icv v] w (fun r w' => r = .tuple #[] ∧ BV w'.heap B T { σ with rs := rootB σ.rs v } ∧ Fram (bset B) w w') := by
  obtain ⟨fo, fw, fr, V⟩ := V
  obtain ⟨dso, dsk, dsr, dok, dor, dkr⟩ := D
  have hF : Fram (bset B) w w := Fram.refl _ _
  have hms : bset B B.sb := .inl rfl
  have hmr : bset B B.rb := .inr (.inr (.inr rfl))
  have hB := V.s
  have hO := V.o
  have hK := V.k
  have hR := V.r
  have hrl := V.rl
  by_cases h25 : σ.rs.length < 25
  · skip
    refine ret_of Tryz.func107 rfl Tryz.ntmps107 rfl ?_
    refine c_seq (fun K1 hK1 => ?_)
    refine c_pi [(0, false), (1, false), (2, false), (3, false), (4, false), (5, false), (6, false), (7, false), (8, false), (9, false)] (SameH _) mixed (by kernel_rfl) rfl (by kernel_rfl) (po_then (po_bp)) (sameH_now _ _) ?_ -- region 0 build.go:36
    refine pi_ro rfl (fun w hS => ro_move rfl) ?_
    refine pi_ro rfl (fun w hS => ro_nilCheck rfl) ?_
    refine pi_ro rfl (fun w hS => ro_fieldAddr (k := 8) rfl fo_101_8) ?_
    refine pi_ro rfl (fun w hS => ro_loadB rfl sc_3 (Blk.of_heap hB hS) (rfl)) ?_
    refine pi_ro rfl (fun w hS => ro_move rfl) ?_
    refine pi_ro rfl (fun w hS => ro_nilCheck rfl) ?_
    refine pi_ro rfl (fun w hS => ro_fieldAddr (k := 7) rfl fo_101_7) ?_
    refine pi_ro rfl (fun w hS => ro_loadB rfl sc_97 (Blk.of_heap hB hS) (rfl)) ?_
    refine pi_ro rfl (fun w hS => ro_lenL rfl se_97) ?_
    refine pi_ro rfl (fun w hS => ro_cmp (r := true) rfl rfl (congrArg some (decide_eq_true (by omega)))) ?_
    refine pi_nil (x_then (hK1 _ _ ?_))
    clear hK1 K1
    refine wc_condT rfl ?_
    refine c_seq (fun K2 hK2 => ?_)
    refine c_piL 10 [(0, false), (1, false), (2, false), (3, false), (4, false), (5, false), (6, false), (7, false), (8, false), (9, false)] (SameH _) mixed (by kernel_rfl) rfl (by kernel_rfl) (po_then (po_bp)) (sameH_now _ _) ?_ -- region 1 build.go:37
    refine ql_ro rfl (fun w hS => ro_move rfl) ?_
    refine ql_ro rfl (fun w hS => ro_nilCheck rfl) ?_
    refine ql_ro rfl (fun w hS => ro_fieldAddr (k := 7) rfl fo_101_7) ?_
    refine ql_ro rfl (fun w hS => ro_loadB rfl sc_97 (Blk.of_heap hB hS) (rfl)) ?_
    refine ql_ro rfl (fun w hS => ro_move rfl) ?_
    refine ql_ro rfl (fun w hS => ro_nilCheck rfl) ?_
    refine ql_ro rfl (fun w hS => ro_fieldAddr (k := 8) rfl fo_101_8) ?_
    refine ql_ro rfl (fun w hS => ro_loadB rfl sc_3 (Blk.of_heap hB hS) (rfl)) ?_
    refine ql_ro rfl (fun w hS => ro_move rfl) ?_
    refine ql_ro rfl (fun w hS => ro_indexAddr (et := 3) (k := 1) rfl rfl se_97 (rfl) (h25)) ?_
    refine ql_put rfl rfl rfl rfl sz_3 hR ((cel_lt (by omega))) ((cel_put σ.rs.length (by omega))) (fun w1 hR F1 => ?_)
    replace hF := hF.thenDrew.thenO F1 (by first | exact .inr (by omega) | exact .inl rfl | exact .inl (by assumption))
    replace hB := F1.blkO hB (by omega)
    replace hO := F1.blkO hO (by omega)
    replace hK := F1.blkO hK (by omega)
    refine x_then (hK2 _ _ ?_)
    clear hK2 K2
    refine c_reg ?_ -- region 2 build.go:38
    refine wl (ro_move rfl) ?_
    refine wl (ro_nilCheck rfl) ?_
    refine wl (ro_fieldAddr (k := 8) rfl fo_101_8) ?_
    refine wl (ro_loadB rfl sc_3 (hB) (rfl)) ?_
    refine wl (ro_arith rfl rfl rfl (Go.IntWalk.i64_in _ (by omega))) ?_
    refine wl (ro_nilCheck rfl) ?_
    refine wl (ro_fieldAddr (k := 8) rfl fo_101_8) ?_
    refine wl_put rfl rfl rfl sz_3 hB ((by simp)) (rfl) (fun w2 hB F2 => ?_)
    replace hF := hF.thenDrew.thenO F2 (by first | exact .inr (by omega) | exact .inl rfl | exact .inl (by assumption))
    replace hO := F2.blkO hO (by omega)
    replace hK := F2.blkO hK (by omega)
    replace hR := F2.blkO hR (by omega)
    refine wl_nil ?_
    refine bp_end Tryz.results107 rfl ?_
    exact ⟨rfl, V.rooted h25 h1 h2 hB hO hK hR, hF⟩
  · have e : rootB σ.rs v = σ.rs := if_neg h25
    rw [e]
    refine ret_of Tryz.func107 rfl Tryz.ntmps107 rfl ?_
    refine c_seq (fun K1 hK1 => ?_)
    refine c_pi [(0, false), (1, false), (2, false), (3, false), (4, false), (5, false), (6, false), (7, false), (8, false), (9, false)] (SameH _) mixed (by kernel_rfl) rfl (by kernel_rfl) (po_then (po_bp)) (sameH_now _ _) ?_ -- region 0 build.go:36
    refine pi_ro rfl (fun w hS => ro_move rfl) ?_
    refine pi_ro rfl (fun w hS => ro_nilCheck rfl) ?_
    refine pi_ro rfl (fun w hS => ro_fieldAddr (k := 8) rfl fo_101_8) ?_
    refine pi_ro rfl (fun w hS => ro_loadB rfl sc_3 (Blk.of_heap hB hS) (rfl)) ?_
    refine pi_ro rfl (fun w hS => ro_move rfl) ?_
    refine pi_ro rfl (fun w hS => ro_nilCheck rfl) ?_
    refine pi_ro rfl (fun w hS => ro_fieldAddr (k := 7) rfl fo_101_7) ?_
    refine pi_ro rfl (fun w hS => ro_loadB rfl sc_97 (Blk.of_heap hB hS) (rfl)) ?_
    refine pi_ro rfl (fun w hS => ro_lenL rfl se_97) ?_
    refine pi_ro rfl (fun w hS => ro_cmp (r := false) rfl rfl (congrArg some (decide_eq_false (by omega)))) ?_
    refine pi_nil (x_then (hK1 _ _ ?_))
    clear hK1 K1
    refine wc_condF rfl ?_
    refine c_skip ?_
    refine bp_end Tryz.results107 rfl ?_
    exact ⟨rfl, ⟨fo, fw, fr, V⟩, hF.thenDrew⟩

theorem popRoot105 {w : World} {B : SB} {T : List RE} {σ : BS} (D : D4 B) (V : BV w.heap B T σ) :
    Ret Tryz.prog 105 [ptr B.sb] w (fun r w' => r = icv (popB σ.rs).1 ∧ (-1 ≤ (popB σ.rs).1 ∧ (popB σ.rs).1 < σ.o.length) ∧ BV w'.heap B T { σ with rs := (popB σ.rs).2 } ∧ Fram (bset B) w w') := by
  obtain ⟨fo, fw, fr, V⟩ := V
  obtain ⟨dso, dsk, dsr, dok, dor, dkr⟩ := D
  have hF : Fram (bset B) w w := Fram.refl _ _
  have hms : bset B B.sb := .inl rfl
  have hB := V.s
  have hO := V.o
  have hK := V.k
  have hR := V.r
  have hrl := V.rl
  obtain ⟨o, rs, W⟩ := σ
  cases rs with
  | nil =>
    refine ret_of Tryz.func105 rfl Tryz.ntmps105 rfl ?_
    refine c_seq (fun K1 hK1 => ?_)
    refine c_reg ?_ -- region 0 build.go:42
    refine wl (ro_assign rfl) ?_
    refine wl_nil (x_then (hK1 _ _ ?_))
    clear hK1 K1
    refine c_seq (fun K2 hK2 => ?_)
    refine c_seq (fun K3 hK3 => ?_)
    refine c_reg ?_ -- region 1 build.go:43
    refine wl (ro_move rfl) ?_
    refine wl (ro_nilCheck rfl) ?_
    refine wl (ro_fieldAddr (k := 8) rfl fo_101_8) ?_
    refine wl (ro_loadB rfl sc_3 (hB) (rfl)) ?_
    refine wl (ro_cmp rfl rfl rfl) ?_
    refine wl_nil (x_then (hK3 _ _ ?_))
    clear hK3 K3
    refine wc_condT rfl ?_
    refine c_seq (fun K4 hK4 => ?_)
    refine c_reg ?_ -- region 2 build.go:44
    refine wl (ro_assign rfl) ?_
    refine wl_nil (x_then (hK4 _ _ ?_))
    clear hK4 K4
    refine c_ret (x_thenR ?_)
    refine bp_ret Tryz.results105 rfl ?_
    exact ⟨rfl, ⟨by simp [popB], by simp only [popB]; omega⟩, ⟨fo, fw, fr, V⟩, hF⟩
  | cons v rs =>
    have hv := V.rv 0 v rfl
    simp only [List.length_cons, Nat.sub_zero, Nat.add_sub_cancel] at hv hrl
    refine ret_of Tryz.func105 rfl Tryz.ntmps105 rfl ?_
    refine c_seq (fun K1 hK1 => ?_)
    refine c_reg ?_ -- region 0 build.go:42
    refine wl (ro_assign rfl) ?_
    refine wl_nil (x_then (hK1 _ _ ?_))
    clear hK1 K1
    refine c_seq (fun K2 hK2 => ?_)
    refine c_seq (fun K3 hK3 => ?_)
    refine c_reg ?_ -- region 1 build.go:43
    refine wl (ro_move rfl) ?_
    refine wl (ro_nilCheck rfl) ?_
    refine wl (ro_fieldAddr (k := 8) rfl fo_101_8) ?_
    refine wl (ro_loadB rfl sc_3 (hB) (rfl)) ?_
    refine wl (ro_cmp (r := false) rfl rfl (congrArg some (by simp; omega))) ?_
    refine wl_nil (x_then (hK3 _ _ ?_))
    clear hK3 K3
    refine wc_condF rfl ?_
    refine c_skip (x_then (hK2 _ _ ?_))
    clear hK2 K2
    refine forget [(0, _)] ⟨rfl, trivial⟩ (fun e => ?_)
    refine c_seq (fun K4 hK4 => ?_)
    refine c_reg ?_ -- region 3 build.go:46
    refine wl (ro_move rfl) ?_
    refine wl (ro_nilCheck rfl) ?_
    refine wl (ro_fieldAddr (k := 8) rfl fo_101_8) ?_
    refine wl (ro_loadB rfl sc_3 (hB) (rfl)) ?_
    refine wl (ro_arith (r := (rs.length : Int)) rfl rfl (by simp) (Go.IntWalk.i64_in _ (by omega))) ?_
    refine wl (ro_nilCheck rfl) ?_
    refine wl (ro_fieldAddr (k := 8) rfl fo_101_8) ?_
    refine wl_put rfl rfl rfl sz_3 hB ((by simp)) (rfl) (fun w1 hB F1 => ?_)
    replace hF := hF.thenDrew.thenO F1 (by first | exact .inr (by omega) | exact .inl rfl | exact .inl (by assumption))
    replace hO := F1.blkO hO (by omega)
    replace hK := F1.blkO hK (by omega)
    replace hR := F1.blkO hR (by omega)
    refine wl_nil (x_then (hK4 _ _ ?_))
    clear hK4 K4
    refine forget [(0, _)] ⟨rfl, trivial⟩ (fun e => ?_)
    refine c_seq (fun K5 hK5 => ?_)
    refine c_pi [(0, false), (1, false), (2, false), (3, false), (4, false), (5, false), (6, false), (7, false), (8, false), (9, false), (10, false)] (SameH _) mixed (by kernel_rfl) rfl (by kernel_rfl) (po_then (po_bp)) (sameH_now _ _) ?_ -- region 4 build.go:47
    refine pi_ro rfl (fun w hS => ro_move rfl) ?_
    refine pi_ro rfl (fun w hS => ro_nilCheck rfl) ?_
    refine pi_ro rfl (fun w hS => ro_fieldAddr (k := 7) rfl fo_101_7) ?_
    refine pi_ro rfl (fun w hS => ro_loadB rfl sc_97 (Blk.of_heap hB hS) (rfl)) ?_
    refine pi_ro rfl (fun w hS => ro_move rfl) ?_
    refine pi_ro rfl (fun w hS => ro_nilCheck rfl) ?_
    refine pi_ro rfl (fun w hS => ro_fieldAddr (k := 8) rfl fo_101_8) ?_
    refine pi_ro rfl (fun w hS => ro_loadB rfl sc_3 (Blk.of_heap hB hS) (rfl)) ?_
    refine pi_ro rfl (fun w hS => ro_indexAddr (et := 3) (k := 1) rfl rfl se_97 (rfl) ((by omega : rs.length < 25))) ?_
    refine pi_ro rfl (fun w hS => ro_loadB rfl sc_3 (Blk.of_heap hR hS) (cel_at (by omega) (by omega) hv.1)) ?_
    refine pi_ro rfl (fun w hS => ro_assign rfl) ?_
    refine pi_nil (x_then (hK5 _ _ ?_))
    clear hK5 K5
    refine c_ret ?_
    refine bp_ret Tryz.results105 rfl ?_
    refine ⟨rfl, hv.2, ⟨fo, fw, fr, hB, hO, hK, hR, V.ol, V.wl, (show rs.length ≤ 25 by omega), V.ov, V.ok, V.wv, ?_⟩, hF.thenDrew⟩
    intro k u hu
    have hk := (List.getElem?_eq_some_iff.1 hu).1
    have := V.rv (k + 1) u (show (v :: rs)[k + 1]? = some u from by rw [List.getElem?_cons_succ]; exact hu)
    simp only [List.length_cons, popB] at this hk ⊢
    rw [show rs.length + 1 - 1 - (k + 1) = rs.length - 1 - k by omega] at this
    exact this

theorem BVr.added {H H' : Array Obj} {B : SB} {T : List RE} {σ : BS} {fo fw fr : Nat → Value} {x : PN} (V : BVr H B T σ fo fw fr) (h31 : σ.o.length < 31) (hx : OKx σ.o.length x)
    (hs : Blk H' B.sb (B.cells (σ.o.length + 1) σ.W.length σ.rs.length) 101) (ho : FB H' B.ob 341 (pts fo (11 * σ.o.length) (ndP x)) 89) (hk : FB H' B.kb 196 fw 202) (hr : FB H' B.rb 25 fr 3) : BV H' B T { σ with o := addB σ.o x } := by
  rw [addB_room h31]
  have hl : (σ.o ++ [x]).length = σ.o.length + 1 := by simp
  refine ⟨_, fw, fr, by rw [hl]; exact hs, ho, hk, hr, by rw [hl]; omega, V.wl, V.rl, ?_, ?_, ?_, ?_⟩
  · intro k y hy
    by_cases hk' : k < σ.o.length
    · rw [List.getElem?_append_left hk'] at hy
      rw [cel_congr (g := fun j => fo (0 + 11 * k + j))]
      · exact V.ov k y hy
      · intro j hj; exact pts_out (.inl (by omega))
    · rw [List.getElem?_append_right (by omega)] at hy
      have hk0 : k = σ.o.length := by
        have := (List.getElem?_eq_some_iff.1 hy).1
        simp at this
        omega
      subst hk0
      simp at hy
      subst hy
      rw [Nat.zero_add]
      exact cel_elev rfl
  · intro k y hy
    by_cases hk' : k < σ.o.length
    · rw [List.getElem?_append_left hk'] at hy
      exact V.ok k y hy
    · rw [List.getElem?_append_right (by omega)] at hy
      have hk0 : k = σ.o.length := by
        have := (List.getElem?_eq_some_iff.1 hy).1
        simp at this
        omega
      subst hk0
      simp at hy
      subst hy
      exact hx
  · intro k t ht
    obtain ⟨h1, h2, h3, h4, h5, h6⟩ := V.wv k t ht
    exact ⟨h1, h2, h3, by rw [hl]; omega, h5, by rw [hl]; omega⟩
  · intro k v hv
    obtain ⟨h1, h2, h3⟩ := V.rv k v hv
    exact ⟨h1, h2, by rw [hl]; omega⟩

theorem add108 {w : World} {B : SB} {T : List RE} {σ : BS} {x : PN} (D : D4 B) (V : BV w.heap B T σ) (hx : σ.o.length < 31 → OKx σ.o.length x) :
    Ret Tryz.prog 108 [ptr B.sb, .agg (ndP x).toArray] w (fun r w' => r = icv (top (addB σ.o x)) ∧ BV w'.heap B T { σ with o := addB σ.o x } ∧ Fram (bset B) w w') := by
  obtain ⟨fo, fw, fr, V⟩ := V
  obtain ⟨dso, dsk, dsr, dok, dor, dkr⟩ := D
  have hF : Fram (bset B) w w := Fram.refl _ _
  have hms : bset B B.sb := .inl rfl
  have hmo : bset B B.ob := .inr (.inl rfl)
  have hB := V.s
  have hO := V.o
  have hK := V.k
  have hR := V.r
  have hol := V.ol
  have hcl : (ndP x).length = 11 := rfl
  by_cases h31 : σ.o.length < 31
  · have ht : top (addB σ.o x) = (σ.o.length : Int) := by rw [addB_room h31, top_app]; simp
    rw [ht]
    refine ret_of Tryz.func108 rfl Tryz.ntmps108 rfl ?_
    refine c_seq (fun K1 hK1 => ?_)
    refine c_reg ?_ -- region 0 build.go:22
    refine wl_box (cs := (ndP x)) rfl rfl (fun ab w1 hbab hA F1 => ?_)
    have hbsab := Nat.le_trans hF.size hbab
    have hneB.sbab : B.sb < ab := Nat.lt_of_lt_of_le hB.lt hbab
    have hneB.obab : B.ob < ab := Nat.lt_of_lt_of_le hO.lt hbab
    have hneB.kbab : B.kb < ab := Nat.lt_of_lt_of_le hK.lt hbab
    have hneB.rbab : B.rb < ab := Nat.lt_of_lt_of_le hR.lt hbab
    replace hF := hF.thenDrew.thenN F1
    replace hB := F1.blkN hB
    replace hO := F1.blkN hO
    replace hK := F1.blkN hK
    replace hR := F1.blkN hR
    refine wl (ro_assign rfl) ?_
    refine wl_nil (x_then (hK1 _ _ ?_))
    clear hK1 K1
    refine c_seq (fun K2 hK2 => ?_)
    refine c_seq (fun K3 hK3 => ?_)
    refine c_pi [(0, false), (1, false), (2, false), (3, false), (4, false), (5, false), (6, false), (7, false), (8, false), (9, false)] (SameH _) mixed (by kernel_rfl) rfl (by kernel_rfl) (po_then (po_then (po_bp))) (sameH_now _ _) ?_ -- region 1 build.go:23
    refine pi_ro rfl (fun w hS => ro_move rfl) ?_
    refine pi_ro rfl (fun w hS => ro_nilCheck rfl) ?_
    refine pi_ro rfl (fun w hS => ro_fieldAddr (k := 4) rfl fo_101_4) ?_
    refine pi_ro rfl (fun w hS => ro_loadB rfl sc_3 (Blk.of_heap hB hS) (rfl)) ?_
    refine pi_ro rfl (fun w hS => ro_move rfl) ?_
    refine pi_ro rfl (fun w hS => ro_nilCheck rfl) ?_
    refine pi_ro rfl (fun w hS => ro_fieldAddr (k := 3) rfl fo_101_3) ?_
    refine pi_ro rfl (fun w hS => ro_loadB rfl sc_98 (Blk.of_heap hB hS) (rfl)) ?_
    refine pi_ro rfl (fun w hS => ro_lenL rfl se_98) ?_
    refine pi_ro rfl (fun w hS => ro_cmp (r := true) rfl rfl (congrArg some (decide_eq_true (by omega)))) ?_
    refine pi_nil (x_then (hK3 _ _ ?_))
    clear hK3 K3
    refine wc_condT rfl ?_
    refine c_seq (fun K4 hK4 => ?_)
    refine c_piL 10 [(0, false), (1, false), (2, false), (3, false), (4, false), (5, false), (6, false), (7, false), (8, false), (9, false)] (SameH _) mixed (by kernel_rfl) rfl (by kernel_rfl) (po_then (po_then (po_bp))) (sameH_now _ _) ?_ -- region 2 build.go:24
    refine ql_ro rfl (fun w hS => ro_move rfl) ?_
    refine ql_ro rfl (fun w hS => ro_nilCheck rfl) ?_
    refine ql_ro rfl (fun w hS => ro_fieldAddr (k := 3) rfl fo_101_3) ?_
    refine ql_ro rfl (fun w hS => ro_loadB rfl sc_98 (Blk.of_heap hB hS) (rfl)) ?_
    refine ql_ro rfl (fun w hS => ro_move rfl) ?_
    refine ql_ro rfl (fun w hS => ro_nilCheck rfl) ?_
    refine ql_ro rfl (fun w hS => ro_fieldAddr (k := 4) rfl fo_101_4) ?_
    refine ql_ro rfl (fun w hS => ro_loadB rfl sc_3 (Blk.of_heap hB hS) (rfl)) ?_
    refine ql_ro rfl (fun w hS => ro_loadAggB rfl ag_89 (Blk.of_heap hA hS) (hcl) (rfl)) ?_
    refine ql_ro rfl (fun w hS => ro_indexAddr (et := 89) (k := 11) rfl rfl se_98 (rfl) (h31)) ?_
    refine ql_puta rfl rfl rfl ((ndP_cells x)) sz_89 (hcl) hO ((by rw [cel_len]; simp; omega)) ((cel_puts (11 * σ.o.length) (by omega) hcl (by omega))) (fun w2 hO F2 => ?_)
    replace hF := hF.thenDrew.thenO F2 (by first | exact .inr (by omega) | exact .inl rfl | exact .inl (by assumption))
    replace hB := F2.blkO hB (by omega)
    replace hK := F2.blkO hK (by omega)
    replace hR := F2.blkO hR (by omega)
    replace hA := F2.blkO hA (by omega)
    refine x_then (hK4 _ _ ?_)
    clear hK4 K4
    refine c_reg ?_ -- region 3 build.go:25
    refine wl (ro_move rfl) ?_
    refine wl (ro_nilCheck rfl) ?_
    refine wl (ro_fieldAddr (k := 4) rfl fo_101_4) ?_
    refine wl (ro_loadB rfl sc_3 (hB) (rfl)) ?_
    refine wl (ro_arith rfl rfl rfl (Go.IntWalk.i64_in _ (by omega))) ?_
    refine wl (ro_nilCheck rfl) ?_
    refine wl (ro_fieldAddr (k := 4) rfl fo_101_4) ?_
    refine wl_put rfl rfl rfl sz_3 hB ((by simp)) (rfl) (fun w3 hB F3 => ?_)
    replace hF := hF.thenDrew.thenO F3 (by first | exact .inr (by omega) | exact .inl rfl | exact .inl (by assumption))
    replace hO := F3.blkO hO (by omega)
    replace hK := F3.blkO hK (by omega)
    replace hR := F3.blkO hR (by omega)
    replace hA := F3.blkO hA (by omega)
    refine wl_nil (x_then (hK2 _ _ ?_))
    clear hK2 K2
    refine forget [(0, _)] ⟨rfl, trivial⟩ (fun e => ?_)
    refine c_seq (fun K5 hK5 => ?_)
    refine c_reg ?_ -- region 4 build.go:27
    refine wl (ro_move rfl) ?_
    refine wl (ro_nilCheck rfl) ?_
    refine wl (ro_fieldAddr (k := 4) rfl fo_101_4) ?_
    refine wl (ro_loadB rfl sc_3 (hB) (rfl)) ?_
    refine wl (ro_arith (r := (σ.o.length : Int)) rfl rfl (by simp) (Go.IntWalk.i64_in _ (by omega))) ?_
    refine wl (ro_assign rfl) ?_
    refine wl_nil (x_then (hK5 _ _ ?_))
    clear hK5 K5
    refine c_ret ?_
    refine bp_ret Tryz.results108 rfl ?_
    exact ⟨rfl, V.added h31 (hx h31) hB hO hK hR, hF⟩
  · have e : addB σ.o x = σ.o := if_neg h31
    rw [e]
    refine ret_of Tryz.func108 rfl Tryz.ntmps108 rfl ?_
    refine c_seq (fun K1 hK1 => ?_)
    refine c_reg ?_ -- region 0 build.go:22
    refine wl_box (cs := (ndP x)) rfl rfl (fun ab w1 hbab hA F1 => ?_)
    have hbsab := Nat.le_trans hF.size hbab
    have hneB.sbab : B.sb < ab := Nat.lt_of_lt_of_le hB.lt hbab
    have hneB.obab : B.ob < ab := Nat.lt_of_lt_of_le hO.lt hbab
    have hneB.kbab : B.kb < ab := Nat.lt_of_lt_of_le hK.lt hbab
    have hneB.rbab : B.rb < ab := Nat.lt_of_lt_of_le hR.lt hbab
    replace hF := hF.thenDrew.thenN F1
    replace hB := F1.blkN hB
    replace hO := F1.blkN hO
    replace hK := F1.blkN hK
    replace hR := F1.blkN hR
    refine wl (ro_assign rfl) ?_
    refine wl_nil (x_then (hK1 _ _ ?_))
    clear hK1 K1
    refine c_seq (fun K2 hK2 => ?_)
    refine c_seq (fun K3 hK3 => ?_)
    refine c_pi [(0, false), (1, false), (2, false), (3, false), (4, false), (5, false), (6, false), (7, false), (8, false), (9, false)] (SameH _) mixed (by kernel_rfl) rfl (by kernel_rfl) (po_then (po_then (po_bp))) (sameH_now _ _) ?_ -- region 1 build.go:23
    refine pi_ro rfl (fun w hS => ro_move rfl) ?_
    refine pi_ro rfl (fun w hS => ro_nilCheck rfl) ?_
    refine pi_ro rfl (fun w hS => ro_fieldAddr (k := 4) rfl fo_101_4) ?_
    refine pi_ro rfl (fun w hS => ro_loadB rfl sc_3 (Blk.of_heap hB hS) (rfl)) ?_
    refine pi_ro rfl (fun w hS => ro_move rfl) ?_
    refine pi_ro rfl (fun w hS => ro_nilCheck rfl) ?_
    refine pi_ro rfl (fun w hS => ro_fieldAddr (k := 3) rfl fo_101_3) ?_
    refine pi_ro rfl (fun w hS => ro_loadB rfl sc_98 (Blk.of_heap hB hS) (rfl)) ?_
    refine pi_ro rfl (fun w hS => ro_lenL rfl se_98) ?_
    refine pi_ro rfl (fun w hS => ro_cmp (r := false) rfl rfl (congrArg some (decide_eq_false (by omega)))) ?_
    refine pi_nil (x_then (hK3 _ _ ?_))
    clear hK3 K3
    refine wc_condF rfl ?_
    refine c_skip (x_then (hK2 _ _ ?_))
    clear hK2 K2
    refine forget [(0, _)] ⟨rfl, trivial⟩ (fun e => ?_)
    refine c_seq (fun K4 hK4 => ?_)
    refine c_reg ?_ -- region 4 build.go:27
    refine wl (ro_move rfl) ?_
    refine wl (ro_nilCheck rfl) ?_
    refine wl (ro_fieldAddr (k := 4) rfl fo_101_4) ?_
    refine wl (ro_loadB rfl sc_3 (hB) (rfl)) ?_
    refine wl (ro_arith rfl rfl rfl (Go.IntWalk.i64_in _ (by omega))) ?_
    refine wl (ro_assign rfl) ?_
    refine wl_nil (x_then (hK4 _ _ ?_))
    clear hK4 K4
    refine c_ret ?_
    refine bp_ret Tryz.results108 rfl ?_
    exact ⟨rfl, ⟨fo, fw, fr, hB, hO, hK, hR, V.ol, V.wl, V.rl, V.ov, V.ok, V.wv, V.rv⟩, hF.thenDrew⟩

theorem node106 {w : World} {B : SB} {T : List RE} {σ : BS} {k : Nat} {a b : Int} (D : D4 B) (V : BV w.heap B T σ) (hx : σ.o.length < 31 → OKx σ.o.length (nd k a b)) :
    Ret Tryz.prog 106 [ptr B.sb, i64c k, icv a, icv b] w (fun r w' => r = icv (top (addB σ.o (nd k a b))) ∧ BV w'.heap B T { σ with o := addB σ.o (nd k a b) } ∧ Fram (bset B) w w') := by
  have hadd := add108 (x := nd k a b) D V hx
  simp only [nd, ndP, ndc, ← wd00] at hadd
  refine ret_of Tryz.func106 rfl Tryz.ntmps106 rfl ?_
  refine c_seq (fun K1 hK1 => ?_)
  refine c_reg ?_ -- region 0 build.go:31
  refine wl (ro_assign rfl) ?_
  refine wl_nil (x_then (hK1 _ _ ?_))
  clear hK1 K1
  refine forget [(0, _), (1, _), (2, _), (3, _)] ⟨rfl, rfl, rfl, rfl, trivial⟩ (fun e => ?_)
  refine c_seq (fun K2 hK2 => ?_)
  refine c_reg ?_ -- region 1 build.go:32
  refine wl (ro_move rfl) ?_
  refine wl (ro_move rfl) ?_
  refine wl (ro_move rfl) ?_
  refine wl (ro_move rfl) ?_
  refine wl (ro_build rfl bld_89_0_1_2) ?_
  refine wl_call rfl en_108 (hadd) ?_
  rintro _ w1 ⟨rfl, V1, F1⟩
  refine wl (ro_assign rfl) ?_
  refine wl_nil (x_then (hK2 _ _ ?_))
  clear hK2 K2
  refine c_ret ?_
  refine bp_ret Tryz.results106 rfl ?_
  exact ⟨rfl, V1, F1⟩

end Go.Proofs.Qxb6500567aGreat
