import Derived.Test.Qxb6500567aGreatHd
/- The compiler: what its block holds; push, lay. -/
namespace Go.Proofs.Qxb6500567aGreat
set_option linter.unusedVariables false
set_option linter.unusedSimpArgs false

/-- The cells of an instruction, of a piece of work. -/
abbrev ric (x : RI) : List Value := [i64c x.op, icv x.x, icv x.y, u64c (wd x.S 0), u64c (wd x.S 1), u64c (wd x.S 2), u64c (wd x.S 3)]
abbrev tke (q : Nat × Nat × Nat) : List Value := [i64c q.1, i64c q.2.1, i64c q.2.2]

theorem ric_len (x : RI) : (ric x).length = 7 := rfl
theorem tke_len (q : Nat × Nat × Nat) : (tke q).length = 3 := rfl
theorem ric_cells (x : RI) : ∀ u ∈ ric x, u.oneCell' = true := by
  intro u hu
  simp only [ric, List.mem_cons, List.not_mem_nil, or_false] at hu
  rcases hu with rfl | rfl | rfl | rfl | rfl | rfl | rfl <;> rfl
theorem tke_cells (q : Nat × Nat × Nat) : ∀ u ∈ tke q, u.oneCell' = true := by
  intro u hu
  simp only [tke, List.mem_cons, List.not_mem_nil, or_false] at hu
  rcases hu with rfl | rfl | rfl <;> rfl

/-- A piece of work as it lies. -/
def CkC (T : List RE) (t : CK) (q : Nat × Nat × Nat) : Prop := q.1 = t.what ∧ t.what ≤ 4 ∧ (t.what = 0 → T[q.2.1]? = some t.r) ∧ (t.what ≠ 0 → q.2.1 = t.a) ∧ (t.what = 1 → T[q.2.2]? = some t.r) ∧ (t.what = 3 → q.2.2 = t.b)

/-- Blocks from n on, of the compiler's three types. -/
def cfs (n p : Nat) (w : World) : Nat → Prop := fun b => n ≤ b ∧ b ≠ p ∧ ∃ (l : List Value) (t : Nat), Blk w.heap b l t ∧ (t = 168 ∨ t = 175 ∨ t = 171)

theorem Fram.transT {n p d : Nat} {a w w2 : World} (h : Fram (cfs n p a) a w) (k : Fram (cfs n p { w with drawn := d }) { w with drawn := d } w2) : Fram (cfs n p a) a w2 := by
  refine (h.thenDrew (k := d)).trans' k ?_
  intro b hb hc
  obtain ⟨h1, h0, l, t, h2, h3⟩ := hc
  apply Classical.byContradiction
  intro hn
  have h4 := h.block b hb hn
  exact hn ⟨h1, h0, l, t, Blk.of_eq h2 h4.symm, h3⟩
theorem Fram.blkP {n p t : Nat} {w w1 : World} {l : List Value} (f : Fram (cfs n p w) w w1) (h : Blk w.heap p l t) : Blk w1.heap p l t := h.fram f (fun hc => hc.2.1 rfl)
theorem Fram.blkT {n p b t : Nat} {w w1 : World} {l : List Value} (f : Fram (cfs n p w) w w1) (h : Blk w.heap b l t) (ht : t ≠ 168 ∧ t ≠ 175 ∧ t ≠ 171) : Blk w1.heap b l t := h.fram f (by
  rintro ⟨_, _, l', t', h1, h2⟩
  have := (h.uniq h1).2
  subst this
  omega)
theorem Own.cfs {w : World} {V : Value} {e k n n0 p : Nat} {xs : List Value} (h : Own w.heap V e k n xs) (he : e = 168 ∨ e = 175 ∨ e = 171) (hlo : ∀ b, V.ownBlock = some b → n0 ≤ b) (hp : V.ownBlock ≠ some p) : ∀ b, V.ownBlock = some b → cfs n0 p w b := by
  intro b hb
  rcases h.2 with ⟨h1, _⟩ | ⟨g, cap, l, h1, h2, _⟩
  · rw [h1] at hb; cases hb
  · refine ⟨hlo b hb, fun hbp => hp (by rw [← hbp]; exact hb), l, e, ?_, he⟩
    rw [h1] at hb; cases hb
    exact h2

/-- The compiler in memory. -/
structure CW (w : World) (cb nb nc n0 : Nat) (T : List RE) (c : Nat → Value) (σ : CS) (VC VW : Value) (Q : List (Nat × Nat × Nat)) : Prop where
  blk : Blk w.heap cb [.slice (some ⟨nb, 0, none⟩) T.length T.length, VC, VW] 168
  code : Own w.heap VC 175 7 σ.C.length (rws ric σ.C)
  todo : Own w.heap VW 171 3 Q.length (rws tke Q)
  ql : Q.length = σ.W.length
  qv : ∀ (k : Nat) (t : CK), σ.W[k]? = some t → ∃ q, Q[Q.length - 1 - k]? = some q ∧ CkC T t q
  hT : FB w.heap nb (T.length * 11) c 89
  nlo : nb < n0
  clo : n0 ≤ cb
  vlo : ∀ b, VC.ownBlock = some b → n0 ≤ b
  wlo : ∀ b, VW.ownBlock = some b → n0 ≤ b
  cl : σ.C.length ≤ 1000
  wl : σ.W.length ≤ 1000
  wt : ∀ t ∈ σ.W, t.what ≠ 0 → t.what ≠ 4 → t.a < σ.C.length
  np1 : VC.ownBlock ≠ some nc
  np2 : VW.ownBlock ≠ some nc
  np3 : cb ≠ nc
  np4 : nc < w.heap.size

def CWV (w : World) (cb nb nc n0 : Nat) (T : List RE) (c : Nat → Value) (σ : CS) : Prop := ∃ VC VW Q, CW w cb nb nc n0 T c σ VC VW Q

theorem CWV.framN {w w' : World} {cb nb nc n0 : Nat} {T : List RE} {c : Nat → Value} {σ : CS} (h : CWV w cb nb nc n0 T c σ) (f : Fram none' w w') : CWV w' cb nb nc n0 T c σ := by
  obtain ⟨VC, VW, Q, V⟩ := h
  exact ⟨VC, VW, Q, V.blk.framN f, V.code.fram f (fun _ _ h => h), V.todo.fram f (fun _ _ h => h), V.ql, V.qv, V.hT.framN f, V.nlo, V.clo, V.vlo, V.wlo, V.cl, V.wl, V.wt, V.np1, V.np2, V.np3, Nat.lt_of_lt_of_le V.np4 f.size⟩

theorem Own.sep {H : Array Obj} {V V' : Value} {e k n e' k' n' : Nat} {xs xs' : List Value} (h : Own H V e k n xs) (h' : Own H V' e' k' n' xs') (hne : e ≠ e') : ∀ b, V.ownBlock = some b → V'.ownBlock ≠ some b := by
  intro b hb hb'
  rcases h'.2 with ⟨h1, _⟩ | ⟨g, cap, l, h1, h2, _⟩
  · rw [h1] at hb'; cases hb'
  · rw [h1] at hb'; cases hb'
    exact h.neblk h2 hne _ hb rfl

theorem nob.low {V V' : Value} {w : World} {n : Nat} (h : nob V V' w) (h1 : ∀ b, V.ownBlock = some b → n ≤ b) (hn : n ≤ w.heap.size) : ∀ b, V'.ownBlock = some b → n ≤ b := by
  intro b hb
  rcases h b hb with h' | h'
  · exact h1 b h'
  · omega

set_option maxHeartbeats 4000000 in
theorem push73 {w : World} {cb nb nc n0 : Nat} {T : List RE} {c : Nat → Value} {σ : CS} {q : Nat × Nat × Nat} {t : CK} (V : CWV w cb nb nc n0 T c σ) (hq : CkC T t q) (hwl : σ.W.length < 1000) (hta : t.what ≠ 0 → t.what ≠ 4 → t.a < σ.C.length) :
    Ret Tryz.prog 73 [ptr cb, i64c q.1, i64c q.2.1, i64c q.2.2] w (fun v w' => v = .tuple #[] ∧ CWV w' cb nb nc n0 T c { σ with W := t :: σ.W } ∧ Fram (cfs n0 nc w) w w') := by
  obtain ⟨VC, VW, Q, V⟩ := V
  have hF : Fram (cfs n0 nc w) w w := Fram.refl _ _
  have hB := V.blk
  have hcd := V.code
  have htd := V.todo
  have hT := V.hT
  have hclo := V.clo
  have hnlo := V.nlo
  have hql := V.ql
  have hsz : n0 ≤ w.heap.size := Nat.le_trans hclo (Nat.le_of_lt hB.lt)
  have hm : cfs n0 nc w cb := ⟨hclo, V.np3, _, _, hB, .inl rfl⟩
  obtain ⟨aW, cW, rfl⟩ := htd.form
  obtain ⟨aC, cC, rfl⟩ := hcd.form
  refine ret_of Tryz.func73 rfl Tryz.ntmps73 rfl ?_
  refine c_reg ?_ -- region 0 compile.go:45
  refine wl (ro_move rfl) ?_
  refine wl (ro_move rfl) ?_
  refine wl (ro_nilCheck rfl) ?_
  refine wl (ro_fieldAddr (k := 2) rfl fo_168_2) ?_
  refine wl (ro_loadB rfl sc_166 (hB) (rfl)) ?_
  refine wl (ro_move rfl) ?_
  refine wl (ro_move rfl) ?_
  refine wl (ro_move rfl) ?_
  refine wl (ro_build rfl bld_171_0_1_2) ?_
  skip
  have hwn : ∀ b, (Value.slice aW Q.length cW).ownBlock = some b → b ≠ cb := fun b hb => htd.neblk hB (by decide) b hb
  have hwc : ∀ b, (Value.slice aC σ.C.length cC).ownBlock = some b → (Value.slice aW Q.length cW).ownBlock ≠ some b := hcd.sep htd (by decide)
  refine wl_bsapp (cs := tke q) rfl rfl rfl rfl se_166 zx_171 by_171 rfl rfl (tke_len q) (tke_cells q) htd (by omega) (by omega) (fun VX w3 hon3 F3 hnb3 ↦ ?_)
  replace hB := F3.blkF hB (fun h => hwn _ h rfl)
  replace hT := F3.blkF hT (fun h => by have := V.wlo _ h; omega)
  replace hcd := hcd.fram F3 (fun b hb h => hwc b hb h)
  replace hF := hF.transG F3 (fun k _ h => V.todo.cfs (.inr (.inr rfl)) V.wlo V.np2 k h)
  obtain ⟨aX, cX, rfl⟩ := hon3.form
  have hB0 := hB
  refine wl (ro_nilCheck rfl) ?_
  refine wl (ro_fieldAddr (k := 2) rfl fo_168_2) ?_
  refine wl_put rfl rfl rfl sz_166 hB ((by simp)) (rfl) (fun w1 hB F1 => ?_)
  replace hF := hF.thenDrew.thenO F1 (by first | exact .inr (by omega) | exact .inl rfl | exact .inl (by assumption))
  replace hT := F1.blkO hT (by omega)
  replace hcd := hcd.fram F1 (fun b hb h ↦ hcd.neblk hB0 (by decide) b hb h)
  have hon4 := hon3.fram F1 (fun b hb h ↦ hon3.neblk hB0 (by decide) b hb h)
  refine wl_nil ?_
  refine bp_end Tryz.results73 rfl ?_
  refine ⟨rfl, ⟨_, _, Q ++ [q], hB, hcd, by rw [rws_app, rws_one, List.length_append]; exact hon4, by simp [hql], ?_, hT, hnlo, hclo, V.vlo, hnb3.low V.wlo hsz, V.cl, by simp only [List.length_cons]; omega, ?_, V.np1, hnb3.sep V.np2 V.np4, V.np3, Nat.lt_of_lt_of_le V.np4 hF.size⟩, hF⟩
  · intro k u hu
    simp only [List.length_append, List.length_singleton]
    cases k with
    | zero =>
      simp only [List.getElem?_cons_zero, Option.some.injEq] at hu
      subst hu
      exact ⟨q, by rw [show Q.length + 1 - 1 - 0 = Q.length by omega, List.getElem?_append_right (by omega)]; simp, hq⟩
    | succ k =>
      rw [List.getElem?_cons_succ] at hu
      have hk := (List.getElem?_eq_some_iff.1 hu).1
      obtain ⟨q', h1, h2⟩ := V.qv k u hu
      exact ⟨q', by rw [show Q.length + 1 - 1 - (k + 1) = Q.length - 1 - k by omega, List.getElem?_append_left (by omega)]; exact h1, h2⟩
  · intro u hu
    rcases List.mem_cons.1 hu with rfl | hu
    · exact hta
    · exact V.wt u hu

set_option maxHeartbeats 4000000 in
theorem lay75 {w : World} {cb nb nc n0 : Nat} {T : List RE} {c : Nat → Value} {σ : CS} {x : RI} (V : CWV w cb nb nc n0 T c σ) (hcl : σ.C.length < 1000) :
    Ret Tryz.prog 75 [ptr cb, .agg (ric x).toArray] w (fun v w' => v = i64c σ.C.length ∧ CWV w' cb nb nc n0 T c { σ with C := σ.C ++ [x] } ∧ Fram (cfs n0 nc w) w w') := by
  obtain ⟨VC, VW, Q, V⟩ := V
  have hF : Fram (cfs n0 nc w) w w := Fram.refl _ _
  have hB := V.blk
  have hcd := V.code
  have htd := V.todo
  have hT := V.hT
  have hclo := V.clo
  have hnlo := V.nlo
  have hsz : n0 ≤ w.heap.size := Nat.le_trans hclo (Nat.le_of_lt hB.lt)
  have hm : cfs n0 nc w cb := ⟨hclo, V.np3, _, _, hB, .inl rfl⟩
  obtain ⟨aW, cW, rfl⟩ := htd.form
  obtain ⟨aC, cC, rfl⟩ := hcd.form
  refine ret_of Tryz.func75 rfl Tryz.ntmps75 rfl ?_
  refine c_seq (fun K1 hK1 => ?_)
  refine c_reg ?_ -- region 0 compile.go:38
  refine wl_box (cs := (ric x)) rfl rfl (fun ab w1 hbab hA F1 => ?_)
  have hbsab := Nat.le_trans hF.size hbab
  have hnecbab : cb < ab := Nat.lt_of_lt_of_le hB.lt hbab
  have hnenbab : nb < ab := Nat.lt_of_lt_of_le hT.lt hbab
  replace hF := hF.thenDrew.thenN F1
  replace hB := F1.blkN hB
  replace hT := F1.blkN hT
  replace hcd := hcd.fram F1 (fun _ _ h ↦ h)
  replace htd := htd.fram F1 (fun _ _ h ↦ h)
  refine wl (ro_assign rfl) ?_
  refine wl_nil (x_then (hK1 _ _ ?_))
  clear hK1 K1
  refine forget [(0, _), (3, _)] ⟨rfl, rfl, trivial⟩ (fun e => ?_)
  refine c_seq (fun K2 hK2 => ?_)
  refine c_piL 10 [(0, false), (1, false), (2, false), (3, false), (4, false), (5, false), (6, true), (7, true), (8, false), (9, false)] (fun w' => Blk w'.heap cb [.slice (some ⟨nb, 0, none⟩) T.length T.length, .slice aC σ.C.length cC, .slice aW Q.length cW] 168 ∧ Blk w'.heap ab (ric x) 175) mixed (by kernel_rfl) rfl (by kernel_rfl) (po_then (po_bp)) (⟨hB, hA⟩) ?_ -- region 1 compile.go:39
  refine ql_ro rfl (fun w hS => ro_move rfl) ?_
  refine ql_ro rfl (fun w hS => ro_move rfl) ?_
  refine ql_ro rfl (fun w hS => ro_nilCheck rfl) ?_
  refine ql_ro rfl (fun w hS => ro_fieldAddr (k := 1) rfl fo_168_1) ?_
  refine ql_ro rfl (fun w hS => ro_loadB rfl sc_109 (hS.1) (rfl)) ?_
  refine ql_ro rfl (fun w hS => ro_loadAggB rfl ag_175 (hS.2) (rfl) (rfl)) ?_
  skip
  have hwn : ∀ b, (Value.slice aC σ.C.length cC).ownBlock = some b → b ≠ cb := fun b hb => hcd.neblk hB (by decide) b hb
  have hwa : ∀ b, (Value.slice aC σ.C.length cC).ownBlock = some b → b ≠ ab := fun b hb he => by have := V.code.lt hb; omega
  have hwc : ∀ b, (Value.slice aW Q.length cW).ownBlock = some b → (Value.slice aC σ.C.length cC).ownBlock ≠ some b := htd.sep hcd (by decide)
  refine ql_bsapp (w := { w1 with drawn := w1.drawn + 1 }) (cs := ric x) rfl rfl rfl rfl rfl rfl se_109 zx_175 by_175 rfl rfl (ric_len x) (ric_cells x) hcd (by omega) (by omega) (fun w2 F ↦ ⟨F.blkN hB, F.blkN hA⟩) (fun w2 F ↦ ⟨F.blkF hB (fun h => hwn _ h rfl), F.blkF hA (fun h => hwa _ h rfl)⟩) (fun VX w3 hon3 F3 hnb3 ↦ ?_)
  replace hB := F3.blkF hB (fun h => hwn _ h rfl)
  replace hA := F3.blkF hA (fun h => hwa _ h rfl)
  replace hT := F3.blkF hT (fun h => by have := V.vlo _ h; omega)
  replace htd := htd.fram (w := { w1 with drawn := w1.drawn + 1 }) F3 (fun b hb h => hwc b hb h)
  replace hF := hF.transG F3 (fun k _ h => V.code.cfs (.inr (.inl rfl)) V.vlo V.np1 k h)
  have hnb4 : nob (Value.slice aC σ.C.length cC) VX w := fun b hb => (hnb3 b hb).imp id (fun h => by have : w1.heap.size ≤ b := h; have := F1.size; omega)
  obtain ⟨aX, cX, rfl⟩ := hon3.form
  have hB0 := hB
  refine ql_ro rfl (fun w hS => ro_nilCheck rfl) ?_
  refine ql_ro rfl (fun w hS => ro_fieldAddr (k := 1) rfl fo_168_1) ?_
  refine ql_put rfl rfl rfl rfl sz_109 hB ((by simp)) (rfl) (fun w2 hB F2 => ?_)
  replace hF := hF.thenDrew.thenO F2 (by first | exact .inr (by omega) | exact .inl rfl | exact .inl (by assumption))
  replace hT := F2.blkO hT (by omega)
  replace hA := F2.blkO hA (by omega)
  replace htd := htd.fram F2 (fun b hb h ↦ htd.neblk hB0 (by decide) b hb h)
  have hon4 := hon3.fram F2 (fun b hb h ↦ hon3.neblk hB0 (by decide) b hb h)
  refine x_then (hK2 _ _ ?_)
  clear hK2 K2
  refine forget [(0, _)] ⟨rfl, trivial⟩ (fun e => ?_)
  refine c_seq (fun K3 hK3 => ?_)
  refine c_reg ?_ -- region 2 compile.go:40
  refine wl (ro_move rfl) ?_
  refine wl (ro_nilCheck rfl) ?_
  refine wl (ro_fieldAddr (k := 1) rfl fo_168_1) ?_
  refine wl (ro_loadB rfl sc_109 (hB) (rfl)) ?_
  refine wl (ro_lenL rfl se_109) ?_
  refine wl (ro_arith (r := (σ.C.length : Int)) rfl rfl (by simp) (Go.IntWalk.i64_in _ (by omega))) ?_
  refine wl (ro_assign rfl) ?_
  refine wl_nil (x_then (hK3 _ _ ?_))
  clear hK3 K3
  refine c_ret ?_
  refine bp_ret Tryz.results75 rfl ?_
  refine ⟨rfl, ⟨_, _, Q, hB, by rw [rws_app, rws_one, List.length_append]; exact hon4, htd, V.ql, V.qv, hT, hnlo, hclo, hnb4.low V.vlo hsz, V.wlo, by rw [List.length_append]; show σ.C.length + 1 ≤ 1000; omega, V.wl, ?_, hnb4.sep V.np1 V.np4, V.np2, V.np3, Nat.lt_of_lt_of_le V.np4 hF.size⟩, hF⟩
  intro u hu h1 h2
  have := V.wt u hu h1 h2
  rw [List.length_append]
  omega

theorem upI_at' (f : RI → RI) : ∀ {C : List RI} {k : Nat} {x : RI}, C[k]? = some x → upI f C k = C.set k (f x)
  | y :: C, 0, x, h => by simp at h; subst h; rfl
  | y :: C, k + 1, x, h => by rw [List.getElem?_cons_succ] at h; show y :: upI f C k = _; rw [upI_at' f h]; rfl

theorem rws_set : ∀ {C : List RI} {k : Nat} {x y : RI} {j : Nat} {v : Value}, C[k]? = some x → j < 7 → ric y = (ric x).set j v → rws ric (C.set k y) = (rws ric C).set (k * 7 + j) v
  | z :: C, 0, x, y, j, v, h, hj, he => by
    simp only [List.getElem?_cons_zero, Option.some.injEq] at h
    subst h
    have e : ∀ u : RI, rws ric (u :: C) = ric u ++ rws ric C := fun u => by simp [rws]
    rw [List.set_cons_zero, e, e, he, Nat.zero_mul, Nat.zero_add, List.set_append_left _ _ (by rw [ric_len]; omega)]
  | z :: C, k + 1, x, y, j, v, h, hj, he => by
    rw [List.getElem?_cons_succ] at h
    have e : ∀ (u : RI) (D : List RI), rws ric (u :: D) = ric u ++ rws ric D := fun u D => by simp [rws]
    rw [List.set_cons_succ, e, e, rws_set h hj he, List.set_append_right _ _ (by rw [ric_len]; omega), ric_len]
    congr 2
    omega

/-- An instruction learns a place. -/
theorem CW.patch {w w1 : World} {cb nb nc n0 : Nat} {T : List RE} {c : Nat → Value} {σ : CS} {VC VW : Value} {Q : List (Nat × Nat × Nat)} {k j g cap : Nat} {l : List Value} {v : Value} {x : RI} {f : RI → RI} (V : CW w cb nb nc n0 T c σ VC VW Q) (hk : σ.C[k]? = some x) (hj : j < 7) (hf : ric (f x) = (ric x).set j v)
    (hV : VC = .slice (some ⟨g, 0, none⟩) σ.C.length cap) (hG : Blk w.heap g l 175) (hG1 : Blk w1.heap g (l.set (0 + k * 7 + j) v) 175) (F : Fram (one g) w w1) : CWV w1 cb nb nc n0 T c { σ with C := upI f σ.C k } ∧ Fram (cfs n0 nc w) w w1 := by
  have hkl := (List.getElem?_eq_some_iff.1 hk).1
  have hgo : VC.ownBlock = some g := by rw [hV]; rfl
  have hgc : g ≠ cb := V.code.neblk V.blk (by decide) g hgo
  have hgn : g ≠ nb := fun h => by have := V.vlo g hgo; have := V.nlo; omega
  obtain ⟨g', cap', l', hV', hB', h1, h2, h3, h4⟩ := V.code.pos (by omega)
  rw [hV] at hV'
  cases hV'
  have := (hG.uniq hB').1
  subst this
  refine ⟨⟨VC, VW, Q, V.blk.framO F (Ne.symm hgc), ?_, V.todo.fram F (fun b hb h => ?_), V.ql, V.qv, V.hT.framO F (Ne.symm hgn), V.nlo, V.clo, V.vlo, V.wlo, by rw [upI_len]; exact V.cl, V.wl, fun t ht h5 h6 => by rw [upI_len]; exact V.wt t ht h5 h6, V.np1, V.np2, V.np3, Nat.lt_of_lt_of_le V.np4 F.size⟩, F.mono (fun b _ h => ?_)⟩
  · rw [upI_len, upI_at' f hk]
    refine ⟨by rw [rws_len ric_len, List.length_set], .inr ⟨g, cap, _, hV, hG1, h1, h2, by rw [List.length_set]; exact h3, ?_⟩⟩
    rw [rws_set hk hj hf, ← h4, List.take_set, show 0 + k * 7 + j = k * 7 + j by omega]
  · simp only [one] at h
    subst h
    exact V.todo.sep V.code (by decide) _ hb hgo
  · simp only [one] at h
    subst h
    exact V.code.cfs (.inr (.inl rfl)) V.vlo V.np1 _ hgo

end Go.Proofs.Qxb6500567aGreat
