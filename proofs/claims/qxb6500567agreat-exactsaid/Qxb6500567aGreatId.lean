import Derived.Test.Qxb6500567aGreatIc
/- The compiler: compile; programs in memory; ProgOK. -/
namespace Go.Proofs.Qxb6500567aGreat
set_option linter.unusedVariables false
set_option linter.unusedSimpArgs false

/-- A program's slice. -/
abbrev pgs (gb n : Nat) : Value := .slice (some ⟨gb, 0, none⟩) n n
/-- A program in memory. -/
abbrev PGB (H : Array Obj) (gb : Nat) (C : List RI) : Prop := Blk H gb (rws ric C) 175

theorem rws_cells (C : List RI) : ∀ u ∈ rws ric C, u.oneCell' = true := by
  intro u hu
  obtain ⟨x, _, hx⟩ := List.mem_flatMap.1 hu
  exact ric_cells x u hx

theorem Blk.toFB {H : Array Obj} {b : Nat} {l : List Value} {t : TypeId} (h : Blk H b l t) : FB H b l.length (fun j => l.getD j undef) t := (congrArg (fun l => Blk H b l t) (cel_of l)).mp h

theorem copy_take {l : List Value} {f : Nat → Value} {m : Nat} (h : m ≤ l.length) : cel m (cpf f 0 (fun j => l.getD j undef) 0 m) = l.take m := by
  have e : l.take m = cel m (fun j => (l.take m).getD j undef) := by
    have := cel_of (l.take m)
    rw [List.length_take, Nat.min_eq_left h] at this
    exact this
  rw [e]
  apply cel_congr
  intro j hj
  rw [cpf_in (by omega) (by omega)]
  simp only [Nat.zero_add, Nat.sub_zero, List.getD]
  rw [List.getElem?_take, if_pos hj]

theorem CopyProg76 {w : World} {V : Value} {C : List RI} (hC : Own w.heap V 175 7 C.length (rws ric C)) (hl : 0 < C.length) (hl2 : C.length ≤ 1000) :
    Ret Tryz.prog 76 [V] w (fun v w' => ∃ qb, v = pgs qb C.length ∧ w.heap.size ≤ qb ∧ PGB w'.heap qb C ∧ Fram none' w w') := by
  have hF : Fram none' w w := Fram.refl _ _
  obtain ⟨g, cap, l, rfl, hG, h1, h2, h3, h4⟩ := hC.pos hl
  have hG' := hG.toFB
  have hrl := rws_len ric_len C
  refine ret_of Tryz.func76 rfl Tryz.ntmps76 rfl ?_
  refine c_seq (fun K1 hK1 => ?_)
  refine c_reg ?_ -- region 0 code.go:53
  refine wl (ro_assign rfl) ?_
  refine wl_nil (x_then (hK1 _ _ ?_))
  clear hK1 K1
  refine forget [(0, _)] ⟨rfl, trivial⟩ (fun e => ?_)
  refine c_seq (fun K2 hK2 => ?_)
  refine c_reg ?_ -- region 1 code.go:54
  refine wl (ro_move rfl) ?_
  refine wl (ro_lenL rfl se_109) ?_
  refine wl_make (len := C.length) (cap := C.length) rfl rfl se_109 ze_175 (by simp) (by omega) (by omega) rfl bb_175 (fun qb w1 hbqb hN F1 => ?_)
  have hbsqb := Nat.le_trans hF.size hbqb
  have hnegqb : g < qb := Nat.lt_of_lt_of_le hG'.lt hbqb
  replace hF := hF.thenDrew.thenN F1
  replace hG' := F1.blkN hG'
  refine wl (ro_assign rfl) ?_
  refine wl_nil (x_then (hK2 _ _ ?_))
  clear hK2 K2
  refine forget [(0, _), (3, _)] ⟨rfl, rfl, trivial⟩ (fun e => ?_)
  refine c_seq (fun K3 hK3 => ?_)
  refine c_reg ?_ -- region 2 code.go:55
  refine wl (ro_move rfl) ?_
  refine wl (ro_move rfl) ?_
  refine wl_copy (m := C.length) (k := 7) rfl rfl se_109 hN hG' (Nat.min_self _) (fun j hj ↦ ?_) (by omega) (by omega) (fun w3 hN F3 ↦ ?_)
  · skip
    refine rws_cells C _ ?_
    rw [← h4]
    have hjl : j < (l.take (C.length * 7)).length := by rw [List.length_take]; omega
    have : l.getD (0 + j) undef = (l.take (C.length * 7))[j] := by
      rw [Nat.zero_add, List.getElem_take, List.getD, List.getElem?_eq_getElem (by rw [List.length_take] at hjl; omega)]
      rfl
    rw [this]
    exact List.getElem_mem _
  replace hF := hF.thenO F3 (.inr (by omega))
  refine wl_nil (x_then (hK3 _ _ ?_))
  clear hK3 K3
  refine forget [(3, _)] ⟨rfl, trivial⟩ (fun e => ?_)
  refine c_seq (fun K4 hK4 => ?_)
  refine c_reg ?_ -- region 3 code.go:56
  refine wl (ro_move rfl) ?_
  refine wl (ro_assign rfl) ?_
  refine wl_nil (x_then (hK4 _ _ ?_))
  clear hK4 K4
  refine c_ret ?_
  refine bp_ret Tryz.results76 rfl ?_
  have e8 : cel (C.length * 7) (cpf (zc [.int .i64 0, .int .i64 0, .int .i64 0, .int .u64 0, .int .u64 0, .int .u64 0, .int .u64 0]) 0 (fun j => l.getD j undef) 0 (C.length * 7)) = rws ric C := by rw [copy_take (by omega), h4]
  exact ⟨qb, rfl, by omega, (congrArg (fun l => Blk w3.heap qb l 175) e8).mp hN, hF⟩

theorem stepC_len (t : CK) (σ : CS) : (stepC t σ).C.length ≤ σ.C.length + 1 ∧ (stepC t σ).W.length ≤ σ.W.length + 2 := by
  unfold stepC
  split
  · unfold nodeC
    split
    · simp
    · simp
    · simp
    · simp
    · simp
    · split <;> simp
    · simp
    · exact ⟨by omega, by omega⟩
  · split
    · simp [upI_len]
    · split
      · simp [upI_len]
      · split
        · split <;> simp [upI_len]
        · simp

theorem gs_subs : ∀ (r : RE) {g : Nat} {a : RE}, Code.block g a ∈ subs r → g ∈ gs r := by
  intro r
  induction r with
  | seq a b ia ib =>
    intro g x h
    simp only [subs, List.mem_append, List.mem_singleton] at h
    simp only [gs, List.mem_append]
    rcases h with (h | h) | h
    · exact .inl (ia h)
    · exact .inr (ib h)
    · cases h
  | cond _ a b ia ib =>
    intro g x h
    simp only [subs, List.mem_append, List.mem_singleton] at h
    simp only [gs, List.mem_append]
    rcases h with (h | h) | h
    · exact .inl (ia h)
    · exact .inr (ib h)
    · cases h
  | rangeFunc _ _ x a _ ia =>
    intro g y h
    simp only [subs, List.mem_append, List.mem_singleton] at h
    rcases h with h | h
    · exact ia h
    · cases h
  | block g' a ia =>
    intro g y h
    simp only [subs, List.mem_append, List.mem_singleton] at h
    simp only [gs, List.mem_cons]
    rcases h with h | h
    · exact .inr (ia h)
    · cases h; exact .inl rfl
  | skip | region _ _ _ | exit _ | refuse _ | loop _ _ | scope _ _ | goto _ | ret | label _ => intro g y h; simp [subs] at h

theorem CW.framW {w w' : World} {cb nb nc n0 : Nat} {T : List RE} {c : Nat → Value} {σ : CS} {VC VW : Value} {Q : List (Nat × Nat × Nat)} (V : CW w cb nb nc n0 T c σ VC VW Q) (f : Fram none' w w') : CW w' cb nb nc n0 T c σ VC VW Q :=
  ⟨V.blk.framN f, V.code.fram f (fun _ _ h => h), V.todo.fram f (fun _ _ h => h), V.ql, V.qv, V.hT.framN f, V.nlo, V.clo, V.vlo, V.wlo, V.cl, V.wl, V.wt, V.np1, V.np2, V.np3, Nat.lt_of_lt_of_le V.np4 f.size⟩
theorem CW.framY {w w' : World} {cb nb nc n0 x : Nat} {T : List RE} {c : Nat → Value} {σ : CS} {VC VW : Value} {Q : List (Nat × Nat × Nat)} (V : CW w cb nb nc n0 T c σ VC VW Q) (f : Fram (one x) w w') (h1 : cb ≠ x) (h2 : VW.ownBlock ≠ some x) (h3 : VC.ownBlock ≠ some x) (h4 : nb ≠ x) : CW w' cb nb nc n0 T c σ VC VW Q :=
  ⟨V.blk.framO f h1, V.code.fram f (fun b hb h => h3 (by rw [← (show b = x from h)]; exact hb)), V.todo.fram f (fun b hb h => h2 (by rw [← (show b = x from h)]; exact hb)), V.ql, V.qv, V.hT.framO f h4, V.nlo, V.clo, V.vlo, V.wlo, V.cl, V.wl, V.wt, V.np1, V.np2, V.np3, Nat.lt_of_lt_of_le V.np4 f.size⟩

/-- One piece is taken off. -/
theorem CW.pop {w w1 : World} {cb nb nc n0 g cap : Nat} {T : List RE} {c : Nat → Value} {C : List RI} {t : CK} {W : List CK} {VC : Value} {Q : List (Nat × Nat × Nat)} (V : CW w cb nb nc n0 T c ⟨C, t :: W⟩ VC (.slice (some ⟨g, 0, none⟩) Q.length cap) Q)
    (hB : Blk w1.heap cb [.slice (some ⟨nb, 0, none⟩) T.length T.length, VC, .slice (some ⟨g, 0, none⟩) (Q.length - 1) cap] 168) (F : Fram (one cb) w w1) : CWV w1 cb nb nc n0 T c ⟨C, W⟩ := by
  have hql := V.ql
  simp only [List.length_cons] at hql
  have hcb := V.code.neblk V.blk (by decide)
  have htb := V.todo.neblk V.blk (by decide)
  have ht := (V.todo.fram F (fun b hb h => htb b hb h)).take (m := Q.length - 1) (by omega)
  have e9 : (rws tke Q).take ((Q.length - 1) * 3) = rws tke (Q.take (Q.length - 1)) := by
    have hs : Q = Q.take (Q.length - 1) ++ Q.drop (Q.length - 1) := (List.take_append_drop _ _).symm
    conv => lhs; rw [hs, rws_app]
    have hl : (rws tke (Q.take (Q.length - 1))).length = (Q.length - 1) * 3 := by rw [rws_len tke_len, List.length_take]; congr 1; omega
    rw [List.take_left' (by rw [hl]; congr 1; simp)]
  refine ⟨VC, _, Q.take (Q.length - 1), hB, V.code.fram F (fun b hb h => hcb b hb h), ?_, by rw [List.length_take]; show _ = W.length; omega, ?_, V.hT.framO F (fun h => by have := V.clo; have := V.nlo; omega), V.nlo, V.clo, V.vlo, V.wlo, V.cl, by have := V.wl; simp only [List.length_cons] at this; show W.length ≤ 1000; omega, fun u hu => V.wt u (List.mem_cons_of_mem _ hu), V.np1, V.np2, V.np3, Nat.lt_of_lt_of_le V.np4 F.size⟩
  · rw [List.length_take, Nat.min_eq_left (by omega), ← e9]
    exact ht
  · intro k u hu
    have hk := (List.getElem?_eq_some_iff.1 hu).1
    simp only at hk
    obtain ⟨q', h1, h2⟩ := V.qv (k + 1) u (by rw [List.getElem?_cons_succ]; exact hu)
    refine ⟨q', ?_, h2⟩
    rw [List.length_take, Nat.min_eq_left (by omega), List.getElem?_take, if_pos (by omega), show Q.length - 1 - 1 - k = Q.length - 1 - (k + 1) by omega]
    exact h1

set_option maxHeartbeats 4000000 in
theorem compile58 {w : World} {nb g : Nat} {c : Nat → Value} {r : RE} (hT : FB w.heap nb (nds r * 11) c 89) (hAR : AR (subs r) c 0) (hn : nds r ≤ 31) (hgr : ∀ x ∈ gs r, x ≤ 1000) :
    Ret Tryz.prog 58 [.agg [.slice (some ⟨nb, 0, none⟩) (nds r) (nds r), i64c (nds r - 1), i64c g, icv 0, icv 0].toArray] w (fun v w' => ∃ qb, v = pgs qb (codeOf r).length ∧ w.heap.size ≤ qb ∧ PGB w'.heap qb (insL (codeOf r)) ∧ Fram none' w w') := by
  have hF : Fram none' w w := Fram.refl _ _
  have hb := hT.lt
  have hsl := subs_len r
  have hsla := subs_last r
  obtain ⟨k0, hk0, hrun0, hmat⟩ := compile_ok hn
  have hgs : ∀ (k g : Nat) (a : RE), (subs r)[k]? = some (.block g a) → g ≤ 1000 := fun k g a h => hgr g (gs_subs r (List.mem_of_getElem? h))
  generalize hfin : (⟨insL (E r 0), []⟩ : CS) = fin at hrun0
  rw [← hsl] at hT
  refine ret_of Tryz.func58 rfl Tryz.ntmps58 rfl ?_
  refine c_seq (fun K1 hK1 => ?_)
  refine c_reg ?_ -- region 0 compile.go:112
  refine wl_box (cs := [.slice (some ⟨nb, 0, none⟩) (nds r) (nds r), i64c (nds r - 1), i64c g, icv 0, icv 0]) rfl rfl (fun ab w1 hbab hA F1 => ?_)
  have hbsab := Nat.le_trans hF.size hbab
  have hnenbab : nb < ab := Nat.lt_of_lt_of_le hT.lt hbab
  replace hF := hF.thenDrew.thenN F1
  replace hT := F1.blkN hT
  refine wl (ro_assign rfl) ?_
  refine wl_nil (x_then (hK1 _ _ ?_))
  clear hK1 K1
  refine forget [(1, _)] ⟨rfl, trivial⟩ (fun e => ?_)
  refine c_seq (fun K2 hK2 => ?_)
  refine c_reg ?_ -- region 1 compile.go:113
  refine wl (ro_fieldAddr (k := 0) rfl fo_151_0) ?_
  refine wl (ro_loadB rfl sc_98 (hA) (rfl)) ?_
  refine wl (ro_build rfl bld_168_0) ?_
  refine wl_box (cs := [.slice (some ⟨nb, 0, none⟩) (nds r) (nds r), .slice none 0 0, .slice none 0 0]) rfl rfl (fun cb w2 hbcb hB F2 => ?_)
  have hbscb := Nat.le_trans hF.size hbcb
  have hnenbcb : nb < cb := Nat.lt_of_lt_of_le hT.lt hbcb
  have hneabcb : ab < cb := Nat.lt_of_lt_of_le hA.lt hbcb
  replace hF := hF.thenDrew.thenN F2
  replace hT := F2.blkN hT
  replace hA := F2.blkN hA
  refine wl (ro_assign rfl) ?_
  refine wl_nil (x_then (hK2 _ _ ?_))
  clear hK2 K2
  refine forget [(1, _), (3, _)] ⟨rfl, rfl, trivial⟩ (fun e => ?_)
  refine c_seq (fun K3 hK3 => ?_)
  have hV : CWV _ cb nb nb w.heap.size (subs r) c ⟨[], []⟩ := ⟨_, _, [], by rw [hsl]; exact hB, Own.nil _ _ _, Own.nil _ _ _, rfl, fun k t h => by simp at h, hT, hb, by omega, fun b h => by simp [Value.ownBlock] at h, fun b h => by simp [Value.ownBlock] at h, by simp, by simp, fun t h => by simp at h, by simp [Value.ownBlock], by simp [Value.ownBlock], by omega, hT.lt⟩
  refine c_reg ?_ -- region 2 compile.go:114
  refine wl (ro_move rfl) ?_
  refine wl (ro_fieldAddr (k := 1) rfl fo_151_1) ?_
  refine wl (ro_loadB rfl sc_3 (hA) (rfl)) ?_
  refine wl_call rfl en_73 (push73 (q := (0, nds r - 1, 0)) hV (ckc0 hsla) (by simp) (fun h ↦ absurd rfl h)) ?_
  rintro _ w3 ⟨rfl, V3, F3⟩
  clear hV
  replace hF := hF.transG F3 (fun k hk h ↦ absurd h.1 (by omega))
  refine wl_nil (x_then (hK3 _ _ ?_))
  clear hK3 K3
  refine c_seq (fun K4 hK4 => ?_)
  refine c_seq (fun K5 hK5 => ?_)
  refine c_reg ?_ -- region 3 compile.go:115
  refine wl (ro_assign rfl) ?_
  refine wl_nil (x_then (hK5 _ _ ?_))
  clear hK5 K5
  refine c_block ?_
  -- loop@r4: live slots [3, 4]
  refine c_loopG (fun m a' w' => ∃ (j : Nat) (σ : CS), runC m σ = fin ∧ j + m ≤ 93 ∧ σ.C.length ≤ j ∧ σ.W.length ≤ 1 + 2 * j ∧ CWV w' cb nb nb w.heap.size (subs r) c σ ∧ Fram none' w w' ∧ ∃ e, a' = Fr 63 (upds e [(3, ptr cb), (4, i64c j)]) []) k0 ⟨0, _, hrun0, by omega, by simp, by simp, V3, hF, kp _ ⟨rfl, rfl, trivial⟩⟩ ?_
  clear hB hF V3 hA hT
  rintro m a' w1 ⟨j, ⟨C, W⟩, hrun, hjm, hCj, hWj, ⟨VC, VW, Q, V⟩, hF, e, rfl⟩
  have hB := V.blk
  have hql := V.ql
  simp only at hCj hWj hql
  obtain ⟨aW, cW, hVW⟩ := V.todo.form
  subst hVW
  obtain ⟨aC, cC, hVC⟩ := V.code.form
  subst hVC
  refine c_seq (fun K6 hK6 => ?_)
  refine c_seq (fun K7 hK7 => ?_)
  have hqs : (∃ t W', W = t :: W') ∨ (W = [] ∧ j < 93) ∨ (W = [] ∧ ¬ j < 93) := by
    cases W with
    | nil => by_cases h : j < 93
             · exact .inr (.inl ⟨rfl, h⟩)
             · exact .inr (.inr ⟨rfl, h⟩)
    | cons t W' => exact .inl ⟨t, W', rfl⟩
  rcases hqs with ⟨t, W', rfl⟩ | ⟨rfl, hj93⟩ | ⟨rfl, hj93⟩
  · skip
    obtain ⟨m', rfl⟩ : ∃ m', m = m' + 1 := by
      cases m with
      | zero => rw [← hfin] at hrun; simp [runC] at hrun
      | succ m' => exact ⟨m', rfl⟩
    have hrun1 : runC m' (stepC t ⟨C, W'⟩) = fin := hrun
    obtain ⟨q, hq, hck⟩ := V.qv 0 t rfl
    simp only [List.length_cons] at hql hWj
    rw [Nat.sub_zero] at hq
    obtain ⟨tg, tcap, tl, hVW, hG, ht1, ht2, ht3, ht4⟩ := V.todo.pos (by omega)
    cases hVW
    have hld : (tl.drop (0 + (Q.length - 1) * 3)).take 3 = tke q := by
      have := rws_at tke_len hq
      rw [← ht4, List.drop_take, List.take_take] at this
      rw [Nat.zero_add, ← this]
      congr 1
      omega
    have htg := V.todo.neblk V.blk (by decide) tg rfl
    have hcllt := V.blk.lt
    have hstl := stepC_len t ⟨C, W'⟩
    simp only at hstl
    refine c_reg ?_ -- region 4 compile.go:115
    refine wl (ro_move rfl) ?_
    refine wl (ro_cmp (r := true) rfl rfl (congrArg some (decide_eq_true (by omega)))) ?_
    refine wl (ro_move rfl) ?_
    refine wlg_yes rfl (ro_move rfl) ?_
    refine wlg_yes rfl (ro_nilCheck rfl) ?_
    refine wlg_yes rfl (ro_fieldAddr (k := 2) rfl fo_168_2) ?_
    refine wlg_yes rfl (ro_loadB rfl sc_166 (hB) (rfl)) ?_
    refine wlg_yes rfl (ro_lenL rfl se_166) ?_
    refine wlg_yes rfl (ro_cmp (r := true) rfl rfl (congrArg some (decide_eq_true (by omega)))) ?_
    refine wl (ro_pick rfl rfl rfl) ?_
    refine wl_nil (x_then (hK7 _ _ ?_))
    clear hK7 K7
    refine wc_condT rfl ?_
    refine c_skip (x_then (hK6 _ _ ?_))
    clear hK6 K6
    refine forget [(3, _), (4, _), (17, _), (18, _), (19, _), (20, _), (21, _), (22, _)] ⟨rfl, rfl, rfl, rfl, rfl, rfl, rfl, rfl, trivial⟩ (fun e => ?_)
    refine c_seq (fun K8 hK8 => ?_)
    refine c_block ?_
    refine c_seq (fun K9 hK9 => ?_)
    refine c_piL 13 [(0, false), (1, false), (2, false), (3, false), (4, false), (5, false), (6, false), (7, false), (8, false), (9, false), (10, false), (11, false), (12, true)] (fun w' => Blk w'.heap cb [.slice (some ⟨nb, 0, none⟩) (subs r).length (subs r).length, .slice aC C.length cC, .slice (some ⟨tg, 0, none⟩) Q.length cW] 168 ∧ Blk w'.heap tg tl 171) mixed (by kernel_rfl) rfl (by kernel_rfl) (po_then (po_blk (po_then (po_then (po_blk (po_then (po_bp))))))) (⟨hB, hG⟩) ?_ -- region 6 compile.go:116
    refine ql_ro rfl (fun w hS => ro_move rfl) ?_
    refine ql_ro rfl (fun w hS => ro_nilCheck rfl) ?_
    refine ql_ro rfl (fun w hS => ro_fieldAddr (k := 2) rfl fo_168_2) ?_
    refine ql_ro rfl (fun w hS => ro_loadB rfl sc_166 (hS.1) (rfl)) ?_
    refine ql_ro rfl (fun w hS => ro_move rfl) ?_
    refine ql_ro rfl (fun w hS => ro_nilCheck rfl) ?_
    refine ql_ro rfl (fun w hS => ro_fieldAddr (k := 2) rfl fo_168_2) ?_
    refine ql_ro rfl (fun w hS => ro_loadB rfl sc_166 (hS.1) (rfl)) ?_
    refine ql_ro rfl (fun w hS => ro_lenL rfl se_166) ?_
    refine ql_ro rfl (fun w hS => ro_arith (r := ((Q.length - 1 : Nat) : Int)) rfl rfl (congrArg some (by omega)) (Go.IntWalk.i64_in _ (by omega))) ?_
    refine ql_ro rfl (fun w hS => ro_indexAddr (et := 171) (k := 3) rfl rfl se_166 (rfl) ((by omega : Q.length - 1 < Q.length))) ?_
    refine ql_ro rfl (fun w hS => ro_loadAggB rfl ag_171 (hS.2) (rfl) (hld)) ?_
    refine ql_new rfl ze_171 (fun w1 F ↦ ⟨F.blkN hB, F.blkN hG⟩) ?_
    intro xb w3 hbxb hX F3
    have hbsxb := Nat.le_trans hF.size hbxb
    have hnecbxb : cb < xb := Nat.lt_of_lt_of_le hB.lt hbxb
    replace hF := hF.thenDrew.thenN F3
    replace hB := F3.blkN hB
    have hG2 := F3.blkN hG
    have hbx1 : w1.heap.size ≤ xb := hbxb
    have V2 : CW w3 cb nb nb w.heap.size (subs r) c ⟨C, t :: W'⟩ (.slice aC C.length cC) (.slice (some ⟨tg, 0, none⟩) Q.length cW) Q := V.framW (Fram.undrew F3)
    refine ql_puta rfl rfl rfl ((tke_cells q)) sz_171 (rfl) hX ((by simp)) ((show _ = tke q from rfl)) (fun w4 hX F4 => ?_)
    replace hF := hF.thenDrew.thenO F4 (by first | exact .inr (by omega) | exact .inl rfl | exact .inl (by assumption))
    replace hB := F4.blkO hB (by omega)
    have V3 := V2.framY F4 (by omega) (fun h ↦ by have := V.todo.lt h; omega) (fun h ↦ by have := V.code.lt h; omega) (by have := V.hT.lt; omega)
    refine x_then (hK9 _ _ ?_)
    clear hK9 K9
    refine forget [(3, _), (4, _), (5, _), (17, _), (18, _), (19, _), (20, _), (21, _), (22, _)] ⟨rfl, rfl, rfl, rfl, rfl, rfl, rfl, rfl, rfl, trivial⟩ (fun e => ?_)
    refine c_seq (fun K10 hK10 => ?_)
    refine c_piL 14 [(0, false), (1, false), (2, false), (3, false), (4, false), (5, false), (6, false), (7, false), (8, false), (9, false), (10, false), (11, false), (12, false), (13, false)] (SameH _) mixed (by kernel_rfl) rfl (by kernel_rfl) (po_then (po_blk (po_then (po_then (po_blk (po_then (po_bp))))))) (sameH_now _ _) ?_ -- region 7 compile.go:117
    refine ql_ro rfl (fun w hS => ro_move rfl) ?_
    refine ql_ro rfl (fun w hS => ro_move rfl) ?_
    refine ql_ro rfl (fun w hS => ro_nilCheck rfl) ?_
    refine ql_ro rfl (fun w hS => ro_fieldAddr (k := 2) rfl fo_168_2) ?_
    refine ql_ro rfl (fun w hS => ro_loadB rfl sc_166 (Blk.of_heap hB hS) (rfl)) ?_
    refine ql_ro rfl (fun w hS => ro_move rfl) ?_
    refine ql_ro rfl (fun w hS => ro_nilCheck rfl) ?_
    refine ql_ro rfl (fun w hS => ro_fieldAddr (k := 2) rfl fo_168_2) ?_
    refine ql_ro rfl (fun w hS => ro_loadB rfl sc_166 (Blk.of_heap hB hS) (rfl)) ?_
    refine ql_ro rfl (fun w hS => ro_lenL rfl se_166) ?_
    refine ql_ro rfl (fun w hS => ro_arith (r := ((Q.length - 1 : Nat) : Int)) rfl rfl (congrArg some (by omega)) (Go.IntWalk.i64_in _ (by omega))) ?_
    refine ql_ro rfl (fun w hS => ro_sliceH (h := Q.length - 1) rfl rfl se_166 rfl (by omega)) ?_
    refine ql_ro rfl (fun w hS => ro_nilCheck rfl) ?_
    refine ql_ro rfl (fun w hS => ro_fieldAddr (k := 2) rfl fo_168_2) ?_
    refine ql_put rfl rfl rfl rfl sz_166 hB ((by simp)) (rfl) (fun w5 hB F5 => ?_)
    replace hF := hF.thenDrew.thenO F5 (by first | exact .inr (by omega) | exact .inl rfl | exact .inl (by assumption))
    replace hX := F5.blkO hX (by omega)
    have V4 := V3.pop hB (Fram.undrew F5)
    refine x_then (hK10 _ _ ?_)
    clear hK10 K10
    refine c_reg ?_ -- region 8 compile.go:118
    refine wl (ro_move rfl) ?_
    refine wl (ro_loadAggB rfl ag_171 (hX) (rfl) (rfl)) ?_
    refine wl_call rfl en_74 (step74 V4 hAR hck (V.wt t (List.mem_cons_self ..)) hgs (by show C.length < 800; omega) (by show W'.length < 800; omega)) ?_
    rintro _ w8 ⟨rfl, V8, F8⟩
    replace hF := hF.transG F8 (fun k hk h ↦ absurd h.1 (by omega))
    refine wl_nil (x_blk (x_then (hK8 _ _ ?_)))
    clear hK8 K8
    refine c_reg ?_ -- region 5 compile.go:115
    refine wl (ro_move rfl) ?_
    refine wl (ro_arith rfl rfl rfl (Go.IntWalk.i64_in _ (by omega))) ?_
    refine wl (ro_assign rfl) ?_
    refine wl_nil (x_then ?_)
    exact ⟨m', by omega, j + 1, _, hrun1, by omega, by omega, by omega, V8, hF, kp _ ⟨rfl, rfl, trivial⟩⟩
  · skip
    refine c_reg ?_ -- region 4 compile.go:115
    refine wl (ro_move rfl) ?_
    refine wl (ro_cmp (r := true) rfl rfl (congrArg some (decide_eq_true (by omega)))) ?_
    refine wl (ro_move rfl) ?_
    refine wlg_yes rfl (ro_move rfl) ?_
    refine wlg_yes rfl (ro_nilCheck rfl) ?_
    refine wlg_yes rfl (ro_fieldAddr (k := 2) rfl fo_168_2) ?_
    refine wlg_yes rfl (ro_loadB rfl sc_166 (hB) (rfl)) ?_
    refine wlg_yes rfl (ro_lenL rfl se_166) ?_
    refine wlg_yes rfl (ro_cmp (r := false) rfl rfl (congrArg some (decide_eq_false (by have : Q.length = 0 := hql; omega)))) ?_
    refine wl (ro_pick rfl rfl rfl) ?_
    refine wl_nil (x_then (hK7 _ _ ?_))
    clear hK7 K7
    refine wc_condF rfl ?_
    refine c_exit (x_thenX (x_thenX (x_blkX (x_then (hK4 _ _ ?_)))))
    clear hK6 K6 hK4 K4
    refine forget [(3, _)] ⟨rfl, trivial⟩ (fun e => ?_)
    refine c_seq (fun K11 hK11 => ?_)
    have hrn : C = insL (E r 0) := by
      rw [runC_nil, ← hfin] at hrun
      exact congrArg CS.C hrun
    have hCl : C.length < 1000 := by omega
    have VV : CWV w1 cb nb nb w.heap.size (subs r) c ⟨C, []⟩ := ⟨_, _, Q, V⟩
    refine c_reg ?_ -- region 9 compile.go:120
    refine wl (ro_move rfl) ?_
    refine wl (ro_build rfl bld_175_0) ?_
    refine wl_call rfl en_75 (lay75' VV hCl) ?_
    rintro _ w3 ⟨rfl, V3, F3⟩
    replace hF := hF.transG F3 (fun k hk h ↦ absurd h.1 (by omega))
    obtain ⟨VC3, VW3, Q3, V3⟩ := V3
    clear hB
    have hB := V3.blk
    have hcode : C ++ [(⟨6, 0, 0, 0⟩ : RI)] = insL (codeOf r) := hmat C hrn
    have hcd := V3.code
    simp only [hcode] at hcd
    have hcl2 : (insL (codeOf r)).length = (codeOf r).length := by simp
    have hcl3 : (codeOf r).length ≤ 1000 := by
      have := V3.cl
      simp only [hcode] at this
      rw [hcl2] at this
      exact this
    have hcl4 : 0 < (codeOf r).length := by simp [codeOf]
    refine wl_nil (x_then (hK11 _ _ ?_))
    clear hK11 K11
    refine forget [(3, _)] ⟨rfl, trivial⟩ (fun e => ?_)
    refine c_seq (fun K12 hK12 => ?_)
    refine c_reg ?_ -- region 10 compile.go:121
    refine wl (ro_move rfl) ?_
    refine wl (ro_nilCheck rfl) ?_
    refine wl (ro_fieldAddr (k := 1) rfl fo_168_1) ?_
    refine wl (ro_loadB rfl sc_109 (hB) (rfl)) ?_
    refine wl_call rfl en_76 (CopyProg76 hcd (by rw [hcl2]; exact hcl4) (by rw [hcl2]; exact hcl3)) ?_
    rintro _ w4 ⟨qb, rfl, hqb, hq4, F4⟩
    have hsz4 := hF.size
    replace hF := hF.thenN F4
    refine wl (ro_assign rfl) ?_
    refine wl_nil (x_then (hK12 _ _ ?_))
    clear hK12 K12
    refine c_ret ?_
    refine bp_ret Tryz.results58 rfl ?_
    rw [hcl2]; exact ⟨qb, rfl, by omega, hq4, hF⟩
  · skip
    refine c_reg ?_ -- region 4 compile.go:115
    refine wl (ro_move rfl) ?_
    refine wl (ro_cmp (r := false) rfl rfl (congrArg some (decide_eq_false (by omega)))) ?_
    refine wl (ro_move rfl) ?_
    refine wlg_no rfl ?_
    refine wlg_no rfl ?_
    refine wlg_no rfl ?_
    refine wlg_no rfl ?_
    refine wlg_no rfl ?_
    refine wlg_no rfl ?_
    refine wl (ro_pick rfl rfl rfl) ?_
    refine wl_nil (x_then (hK7 _ _ ?_))
    clear hK7 K7
    refine wc_condF rfl ?_
    refine c_exit (x_thenX (x_thenX (x_blkX (x_then (hK4 _ _ ?_)))))
    clear hK6 K6 hK4 K4
    refine forget [(3, _)] ⟨rfl, trivial⟩ (fun e => ?_)
    refine c_seq (fun K13 hK13 => ?_)
    have hrn : C = insL (E r 0) := by
      rw [runC_nil, ← hfin] at hrun
      exact congrArg CS.C hrun
    have hCl : C.length < 1000 := by omega
    have VV : CWV w1 cb nb nb w.heap.size (subs r) c ⟨C, []⟩ := ⟨_, _, Q, V⟩
    refine c_reg ?_ -- region 9 compile.go:120
    refine wl (ro_move rfl) ?_
    refine wl (ro_build rfl bld_175_0) ?_
    refine wl_call rfl en_75 (lay75' VV hCl) ?_
    rintro _ w3 ⟨rfl, V3, F3⟩
    replace hF := hF.transG F3 (fun k hk h ↦ absurd h.1 (by omega))
    obtain ⟨VC3, VW3, Q3, V3⟩ := V3
    clear hB
    have hB := V3.blk
    have hcode : C ++ [(⟨6, 0, 0, 0⟩ : RI)] = insL (codeOf r) := hmat C hrn
    have hcd := V3.code
    simp only [hcode] at hcd
    have hcl2 : (insL (codeOf r)).length = (codeOf r).length := by simp
    have hcl3 : (codeOf r).length ≤ 1000 := by
      have := V3.cl
      simp only [hcode] at this
      rw [hcl2] at this
      exact this
    have hcl4 : 0 < (codeOf r).length := by simp [codeOf]
    refine wl_nil (x_then (hK13 _ _ ?_))
    clear hK13 K13
    refine forget [(3, _)] ⟨rfl, trivial⟩ (fun e => ?_)
    refine c_seq (fun K14 hK14 => ?_)
    refine c_reg ?_ -- region 10 compile.go:121
    refine wl (ro_move rfl) ?_
    refine wl (ro_nilCheck rfl) ?_
    refine wl (ro_fieldAddr (k := 1) rfl fo_168_1) ?_
    refine wl (ro_loadB rfl sc_109 (hB) (rfl)) ?_
    refine wl_call rfl en_76 (CopyProg76 hcd (by rw [hcl2]; exact hcl4) (by rw [hcl2]; exact hcl3)) ?_
    rintro _ w4 ⟨qb, rfl, hqb, hq4, F4⟩
    have hsz4 := hF.size
    replace hF := hF.thenN F4
    refine wl (ro_assign rfl) ?_
    refine wl_nil (x_then (hK14 _ _ ?_))
    clear hK14 K14
    refine c_ret ?_
    refine bp_ret Tryz.results58 rfl ?_
    rw [hcl2]; exact ⟨qb, rfl, by omega, hq4, hF⟩

end Go.Proofs.Qxb6500567aGreat
