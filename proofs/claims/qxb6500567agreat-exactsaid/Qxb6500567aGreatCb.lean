import Derived.Test.Qxb6500567aGreatCa
/- The model's parser: add, set. -/
namespace Go.Proofs.Qxb6500567aGreat
set_option linter.unusedVariables false
set_option linter.unusedSimpArgs false

/-- The run, at an error. -/
def ME (w : World) (rb : Nat) (p : List UInt8) (e : Er) (B : Nat) : Prop := ∃ (k : Nat) (a : Option Addr) (l c g : Nat), k ≤ B ∧ Blk w.heap rb (rc p k (.slice a l c) g e.1 e.2) 187

/-- The block of the nodes is the old one, or new. -/
def nob (VN VN' : Value) (w : World) : Prop := ∀ b, VN'.ownBlock = some b → VN.ownBlock = some b ∨ w.heap.size ≤ b

theorem nob.refl (VN : Value) (w : World) : nob VN VN w := fun b h => .inl h
theorem nob.trans {V1 V2 V3 : Value} {w1 w2 : World} {F : Nat → Prop} (h : nob V1 V2 w1) (h' : nob V2 V3 w2) (hf : Fram F w1 w2) : nob V1 V3 w1 := by
  intro b hb
  rcases h' b hb with h'' | h''
  · exact h b h''
  · have := hf.size; exact .inr (by omega)
theorem nob.after {V1 V2 : Value} {w1 w2 : World} {F : Nat → Prop} (h : nob V1 V2 w2) (hf : Fram F w1 w2) : nob V1 V2 w1 := by
  intro b hb
  rcases h b hb with h'' | h''
  · exact .inl h''
  · have := hf.size; exact .inr (by omega)
theorem Fram.mfrM {rb : Nat} {V1 V2 : Value} {w w1 w2 : World} (h : Fram (mfr rb V1) w w1) (h' : Fram (mfr rb V2) w1 w2) (hn : nob V1 V2 w) : Fram (mfr rb V1) w w2 :=
  h.trans' h' (fun k hk hm => by
    rcases hm with hm | hm
    · exact .inl hm
    · rcases hn k hm with h | h
      · exact .inr h
      · omega)
theorem Fram.mfrO {rb : Nat} {V1 : Value} {w w1 w2 : World} (h : Fram (mfr rb V1) w w1) (h' : Fram (one rb) w1 w2) : Fram (mfr rb V1) w w2 := h.trans' h' (fun k _ hm => .inl hm)
theorem Fram.mfrN {rb : Nat} {V1 : Value} {w w1 w2 : World} (h : Fram (mfr rb V1) w w1) (h' : Fram none' w1 w2) : Fram (mfr rb V1) w w2 := h.thenN h'
theorem Fram.toM {rb : Nat} {V1 : Value} {w w1 : World} (h : Fram (one rb) w w1) : Fram (mfr rb V1) w w1 := h.mono (fun k _ hm => .inl hm)

theorem Fram.toM' {rb : Nat} {V1 : Value} {w w1 : World} (h : Fram none' w w1) : Fram (mfr rb V1) w w1 := h.mono (fun k _ hm => hm.elim)
theorem Own.framX {w w' : World} {v : Value} {e k n b : Nat} {xs : List Value} (h : Own w.heap v e k n xs) (hf : Fram (one b) w w') (hn : ∀ c, v.ownBlock = some c → c ≠ b) : Own w'.heap v e k n xs := h.fram hf (fun c hc he => hn c hc he)
theorem ME.framN {w w' : World} {rb : Nat} {p : List UInt8} {e : Er} {B : Nat} (h : ME w rb p e B) (hf : Fram none' w w') : ME w' rb p e B := by
  obtain ⟨k, a, l, c, g, hk, hB⟩ := h
  exact ⟨k, a, l, c, g, hk, hB.framN hf⟩
theorem ME.up {w : World} {rb : Nat} {p : List UInt8} {e : Er} {B B' : Nat} (h : ME w rb p e B) (hb : B ≤ B') : ME w rb p e B' := by
  obtain ⟨k, a, l, c, g, hk, hB⟩ := h
  exact ⟨k, a, l, c, g, by omega, hB⟩

theorem add116e {w : World} {rb : Nat} {p : List UInt8} {e : Er} {B : Nat} {cs : List Value} (hE : ME w rb p e B) (he : e.1 ≠ 0) : Ret Tryz.prog 116 [ptr rb, .agg cs.toArray] w (fun v w' => v = icv (-1) ∧ ME w' rb p e B ∧ Fram none' w w') := by
  obtain ⟨k, a, l, c, g, hk, hB⟩ := hE
  have hF : Fram none' w w := Fram.refl _ _
  refine ret_of Tryz.func116 rfl Tryz.ntmps116 rfl ?_
  refine c_seq (fun K1 hK1 => ?_)
  refine c_reg ?_ -- region 0 syntaxm.go:33
  refine wl_box (cs := cs) rfl rfl (fun ab w1 hbab hA F1 => ?_)
  have hnerbab : rb < ab := Nat.lt_of_lt_of_le hB.lt hbab
  have hbsab := Nat.le_trans hF.size hbab
  replace hB := F1.blkN hB
  replace hF := hF.thenDrew.thenN F1
  refine wl (ro_assign rfl) ?_
  refine wl_nil (x_then (hK1 _ _ ?_))
  clear hK1 K1
  refine c_seq (fun K2 hK2 => ?_)
  refine c_seq (fun K3 hK3 => ?_)
  refine c_reg ?_ -- region 1 syntaxm.go:34
  refine wl (ro_move rfl) ?_
  refine wl (ro_nilCheck rfl) ?_
  refine wl (ro_fieldAddr (k := 4) rfl fo_187_4) ?_
  refine wl (ro_loadB rfl sc_53 (hB) (rfl)) ?_
  refine wl (ro_cmp (r := true) rfl rfl (congrArg some ((bnec e.1 0).trans (decide_eq_true he)))) ?_
  refine wl_nil (x_then (hK3 _ _ ?_))
  clear hK3 K3
  refine wc_condT rfl ?_
  refine c_seq (fun K4 hK4 => ?_)
  refine c_reg ?_ -- region 2 syntaxm.go:35
  refine wl (ro_assign rfl) ?_
  refine wl_nil (x_then (hK4 _ _ ?_))
  clear hK4 K4
  refine c_ret (x_thenR ?_)
  refine bp_ret Tryz.results116 rfl ?_
  exact ⟨rfl, ⟨k, a, l, c, g, hk, hB⟩, hF⟩

/-- What add answers. -/
def AddM (w : World) (rb : Nat) (p : List UInt8) (i n g : Nat) (T : List RE) (VN : Value) (r : RE) (v : Value) (w' : World) : Prop :=
  (n < 24 ∧ v = i64c n ∧ ∃ VN' xs', MV w' rb p i (n + 1) g (T ++ [r]) VN' xs' ∧ nob VN VN' w) ∨ (24 ≤ n ∧ v = icv (-1) ∧ ME w' rb p (8, i) i)

theorem lf_app {xs cs : List Value} {j : Nat} (h : j < xs.length) : lf (xs ++ cs) j = lf xs j := by
  simp only [lf, List.getD]
  rw [List.getElem?_append_left h]

theorem add116 {w : World} {rb : Nat} {p : List UInt8} {i n g : Nat} {T : List RE} {VN : Value} {xs : List Value} {r : RE} {cs : List Value} (M : MV w rb p i n g T VN xs) (hN : ND T n r cs) :
    Ret Tryz.prog 116 [ptr rb, .agg cs.toArray] w (fun v w' => AddM w rb p i n g T VN r v w' ∧ Fram (mfr rb VN) w w') := by
  have hB := M.blk
  have hF : Fram (mfr rb VN) w w := Fram.refl _ _
  have hcl := hN.len
  have hn24 := M.n24
  obtain ⟨aV, cV, hVN⟩ := M.own.form
  by_cases h24 : 24 ≤ n
  · subst hVN
    refine ret_of Tryz.func116 rfl Tryz.ntmps116 rfl ?_
    refine c_seq (fun K1 hK1 => ?_)
    refine c_reg ?_ -- region 0 syntaxm.go:33
    refine wl_box (cs := cs) rfl rfl (fun ab w1 hbab hA F1 => ?_)
    have hnerbab : rb < ab := Nat.lt_of_lt_of_le hB.lt hbab
    have hbsab := Nat.le_trans hF.size hbab
    replace hB := F1.blkN hB
    replace hF := hF.thenDrew.thenN F1
    refine wl (ro_assign rfl) ?_
    refine wl_nil (x_then (hK1 _ _ ?_))
    clear hK1 K1
    refine c_seq (fun K2 hK2 => ?_)
    refine c_seq (fun K3 hK3 => ?_)
    refine c_reg ?_ -- region 1 syntaxm.go:34
    refine wl (ro_move rfl) ?_
    refine wl (ro_nilCheck rfl) ?_
    refine wl (ro_fieldAddr (k := 4) rfl fo_187_4) ?_
    refine wl (ro_loadB rfl sc_53 (hB) (rfl)) ?_
    refine wl (ro_cmp rfl rfl rfl) ?_
    refine wl_nil (x_then (hK3 _ _ ?_))
    clear hK3 K3
    refine wc_condF rfl ?_
    refine c_skip (x_then (hK2 _ _ ?_))
    clear hK2 K2
    refine c_seq (fun K4 hK4 => ?_)
    refine c_seq (fun K5 hK5 => ?_)
    refine c_reg ?_ -- region 3 syntaxm.go:37
    refine wl (ro_move rfl) ?_
    refine wl (ro_nilCheck rfl) ?_
    refine wl (ro_fieldAddr (k := 2) rfl fo_187_2) ?_
    refine wl (ro_loadB rfl sc_98 (hB) (rfl)) ?_
    refine wl (ro_lenL rfl se_98) ?_
    refine wl (ro_cmp (r := true) rfl rfl (congrArg some (decide_eq_true (by omega)))) ?_
    refine wl_nil (x_then (hK5 _ _ ?_))
    clear hK5 K5
    refine wc_condT rfl ?_
    refine c_seq (fun K6 hK6 => ?_)
    refine c_reg ?_ -- region 4 syntaxm.go:38
    refine wl (ro_move rfl) ?_
    refine wl (ro_move rfl) ?_
    refine wl (ro_nilCheck rfl) ?_
    refine wl (ro_fieldAddr (k := 1) rfl fo_187_1) ?_
    refine wl (ro_loadB rfl sc_3 (hB) (rfl)) ?_
    refine wl_call rfl en_90 (fail90 hB) ?_
    rintro _ w9 ⟨rfl, hB, F9⟩
    refine wl (ro_assign rfl) ?_
    refine wl_nil (x_then (hK6 _ _ ?_))
    clear hK6 K6
    refine c_ret (x_thenR ?_)
    refine bp_ret Tryz.results116 rfl ?_
    exact ⟨.inr ⟨h24, rfl, i, aV, n, cV, g, Nat.le_refl _, hB⟩, hF.mfrO F9⟩
  · have hon := M.own
    have hxl : xs.length = n * 11 := hon.1
    subst hVN
    refine ret_of Tryz.func116 rfl Tryz.ntmps116 rfl ?_
    refine c_seq (fun K1 hK1 => ?_)
    refine c_reg ?_ -- region 0 syntaxm.go:33
    refine wl_box (cs := cs) rfl rfl (fun ab w1 hbab hA F1 => ?_)
    have hnerbab : rb < ab := Nat.lt_of_lt_of_le hB.lt hbab
    have hbsab := Nat.le_trans hF.size hbab
    replace hB := F1.blkN hB
    replace hF := hF.thenDrew.thenN F1
    replace hon := hon.fram F1 (fun _ _ h => h)
    refine wl (ro_assign rfl) ?_
    refine wl_nil (x_then (hK1 _ _ ?_))
    clear hK1 K1
    refine c_seq (fun K2 hK2 => ?_)
    refine c_seq (fun K3 hK3 => ?_)
    refine c_reg ?_ -- region 1 syntaxm.go:34
    refine wl (ro_move rfl) ?_
    refine wl (ro_nilCheck rfl) ?_
    refine wl (ro_fieldAddr (k := 4) rfl fo_187_4) ?_
    refine wl (ro_loadB rfl sc_53 (hB) (rfl)) ?_
    refine wl (ro_cmp rfl rfl rfl) ?_
    refine wl_nil (x_then (hK3 _ _ ?_))
    clear hK3 K3
    refine wc_condF rfl ?_
    refine c_skip (x_then (hK2 _ _ ?_))
    clear hK2 K2
    refine c_seq (fun K4 hK4 => ?_)
    refine c_seq (fun K5 hK5 => ?_)
    refine c_reg ?_ -- region 3 syntaxm.go:37
    refine wl (ro_move rfl) ?_
    refine wl (ro_nilCheck rfl) ?_
    refine wl (ro_fieldAddr (k := 2) rfl fo_187_2) ?_
    refine wl (ro_loadB rfl sc_98 (hB) (rfl)) ?_
    refine wl (ro_lenL rfl se_98) ?_
    refine wl (ro_cmp (r := false) rfl rfl (congrArg some (decide_eq_false (by omega)))) ?_
    refine wl_nil (x_then (hK5 _ _ ?_))
    clear hK5 K5
    refine wc_condF rfl ?_
    refine c_skip (x_then (hK4 _ _ ?_))
    clear hK4 K4
    refine forget [(0, _), (3, _)] ⟨rfl, rfl, trivial⟩ (fun e => ?_)
    refine c_seq (fun K6 hK6 => ?_)
    refine c_piL 10 [(0, false), (1, false), (2, false), (3, false), (4, false), (5, false), (6, true), (7, true), (8, false), (9, false)] (fun w' => Blk w'.heap rb (rc p i (.slice aV n cV) g 0 0) 187 ∧ Blk w'.heap ab cs 89) mixed (by kernel_rfl) rfl (by kernel_rfl) (po_then (po_bp)) (⟨hB, hA⟩) ?_ -- region 5 syntaxm.go:40
    refine ql_ro rfl (fun w hS => ro_move rfl) ?_
    refine ql_ro rfl (fun w hS => ro_move rfl) ?_
    refine ql_ro rfl (fun w hS => ro_nilCheck rfl) ?_
    refine ql_ro rfl (fun w hS => ro_fieldAddr (k := 2) rfl fo_187_2) ?_
    refine ql_ro rfl (fun w hS => ro_loadB rfl sc_98 (hS.1) (rfl)) ?_
    refine ql_ro rfl (fun w hS => ro_loadAggB rfl ag_89 (hS.2) (hcl) ((by rw [List.drop_zero, List.take_of_length_le (by omega)]))) ?_
    refine ql_eo rfl (eo_bs1 rfl rfl se_98 zx_89 hcl rfl rfl) ⟨hB.alloc _, hA.alloc _⟩ ?_
    have hN2 := Blk.new { w1 with drawn := w1.drawn + 1 } cs 89
    have hon2 := (hon.fram (Fram.drew none' w1 (w1.drawn + 1)) (fun _ _ h => h)).alloc (.cells cs.toArray 89)
    have hB2 := (hB.fram (Fram.drew none' w1 (w1.drawn + 1)) (fun h => h)).alloc (.cells cs.toArray 89)
    have hA2 := (hA.fram (Fram.drew none' w1 (w1.drawn + 1)) (fun h => h)).alloc (.cells cs.toArray 89)
    have F2 : Fram none' w1 (World.alloc { w1 with drawn := w1.drawn + 1 } (.cells cs.toArray 89)) := (Fram.drew none' w1 (w1.drawn + 1)).trans (Fram.alloc none' _ _)
    have hs2 := F2.size
    refine ql_app (news := cs) rfl rfl rfl se_98 zx_89 by_89 rfl hon2 hN2 (by rw [List.drop_zero, List.take_of_length_le (by omega)]) (by omega) hN.cells (by omega) (by omega) ?_
    intro VX w3 hon3 hgr hloc
    have F3 : Fram (fun b => (Value.slice aV n cV).ownBlock = some b) _ w3 := Fram.grown hgr (fun k hk => .inl hk)
    have hB3 := hB2.fram F3 (fun hk => hon2.neblk hB2 (by decide) _ hk rfl)
    have hA3 := hA2.fram F3 (fun hk => by have := M.own.lt hk; omega)
    obtain ⟨aX, cX, rfl⟩ := hon3.form
    have hF3 : Fram (mfr rb (.slice aV n cV)) w w3 := (hF.thenN F2).trans' F3 (fun k _ hk => .inr hk)
    have hs1 := hF.size
    clear hB
    have hB := hB3
    clear hF
    have hF := hF3
    clear hA
    have hA := hA3
    have hmr : mfr rb (.slice aV n cV) rb := .inl rfl
    refine ⟨⟨hB3, hA3⟩, ?_⟩
    refine ql_ro rfl (fun w hS => ro_nilCheck rfl) ?_
    refine ql_ro rfl (fun w hS => ro_fieldAddr (k := 2) rfl fo_187_2) ?_
    refine ql_put rfl rfl rfl rfl sz_98 hB ((by simp)) (rfl) (fun w2 hB F2 => ?_)
    replace hF := hF.thenDrew.thenO F2 (by first | exact .inr (by omega) | exact .inl rfl | exact .inl (by assumption))
    replace hA := F2.blkO hA (by omega)
    have hon4 := hon3.framX F2 (fun b hb => hon3.neblk hB3 (by decide) b hb)
    refine x_then (hK6 _ _ ?_)
    clear hK6 K6
    refine forget [(0, _)] ⟨rfl, trivial⟩ (fun e => ?_)
    refine c_seq (fun K7 hK7 => ?_)
    refine c_reg ?_ -- region 6 syntaxm.go:41
    refine wl (ro_move rfl) ?_
    refine wl (ro_nilCheck rfl) ?_
    refine wl (ro_fieldAddr (k := 2) rfl fo_187_2) ?_
    refine wl (ro_loadB rfl sc_98 (hB) (rfl)) ?_
    refine wl (ro_lenL rfl se_98) ?_
    refine wl (ro_arith rfl rfl rfl (Go.IntWalk.i64_in _ (by omega))) ?_
    refine wl (ro_assign rfl) ?_
    refine wl_nil (x_then (hK7 _ _ ?_))
    clear hK7 K7
    refine c_ret ?_
    refine bp_ret Tryz.results116 rfl ?_
    refine ⟨.inl ⟨by omega, by unfold i64c; congr 1; omega, .slice aX (n + 1) cX, xs ++ cs, ⟨hB, hon4, ?_, by simp [M.tl], by omega, M.il, M.pl, M.g3⟩, ?_⟩, hF⟩
    · refine M.ar.push (by rw [M.tl]; exact hN) (fun j h1 _ => lf_app (by rw [M.tl] at h1; omega)) ?_
      intro j v hj
      rw [M.tl]
      simp only [lf, List.getD]
      rw [List.getElem?_append_right (by omega), show 0 + 11 * n + j - xs.length = j by omega, hj]
      rfl
    · intro b hb
      rcases hloc with h | h
      · rw [h] at hb; exact .inl hb
      · rw [h] at hb; cases hb; exact .inr (by omega)

theorem set154 {w : World} {rb : Nat} {p : List UInt8} {i n g : Nat} {T : List RE} {VN : Value} {xs : List Value} {Z : Nat} (M : MV w rb p i n g T VN xs) :
    Ret Tryz.prog 154 [ptr rb, setV Z] w (fun v w' => AddM w rb p i n g T VN (.set Z) v w' ∧ Fram (mfr rb VN) w w') := by
  have hF : Fram none' w w := Fram.refl _ _
  have hN : ND T n (.set Z) (ndc 1 (-1) (-1) 0 0 0 false Z) := rfl
  refine ret_of Tryz.func154 rfl Tryz.ntmps154 rfl ?_
  refine c_seq (fun K1 hK1 => ?_)
  refine c_reg ?_ -- region 0 syntaxm.go:44
  refine wl_box (cs := (setC Z)) rfl rfl (fun ab w1 hbab hA F1 => ?_)
  have hbsab := Nat.le_trans hF.size hbab
  replace hF := hF.thenDrew.thenN F1
  refine wl (ro_assign rfl) ?_
  refine wl_nil (x_then (hK1 _ _ ?_))
  clear hK1 K1
  refine forget [(0, _), (3, _)] ⟨rfl, rfl, trivial⟩ (fun e => ?_)
  refine c_seq (fun K2 hK2 => ?_)
  refine c_reg ?_ -- region 1 syntaxm.go:44
  refine wl (ro_move rfl) ?_
  refine wl (ro_loadAggB rfl ag_87 (hA) rfl rfl) ?_
  refine wl (ro_build rfl bld_89_0_1_2_7) ?_
  refine wl_call rfl en_116 (add116 (M.framN F1) hN) ?_
  rintro v w3 ⟨hP, F3⟩
  refine wl (ro_assign rfl) ?_
  refine wl_nil (x_then (hK2 _ _ ?_))
  clear hK2 K2
  refine c_ret ?_
  refine bp_ret Tryz.results154 rfl ?_
  refine ⟨?_, hF.toM'.mfrM F3 (nob.refl _ _)⟩
  rcases hP with ⟨h1, h2, VN', xs', h3, h4⟩ | h
  · exact .inl ⟨h1, h2, VN', xs', h3, h4.after hF⟩
  · exact .inr h

theorem set154e {w : World} {rb : Nat} {p : List UInt8} {e : Er} {B Z : Nat} (hE : ME w rb p e B) (he : e.1 ≠ 0) : Ret Tryz.prog 154 [ptr rb, setV Z] w (fun v w' => v = icv (-1) ∧ ME w' rb p e B ∧ Fram none' w w') := by
  have hF : Fram none' w w := Fram.refl _ _
  refine ret_of Tryz.func154 rfl Tryz.ntmps154 rfl ?_
  refine c_seq (fun K1 hK1 => ?_)
  refine c_reg ?_ -- region 0 syntaxm.go:44
  refine wl_box (cs := (setC Z)) rfl rfl (fun ab w1 hbab hA F1 => ?_)
  have hbsab := Nat.le_trans hF.size hbab
  replace hF := hF.thenDrew.thenN F1
  refine wl (ro_assign rfl) ?_
  refine wl_nil (x_then (hK1 _ _ ?_))
  clear hK1 K1
  refine forget [(0, _), (3, _)] ⟨rfl, rfl, trivial⟩ (fun e => ?_)
  refine c_seq (fun K2 hK2 => ?_)
  refine c_reg ?_ -- region 1 syntaxm.go:44
  refine wl (ro_move rfl) ?_
  refine wl (ro_loadAggB rfl ag_87 (hA) rfl rfl) ?_
  refine wl (ro_build rfl bld_89_0_1_2_7) ?_
  refine wl_call rfl en_116 (add116e (hE.framN F1) he) ?_
  rintro _ w3 ⟨rfl, hP, F3⟩
  refine wl (ro_assign rfl) ?_
  refine wl_nil (x_then (hK2 _ _ ?_))
  clear hK2 K2
  refine c_ret ?_
  refine bp_ret Tryz.results154 rfl ?_
  exact ⟨rfl, hP, hF.thenN F3⟩

end Go.Proofs.Qxb6500567aGreat
