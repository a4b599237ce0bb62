import Derived.Test.Qxb6500568aGreatDoorXb
/- The model's parser: its memory, its small functions. -/
namespace Go.Proofs.Qxb6500568aGreatDoor
open Ieee
set_option linter.unusedVariables false
set_option linter.unusedSimpArgs false

/-- How a keyword or a sign of kind k is spelled. -/
def txt (k : Nat) : Str := if k < 24 then kwL.getD (k - 5) [] else sgL.getD (k - 24) []
theorem txt_inj0 : ((List.range 47).all fun a => (List.range 47).all fun b => !decide (5 ≤ a) || !decide (5 ≤ b) || !(txt a == txt b) || a == b) = true := by kernel_rfl
theorem txt_inj {a b : Nat} (ha : 5 ≤ a) (ha2 : a ≤ 46) (hb : 5 ≤ b) (hb2 : b ≤ 46) (h : txt a = txt b) : a = b := by
  have := List.all_eq_true.1 (List.all_eq_true.1 txt_inj0 a (List.mem_range.2 (by omega))) b (List.mem_range.2 (by omega))
  simp [ha, hb, h] at this
  exact this
theorem m_is {t : Tok} {k : Nat} (ht : t.k ≤ 46) (hk : 5 ≤ k) (hk2 : k ≤ 46) : (mK t = 4 ∧ mS t = txt k) ↔ t.k = k := by
  unfold mK mS
  constructor
  · rintro ⟨h1, h2⟩
    have h5 : 5 ≤ t.k := by
      apply Classical.byContradiction
      intro h
      have : t.k = 0 ∨ t.k = 1 ∨ t.k = 2 ∨ t.k = 3 ∨ t.k = 4 := by omega
      rcases this with h | h | h | h | h <;> (rw [h] at h1; simp at h1)
    rw [if_neg (by omega), if_neg (by omega)] at h2
    exact txt_inj h5 ht hk hk2 h2
  · intro h
    subst h
    rw [if_neg (by omega), if_neg (by omega), if_neg (by omega), if_neg (by omega), if_neg (by omega), if_neg (by omega), if_neg (by omega)]
    exact ⟨rfl, rfl⟩
theorem tokAt_46 (c : UInt8) (r : Str) (p : Nat) : (tokAt c r p).1.k ≤ 46 := by
  unfold tokAt
  dsimp only
  split
  · split
    · cases h : posS _ kwL with
      | none => show 2 ≤ 46; omega
      | some i => have h2 : i < 19 := (posS_get h).2; show 5 + i ≤ 46; omega
    · show 1 ≤ 46; omega
  · split
    · split
      · show 3 ≤ 46; omega
      · show 1 ≤ 46; omega
    · split
      · split
        · show 4 ≤ 46; omega
        · show 1 ≤ 46; omega
      · split
        · rename_i i h
          have h2 : i < 23 := (posS_get h).2; show 24 + i ≤ 46; omega
        · show 1 ≤ 46; omega
theorem toksF_46 : ∀ (n : Nat) (s : Str) (p : Nat), ∀ t ∈ toksF n s p, t.k ≤ 46
  | 0, s, p => fun t ht => by cases ht
  | n + 1, s, p => by
    unfold toksF
    rcases skipL false s p with ⟨_ | ⟨c, r⟩, q⟩
    · intro t ht
      rw [List.mem_singleton.1 ht]
      show 0 ≤ 46; omega
    · dsimp only
      split
      · intro t ht
        rw [List.mem_singleton.1 ht]
        exact tokAt_46 c r q
      · intro t ht
        rcases List.mem_cons.1 ht with rfl | ht
        · exact tokAt_46 c r q
        · exact toksF_46 n _ _ t ht
/-- The model's parser in the state s. -/
structure MV (w : World) (mp : Nat) (np : Value) (src : Str) (U : Value) (s : PS) : Prop where
  ex : ∃ pos, Blk w.heap mp (mpc np src pos s.cur U (i64c 0) (i64c 0) (i64c s.al) (i64c s.lo) (i64c s.fu)) 146 ∧ pos ≤ src.length ∧ (1 < s.k → s.tk = s.cur :: tkF src pos)
  sx : s.tk <:+ toks src
  ne : s.tk ≠ []
  al : s.al ≤ 12
  lo : s.lo ≤ 100
  fu : s.fu ≤ 100
  sl : src.length ≤ 2048
/-- The model's parser has met an error. -/
def ME (w : World) (mp lv e p : Nat) : Prop := ∃ np src pos t U, ∃ (al lo : Int) (fu : Nat), Blk w.heap mp (mpc np src pos t U (i64c e) (i64c p) (.int .i64 al) (.int .i64 lo) (i64c fu)) 146 ∧ pos ≤ src.length ∧ src.length ≤ 2048 ∧ e ≠ 0 ∧ 4 * (lv : Int) - 60 ≤ al ∧ al ≤ 100 ∧ (lv : Int) - 15 ≤ lo ∧ lo ≤ 100 ∧ fu ≤ 1000
section
variable {w w' : World} {mp : Nat} {np : Value} {src : Str} {U : Value} {s : PS} {lv lv' e p : Nat} {G : Nat → Prop}
theorem MV.mem (h : MV w mp np src U s) : s.cur ∈ toks src := by
  obtain ⟨t, r, e⟩ := List.exists_cons_of_ne_nil h.ne
  have : s.cur = t := by unfold PS.cur; rw [e]; rfl
  rw [this]
  exact h.sx.subset (by rw [e]; exact List.mem_cons_self)
theorem MV.k46 (h : MV w mp np src U s) : s.cur.k ≤ 46 := toksF_46 _ _ _ _ h.mem
theorem MV.far (h : MV w mp np src U s) (f : Fram G w w') (hn : ¬ G mp) : MV w' mp np src U s := by
  obtain ⟨pos, h1, h2⟩ := h.ex
  exact ⟨⟨pos, h1.fram f hn, h2⟩, h.sx, h.ne, h.al, h.lo, h.fu, h.sl⟩
theorem ME.far (h : ME w mp lv e p) (f : Fram G w w') (hn : ¬ G mp) : ME w' mp lv e p := by
  obtain ⟨np, src, pos, t, U, al, lo, fu, h1, h2⟩ := h
  exact ⟨np, src, pos, t, U, al, lo, fu, h1.fram f hn, h2⟩
theorem ME.le (h : ME w mp lv e p) (hl : lv' ≤ lv) : ME w mp lv' e p := by
  obtain ⟨np, src, pos, t, U, al, lo, fu, h1, h2, h3, h4, h5, h6, h7, h8, h9⟩ := h
  exact ⟨np, src, pos, t, U, al, lo, fu, h1, h2, h3, h4, by omega, h6, by omega, h8, h9⟩
theorem is156g {pos : Nat} {t : Tok} {x1 x2 x3 x4 x5 x6 : Value} {z : Str} (hX : Blk w.heap mp (mpc np src pos t x1 x2 x3 x4 x5 x6) 146) : Ret Tryz.prog 156 [ptr mp, S z] w (fun r w' => r = .bool (decide (mK t = 4 ∧ mS t = z)) ∧ w' = w) := by
  unfold mpc at hX
  refine ret_of Tryz.func156 rfl Tryz.ntmps156 rfl ?_
  refine c_seq (fun K1 hK1 => ?_)
  refine c_reg ?_ -- region 0 syntaxm.go:179
  refine wl (ro_assign rfl) ?_
  refine wl_nil (x_then (hK1 _ _ ?_))
  clear hK1 K1
  refine forget [(0, _), (1, _)] ⟨rfl, rfl, trivial⟩ (fun e => ?_)
  refine c_seq (fun K2 hK2 => ?_)
  refine c_reg ?_ -- region 1 syntaxm.go:179
  refine wl (ro_move rfl) ?_
  refine wl (ro_nilCheck rfl) ?_
  refine wl (ro_fieldAddr (k := 3) rfl fo_146_3) ?_
  refine wl (ro_fieldAddr (k := 0) rfl fo_144_0) ?_
  refine wl (ro_loadB rfl sc_3 (by assumption) rfl) ?_
  refine wl (ro_cmp rfl rfl rfl) ?_
  refine wl_fork rfl (fun hg11 => ?_) (fun hg11 => ?_)
  · try simp only [decide_eq_true_eq, decide_eq_false_iff_not, Bool.not_eq_true', Bool.not_eq_false', Bool.not_eq_eq_eq_not, Bool.not_true, Bool.not_false, beq_iff_eq, bne_iff_ne, ne_eq, beq_eq_false_iff_ne, bne_eq_false_iff_eq, gt_iff_lt, ge_iff_le, Int.not_lt, Int.not_le] at hg11
    refine wlg_yes rfl (ro_move rfl) ?_
    refine wlg_yes rfl (ro_nilCheck rfl) ?_
    refine wlg_yes rfl (ro_fieldAddr (k := 3) rfl fo_146_3) ?_
    refine wlg_yes rfl (ro_fieldAddr (k := 1) rfl fo_144_1) ?_
    refine wlg_yes rfl (ro_loadB rfl sc_9 (by assumption) rfl) ?_
    refine wlg_yes rfl (ro_move rfl) ?_
    refine wlg_yes rfl (ro_eqS rfl rfl rfl) ?_
    refine wl (ro_pick rfl rfl rfl) ?_
    refine wl (ro_assign rfl) ?_
    refine wl_nil (x_then (hK2 _ _ ?_))
    clear hK2 K2
    refine c_ret ?_
    refine bp_ret Tryz.results156 rfl ?_
    refine ⟨congrArg Value.bool ?_, rfl⟩
    have h4 : mK t = 4 := by omega
    by_cases hz : mS t = z
    · rw [decide_eq_true ⟨h4, hz⟩, beq_iff_eq.2 hz]
    · rw [decide_eq_false (fun h => hz h.2), beq_eq_false_iff_ne.2 hz]
  · try simp only [decide_eq_true_eq, decide_eq_false_iff_not, Bool.not_eq_true', Bool.not_eq_false', Bool.not_eq_eq_eq_not, Bool.not_true, Bool.not_false, beq_iff_eq, bne_iff_ne, ne_eq, beq_eq_false_iff_ne, bne_eq_false_iff_eq, gt_iff_lt, ge_iff_le, Int.not_lt, Int.not_le] at hg11
    refine wlg_no rfl ?_
    refine wlg_no rfl ?_
    refine wlg_no rfl ?_
    refine wlg_no rfl ?_
    refine wlg_no rfl ?_
    refine wlg_no rfl ?_
    refine wlg_no rfl ?_
    refine wl (ro_pick rfl rfl rfl) ?_
    refine wl (ro_assign rfl) ?_
    refine wl_nil (x_then (hK2 _ _ ?_))
    clear hK2 K2
    refine c_ret ?_
    refine bp_ret Tryz.results156 rfl ?_
    refine ⟨congrArg Value.bool ?_, rfl⟩
    rw [decide_eq_false (fun h => by omega)]
theorem is156 {k : Nat} (hM : MV w mp np src U s) (hk : 5 ≤ k) (hk2 : k ≤ 46) : Ret Tryz.prog 156 [ptr mp, S (txt k)] w (fun r w' => r = .bool (decide (s.k = k)) ∧ w' = w) := by
  obtain ⟨pos, h1, _⟩ := hM.ex
  refine (is156g h1).mono (fun r w' ⟨h2, h3⟩ => ⟨?_, h3⟩)
  rw [h2]
  congr 1
  rw [decide_eq_decide]
  exact m_is hM.k46 hk hk2
/-- In an error the parser answers something. -/
theorem isE156 {z : Str} (hM : ME w mp lv e p) : Ret Tryz.prog 156 [ptr mp, S z] w (fun r w' => (∃ b : Bool, r = .bool b) ∧ w' = w) := by
  obtain ⟨np, src, pos, t, U, al, lo, fu, h1, h2⟩ := hM
  exact (is156g h1).mono (fun r w' ⟨h2, h3⟩ => ⟨⟨_, h2⟩, h3⟩)
theorem adv_suffix (h : s.tk <:+ toks src) : s.adv.tk <:+ toks src := (List.tail_suffix _).trans h
theorem nextM (hM : MV w mp np src U s) (hk : 1 < s.k) : Ret Tryz.prog 48 [ptr mp] w (fun r w' => r = .tuple #[] ∧ MV w' mp np src U s.adv ∧ Fram (one mp) w w') := by
  obtain ⟨pos, h1, h2, h3⟩ := hM.ex
  unfold mpc at h1
  refine (next48 h1 h2 hM.sl).mono (fun r w' ⟨e1, f, pos', t, h4, h5, ⟨r', h6⟩, h7⟩ => ⟨e1, ?_, f⟩)
  have h3 := h3 hk
  have ha : s.adv.tk = tkF src pos := by show s.tk.tail = _; rw [h3]; rfl
  have hc : s.adv.cur = t := by unfold PS.cur; rw [ha, h6]; rfl
  refine ⟨⟨pos', by rw [hc]; exact h4, h5, fun hk2 => ?_⟩, adv_suffix hM.sx, by rw [ha, h6]; simp, hM.al, hM.lo, hM.fu, hM.sl⟩
  have hk2 : 1 < t.k := by have : s.adv.k = s.adv.cur.k := rfl; rw [hc] at this; omega
  rw [ha, hc]
  exact h7 hk2
theorem nextE (hM : ME w mp lv e p) : Ret Tryz.prog 48 [ptr mp] w (fun r w' => r = .tuple #[] ∧ ME w' mp lv e p ∧ Fram (one mp) w w') := by
  obtain ⟨np, src, pos, t, U, al, lo, fu, h1, h2, h3, h4⟩ := hM
  unfold mpc at h1
  exact (next48 h1 h2 h3).mono (fun r w' ⟨e1, f, pos', t, h5, h6, _⟩ => ⟨e1, ⟨np, src, pos', t, U, al, lo, fu, h5, h6, h3, h4⟩, f⟩)
theorem failM {c : Nat} (hM : MV w mp np src U s) (hc : c ≠ 0) (hl : lv ≤ 14) : Ret Tryz.prog 50 [ptr mp, i64c c] w (fun r w' => r = .tuple #[] ∧ ME w' mp lv (if s.k = 1 then s.cur.e else c) s.cur.pl ∧ Fram (one mp) w w') := by
  obtain ⟨pos, hX, h2, h3⟩ := hM.ex
  have hmem := hM.mem
  have hee := toksF_err _ _ _ s.cur hmem
  have hF : Fram (one mp) w w := Fram.refl _ _
  have hmp : one mp mp := rfl
  have hal := hM.al
  have hlo := hM.lo
  have hfu := hM.fu
  have hk46 := hM.k46
  have hkk : s.k = s.cur.k := rfl
  unfold mpc at hX
  refine ret_of Tryz.func50 rfl Tryz.ntmps50 rfl ?_
  refine c_seq (fun K1 hK1 => ?_)
  refine c_seq (fun K2 hK2 => ?_)
  refine c_reg ?_ -- region 0 syntaxm.go:169
  refine wl (ro_move rfl) ?_
  refine wl (ro_nilCheck rfl) ?_
  refine wl (ro_fieldAddr (k := 9) rfl fo_146_5) ?_
  refine wl (ro_loadB rfl sc_54 (by assumption) rfl) ?_
  refine wl (ro_cmp rfl rfl rfl) ?_
  refine wl_nil (x_then (hK2 _ _ ?_))
  clear hK2 K2
  refine wc_cond rfl (fun hc8 => ?_) (fun hc8 => ?_)
  · try simp only [decide_eq_true_eq, decide_eq_false_iff_not, Bool.not_eq_true', Bool.not_eq_false', Bool.not_eq_eq_eq_not, Bool.not_true, Bool.not_false, beq_iff_eq, bne_iff_ne, ne_eq, beq_eq_false_iff_ne, bne_eq_false_iff_eq, gt_iff_lt, ge_iff_le, Int.not_lt, Int.not_le] at hc8
    exact absurd rfl hc8
  · try simp only [decide_eq_true_eq, decide_eq_false_iff_not, Bool.not_eq_true', Bool.not_eq_false', Bool.not_eq_eq_eq_not, Bool.not_true, Bool.not_false, beq_iff_eq, bne_iff_ne, ne_eq, beq_eq_false_iff_ne, bne_eq_false_iff_eq, gt_iff_lt, ge_iff_le, Int.not_lt, Int.not_le] at hc8
    refine c_skip (x_then (hK1 _ _ ?_))
    clear hK1 K1
    refine c_seq (fun K3 hK3 => ?_)
    refine c_seq (fun K4 hK4 => ?_)
    refine c_reg ?_ -- region 1 syntaxm.go:172
    refine wl (ro_move rfl) ?_
    refine wl (ro_nilCheck rfl) ?_
    refine wl (ro_fieldAddr (k := 3) rfl fo_146_3) ?_
    refine wl (ro_fieldAddr (k := 0) rfl fo_144_0) ?_
    refine wl (ro_loadB rfl sc_3 (by assumption) rfl) ?_
    refine wl (ro_cmp rfl rfl rfl) ?_
    refine wl_nil (x_then (hK4 _ _ ?_))
    clear hK4 K4
    refine wc_cond rfl (fun hc14 => ?_) (fun hc14 => ?_)
    · try simp only [decide_eq_true_eq, decide_eq_false_iff_not, Bool.not_eq_true', Bool.not_eq_false', Bool.not_eq_eq_eq_not, Bool.not_true, Bool.not_false, beq_iff_eq, bne_iff_ne, ne_eq, beq_eq_false_iff_ne, bne_eq_false_iff_eq, gt_iff_lt, ge_iff_le, Int.not_lt, Int.not_le] at hc14
      have hk1 : s.k = 1 := by
        rw [hkk]
        unfold mK at hc14
        apply Classical.byContradiction
        intro h
        repeat' split at hc14
        all_goals omega
      have hmE : mE s.cur = s.cur.e := by unfold mE; rw [if_pos (by omega)]
      refine c_reg ?_ -- region 2 syntaxm.go:173
      refine wl (ro_move rfl) ?_
      refine wl (ro_nilCheck rfl) ?_
      refine wl (ro_fieldAddr (k := 3) rfl fo_146_3) ?_
      refine wl (ro_fieldAddr (k := 4) rfl fo_144_4) ?_
      refine wl (ro_loadB rfl sc_54 (by assumption) rfl) ?_
      refine wl (ro_assign rfl) ?_
      refine wl_nil (x_then (hK3 _ _ ?_))
      clear hK3 K3
      refine forget [(0, _), (1, _)] ⟨rfl, rfl, trivial⟩ (fun e => ?_)
      refine c_seq (fun K5 hK5 => ?_)
      refine c_reg ?_ -- region 3 syntaxm.go:175
      refine wl (ro_move rfl) ?_
      refine wl (ro_move rfl) ?_
      refine wl (ro_nilCheck rfl) ?_
      refine wl (ro_fieldAddr (k := 9) rfl fo_146_5) ?_
      refine wl_put rfl rfl rfl sz_54 hX (by simp) (rfl) (fun w1 hX F1 => ?_)
      replace hF := hF.thenDrew.thenO F1 (by first | exact .inr (by omega) | exact .inl rfl | exact .inl (by assumption) | assumption)
      refine wl_nil (x_then (hK5 _ _ ?_))
      clear hK5 K5
      refine c_reg ?_ -- region 4 syntaxm.go:176
      refine wl (ro_move rfl) ?_
      refine wl (ro_move rfl) ?_
      refine wl (ro_nilCheck rfl) ?_
      refine wl (ro_fieldAddr (k := 3) rfl fo_146_3) ?_
      refine wl (ro_fieldAddr (k := 3) rfl fo_144_3) ?_
      refine wl (ro_loadB rfl sc_3 (by assumption) rfl) ?_
      refine wl (ro_nilCheck rfl) ?_
      refine wl (ro_fieldAddr (k := 10) rfl fo_146_6) ?_
      refine wl_put rfl rfl rfl sz_3 hX (by simp) (rfl) (fun w2 hX F2 => ?_)
      replace hF := hF.thenDrew.thenO F2 (by first | exact .inr (by omega) | exact .inl rfl | exact .inl (by assumption) | assumption)
      refine wl_nil ?_
      refine bp_end Tryz.results50 rfl ?_
      rw [hmE] at hX
      exact ⟨rfl, ⟨np, src, pos, s.cur, U, s.al, s.lo, s.fu, by rw [if_pos hk1]; unfold mpc; rw [hmE]; exact hX, h2, hM.sl, by rw [if_pos hk1]; exact hee hk1, by omega, by omega, by omega, by omega, by omega⟩, hF⟩
    · try simp only [decide_eq_true_eq, decide_eq_false_iff_not, Bool.not_eq_true', Bool.not_eq_false', Bool.not_eq_eq_eq_not, Bool.not_true, Bool.not_false, beq_iff_eq, bne_iff_ne, ne_eq, beq_eq_false_iff_ne, bne_eq_false_iff_eq, gt_iff_lt, ge_iff_le, Int.not_lt, Int.not_le] at hc14
      have hk1 : s.k ≠ 1 := fun h => hc14 (by
        have h0 : s.cur.k = 1 := h
        unfold mK; rw [if_neg (by omega), if_pos h0]; rfl)
      refine c_skip (x_then (hK3 _ _ ?_))
      clear hK3 K3
      refine forget [(0, _), (1, _)] ⟨rfl, rfl, trivial⟩ (fun e => ?_)
      refine c_seq (fun K6 hK6 => ?_)
      refine c_reg ?_ -- region 3 syntaxm.go:175
      refine wl (ro_move rfl) ?_
      refine wl (ro_move rfl) ?_
      refine wl (ro_nilCheck rfl) ?_
      refine wl (ro_fieldAddr (k := 9) rfl fo_146_5) ?_
      refine wl_put rfl rfl rfl sz_54 hX (by simp) (rfl) (fun w3 hX F3 => ?_)
      replace hF := hF.thenDrew.thenO F3 (by first | exact .inr (by omega) | exact .inl rfl | exact .inl (by assumption) | assumption)
      refine wl_nil (x_then (hK6 _ _ ?_))
      clear hK6 K6
      refine c_reg ?_ -- region 4 syntaxm.go:176
      refine wl (ro_move rfl) ?_
      refine wl (ro_move rfl) ?_
      refine wl (ro_nilCheck rfl) ?_
      refine wl (ro_fieldAddr (k := 3) rfl fo_146_3) ?_
      refine wl (ro_fieldAddr (k := 3) rfl fo_144_3) ?_
      refine wl (ro_loadB rfl sc_3 (by assumption) rfl) ?_
      refine wl (ro_nilCheck rfl) ?_
      refine wl (ro_fieldAddr (k := 10) rfl fo_146_6) ?_
      refine wl_put rfl rfl rfl sz_3 hX (by simp) (rfl) (fun w4 hX F4 => ?_)
      replace hF := hF.thenDrew.thenO F4 (by first | exact .inr (by omega) | exact .inl rfl | exact .inl (by assumption) | assumption)
      refine wl_nil ?_
      refine bp_end Tryz.results50 rfl ?_
      exact ⟨rfl, ⟨np, src, pos, s.cur, U, s.al, s.lo, s.fu, by rw [if_neg hk1]; exact hX, h2, hM.sl, by rw [if_neg hk1]; exact hc, by omega, by omega, by omega, by omega, by omega⟩, hF⟩
theorem failE {c : Nat} (hM : ME w mp lv e p) : Ret Tryz.prog 50 [ptr mp, i64c c] w (fun r w' => r = .tuple #[] ∧ w' = w) := by
  obtain ⟨np, src, pos, t, U, al, lo, fu, hX, h2, h3, h4, h5⟩ := hM
  unfold mpc at hX
  refine ret_of Tryz.func50 rfl Tryz.ntmps50 rfl ?_
  refine c_seq (fun K1 hK1 => ?_)
  refine c_seq (fun K2 hK2 => ?_)
  refine c_reg ?_ -- region 0 syntaxm.go:169
  refine wl (ro_move rfl) ?_
  refine wl (ro_nilCheck rfl) ?_
  refine wl (ro_fieldAddr (k := 9) rfl fo_146_5) ?_
  refine wl (ro_loadB rfl sc_54 (by assumption) rfl) ?_
  refine wl (ro_cmp rfl rfl rfl) ?_
  refine wl_nil (x_then (hK2 _ _ ?_))
  clear hK2 K2
  refine wc_cond rfl (fun hc8 => ?_) (fun hc8 => ?_)
  · try simp only [decide_eq_true_eq, decide_eq_false_iff_not, Bool.not_eq_true', Bool.not_eq_false', Bool.not_eq_eq_eq_not, Bool.not_true, Bool.not_false, beq_iff_eq, bne_iff_ne, ne_eq, beq_eq_false_iff_ne, bne_eq_false_iff_eq, gt_iff_lt, ge_iff_le, Int.not_lt, Int.not_le] at hc8
    refine c_ret (x_thenR ?_)
    refine bp_ret Tryz.results50 rfl ?_
    exact ⟨rfl, rfl⟩
  · try simp only [decide_eq_true_eq, decide_eq_false_iff_not, Bool.not_eq_true', Bool.not_eq_false', Bool.not_eq_eq_eq_not, Bool.not_true, Bool.not_false, beq_iff_eq, bne_iff_ne, ne_eq, beq_eq_false_iff_ne, bne_eq_false_iff_eq, gt_iff_lt, ge_iff_le, Int.not_lt, Int.not_le] at hc8
    omega
end
end Go.Proofs.Qxb6500568aGreatDoor
