import Derived.Test.Qxb6500570aGreatNc
/- The model's editor: the editor itself. -/
namespace Go.Proofs.Qxb6500570aGreat
set_option linter.unusedVariables false
set_option linter.unusedSimpArgs false

theorem Raw77o {w : World} {k : Nat} {c : Int} (hc : c < 0 ∨ 24 ≤ c) : Ret Tryz.prog 77 [ptr k, icv c] w (fun v w' => v = S [] ∧ w' = w) := by
  refine ret_of Tryz.func77 rfl Tryz.ntmps77 rfl ?_
  refine c_seq (fun K1 hK1 => ?_)
  refine c_reg ?_ -- region 0 calcm.go:63
  refine wl (ro_assign rfl) ?_
  refine wl_nil (x_then (hK1 _ _ ?_))
  clear hK1 K1
  refine c_seq (fun K2 hK2 => ?_)
  refine c_seq (fun K3 hK3 => ?_)
  refine c_reg ?_ -- region 1 calcm.go:64
  refine wl (ro_move rfl) ?_
  refine wl (ro_cmp (r := decide (c < 0)) rfl rfl rfl) ?_
  refine wl_fork rfl (fun hg7 => ?_) (fun hg7 => ?_)
  · try simp only [decide_eq_true_eq, decide_eq_false_iff_not, Bool.not_eq_true', Bool.not_eq_false', Bool.not_eq_eq_eq_not, Bool.not_true, Bool.not_false, beq_iff_eq, bne_iff_ne, ne_eq, beq_eq_false_iff_ne, bne_eq_false_iff_eq, gt_iff_lt, ge_iff_le, Int.not_lt, Int.not_le] at hg7
    refine wlg_no rfl ?_
    refine wlg_no rfl ?_
    refine wl (ro_pick rfl rfl rfl) ?_
    refine wl_nil (x_then (hK3 _ _ ?_))
    clear hK3 K3
    refine wc_condT rfl ?_
    refine c_seq (fun K4 hK4 => ?_)
    refine c_reg ?_ -- region 2 calcm.go:65
    refine wl (ro_assign rfl) ?_
    refine wl_nil (x_then (hK4 _ _ ?_))
    clear hK4 K4
    refine c_ret (x_thenR ?_)
    refine bp_ret Tryz.results77 rfl ?_
    exact ⟨rfl, rfl⟩
  · try simp only [decide_eq_true_eq, decide_eq_false_iff_not, Bool.not_eq_true', Bool.not_eq_false', Bool.not_eq_eq_eq_not, Bool.not_true, Bool.not_false, beq_iff_eq, bne_iff_ne, ne_eq, beq_eq_false_iff_ne, bne_eq_false_iff_eq, gt_iff_lt, ge_iff_le, Int.not_lt, Int.not_le] at hg7
    refine wlg_yes rfl (ro_move rfl) ?_
    refine wlg_yes rfl (ro_cmp (r := true) rfl rfl (congrArg some (decide_eq_true (by omega)))) ?_
    refine wl (ro_pick rfl rfl rfl) ?_
    refine wl_nil (x_then (hK3 _ _ ?_))
    clear hK3 K3
    refine wc_condT rfl ?_
    refine c_seq (fun K5 hK5 => ?_)
    refine c_reg ?_ -- region 2 calcm.go:65
    refine wl (ro_assign rfl) ?_
    refine wl_nil (x_then (hK5 _ _ ?_))
    clear hK5 K5
    refine c_ret (x_thenR ?_)
    refine bp_ret Tryz.results77 rfl ?_
    exact ⟨rfl, rfl⟩
theorem Value120o {w : World} {k : Nat} {c : Int} (hc : c < 0 ∨ 24 ≤ c) : Ret Tryz.prog 120 [ptr k, icv c] w (fun v w' => v = vlA vZ ∧ Fram none' w w') := by
  have hF : Fram none' w w := Fram.refl _ _
  refine ret_of Tryz.func120 rfl Tryz.ntmps120 rfl ?_
  refine c_seq (fun K1 hK1 => ?_)
  refine c_reg ?_ -- region 0 calcm.go:70
  refine wl_new (ze_104) (fun b4 w1 hbb4 h4 F1 => ?_)
  have hbsb4 := Nat.le_trans hF.size hbb4
  replace hF := hF.thenDrew.thenN F1
  refine wl_nil (x_then (hK1 _ _ ?_))
  clear hK1 K1
  refine c_seq (fun K2 hK2 => ?_)
  refine c_seq (fun K3 hK3 => ?_)
  refine c_reg ?_ -- region 1 calcm.go:71
  refine wl (ro_move rfl) ?_
  refine wl (ro_cmp (r := decide (c < 0)) rfl rfl rfl) ?_
  refine wl_fork rfl (fun hg7 => ?_) (fun hg7 => ?_)
  · try simp only [decide_eq_true_eq, decide_eq_false_iff_not, Bool.not_eq_true', Bool.not_eq_false', Bool.not_eq_eq_eq_not, Bool.not_true, Bool.not_false, beq_iff_eq, bne_iff_ne, ne_eq, beq_eq_false_iff_ne, bne_eq_false_iff_eq, gt_iff_lt, ge_iff_le, Int.not_lt, Int.not_le] at hg7
    refine wlg_no rfl ?_
    refine wlg_no rfl ?_
    refine wl (ro_pick rfl rfl rfl) ?_
    refine wl_nil (x_then (hK3 _ _ ?_))
    clear hK3 K3
    refine wc_condT rfl ?_
    refine c_seq (fun K4 hK4 => ?_)
    refine c_reg ?_ -- region 2 calcm.go:72
    refine wl (ro_build rfl bld_104) ?_
    refine wl_puta rfl rfl ((by (try exact vlc_cells _); all_goals simp [Value.oneCell', i64c, icv, u64c, u8c, ptr, S])) sz_104 (rfl) h4 ((by simp)) (rfl) (fun w2 h4 F2 => ?_)
    replace hF := hF.thenDrew.thenO F2 (by first | exact .inr (by omega) | exact .inl rfl | exact .inl (by assumption))
    refine wl_nil (x_then (hK4 _ _ ?_))
    clear hK4 K4
    refine c_ret (x_thenR ?_)
    refine bq_ret (res1 Tryz.results120 (rv_c rfl ag_104 (h4) (rfl))) ?_
    exact ⟨rfl, hF⟩
  · try simp only [decide_eq_true_eq, decide_eq_false_iff_not, Bool.not_eq_true', Bool.not_eq_false', Bool.not_eq_eq_eq_not, Bool.not_true, Bool.not_false, beq_iff_eq, bne_iff_ne, ne_eq, beq_eq_false_iff_ne, bne_eq_false_iff_eq, gt_iff_lt, ge_iff_le, Int.not_lt, Int.not_le] at hg7
    refine wlg_yes rfl (ro_move rfl) ?_
    refine wlg_yes rfl (ro_cmp (r := true) rfl rfl (congrArg some (decide_eq_true (by omega)))) ?_
    refine wl (ro_pick rfl rfl rfl) ?_
    refine wl_nil (x_then (hK3 _ _ ?_))
    clear hK3 K3
    refine wc_condT rfl ?_
    refine c_seq (fun K5 hK5 => ?_)
    refine c_reg ?_ -- region 2 calcm.go:72
    refine wl (ro_build rfl bld_104) ?_
    refine wl_puta rfl rfl ((by (try exact vlc_cells _); all_goals simp [Value.oneCell', i64c, icv, u64c, u8c, ptr, S])) sz_104 (rfl) h4 ((by simp)) (rfl) (fun w3 h4 F3 => ?_)
    replace hF := hF.thenDrew.thenO F3 (by first | exact .inr (by omega) | exact .inl rfl | exact .inl (by assumption))
    refine wl_nil (x_then (hK5 _ _ ?_))
    clear hK5 K5
    refine c_ret (x_thenR ?_)
    refine bq_ret (res1 Tryz.results120 (rv_c rfl ag_104 (h4) (rfl))) ?_
    exact ⟨rfl, hF⟩
theorem Raw77G {w : World} {M : MB} {sb : Nat} {T : List Tx} {SL : List Vl} {c : Int} (h : MaV w M sb T SL) : Ret Tryz.prog 77 [ptr M.k, icv c] w (fun v w' => v = S (getS T c) ∧ w' = w) := by
  unfold getS
  obtain ⟨n, hK⟩ := h.hK
  by_cases h2 : 0 ≤ c ∧ c < 24
  · rw [if_pos h2]
    obtain ⟨d, rfl⟩ : ∃ d : Nat, c = (d : Int) := ⟨c.toNat, by omega⟩
    rw [Int.toNat_natCast]
    exact Raw77 hK h.hR h.tl (by omega)
  · rw [if_neg h2]
    exact Raw77o (by omega)
theorem Value120G {w : World} {M : MB} {sb : Nat} {T : List Tx} {SL : List Vl} {c : Int} (h : MaV w M sb T SL) : Ret Tryz.prog 120 [ptr M.k, icv c] w (fun v w' => v = vlA (getV SL c) ∧ Fram none' w w') := by
  unfold getV
  obtain ⟨n, hK⟩ := h.hK
  by_cases h2 : 0 ≤ c ∧ c < 24
  · rw [if_pos h2]
    obtain ⟨d, rfl⟩ : ∃ d : Nat, c = (d : Int) := ⟨c.toNat, by omega⟩
    rw [Int.toNat_natCast]
    exact Value120 hK h.hV h.sl (by omega)
  · rw [if_neg h2]
    exact Value120o (by omega)
theorem Set68G {w : World} {lo hi sb : Nat} {c : Int} {M : MB} {T : List Tx} {SL : List Vl} {raw : Tx} (hb : MaB lo hi M) (hhi : hi ≤ w.heap.size) (hsb : hi ≤ sb ∨ (M.v < sb ∧ sb < M.k)) (h : MaV w M sb T SL) :
    Ret Tryz.prog 68 [ptr M.k, icv c, S raw] w (fun v w' => v = icv (setE c raw) ∧ (∃ sb' SL', (sb' = sb ∨ w.heap.size ≤ sb') ∧ MaV w' M sb' (setS T c raw) SL') ∧ Fram (rng lo hi) w w') := by
  have hsb' : hi ≤ sb ∨ sb < lo ∨ (M.v < sb ∧ sb < M.k) := by omega
  unfold setE setS
  by_cases h1 : 40 < raw.length
  · rw [if_pos h1, if_neg (by omega)]
    exact (Set68L hb hsb' h h1).mono (fun v w' q => ⟨q.1, ⟨sb, SL, .inl rfl, q.2.1⟩, q.2.2⟩)
  · rw [if_neg h1]
    by_cases h2 : c < 0 ∨ 24 ≤ c
    · rw [if_pos h2, if_neg (by omega)]
      exact (Set68C hb hsb' h (by omega) h2).mono (fun v w' q => ⟨q.1, ⟨sb, SL, .inl rfl, q.2.1⟩, q.2.2⟩)
    · rw [if_neg h2, if_pos (by omega)]
      obtain ⟨d, rfl⟩ : ∃ d : Nat, c = (d : Int) := ⟨c.toNat, by omega⟩
      refine (Set68 hb hhi h (c := d) (by omega) (by omega)).mono (fun v w' q => ⟨q.1, ?_, q.2.2⟩)
      rw [Int.toNat_natCast]
      obtain ⟨sb', SL', q1, q2⟩ := q.2.1
      exact ⟨sb', SL', .inr q1, q2⟩

structure EM where
  e : Nat
  f : Nat
  m : Nat
  c : Nat
  M : MB
structure NaB (lo hi : Nat) (N : EM) : Prop where
  lf : lo ≤ N.f
  fm : N.f < N.m
  mb : MaB N.m N.c N.M
  ce : N.c ≤ N.e
  eh : N.e < hi
structure NaV (w : World) (N : EM) (hi sb : Nat) (T : List Tx) (SL : List Vl) : Prop where
  hE : ∃ n, Blk w.heap N.e [ptr N.f, ptr N.M.k, icv n] 101
  fm : MFm w N.f
  mv : MaV w N.M sb T SL
  hs : hi ≤ sb ∨ (N.M.v < sb ∧ sb < N.M.k)
theorem NaB.mc {lo hi : Nat} {N : EM} (h : NaB lo hi N) : N.m < N.c := by
  have h1 := h.mb
  unfold MaB at h1
  omega
theorem NaV.far {w w' : World} {lo hi sb : Nat} {N : EM} {T : List Tx} {SL : List Vl} {G : Nat → Prop} (hb : NaB lo hi N) (h : NaV w N hi sb T SL) (F : Fram G w w') (hn : ∀ b, lo ≤ b → b < hi → ¬ G b) (hs : ¬ G sb) : NaV w' N hi sb T SL := by
  have h0 := hb.mc
  obtain ⟨b1, b2, b3, b4, b5⟩ := hb
  obtain ⟨n, hE⟩ := h.hE
  exact ⟨⟨n, F.blkF hE (hn _ (by omega) (by omega))⟩, h.fm.far F (hn _ (by omega) (by omega)), h.mv.far b3 F (fun b q1 q2 => hn b (by omega) (by omega)) hs, h.hs⟩
theorem NaV.farN {w w' : World} {lo hi sb : Nat} {N : EM} {T : List Tx} {SL : List Vl} (hb : NaB lo hi N) (h : NaV w N hi sb T SL) (F : Fram none' w w') : NaV w' N hi sb T SL := h.far hb F (fun _ _ _ q => q) (fun q => q)
theorem NaV.ok {w : World} {hi sb : Nat} {N : EM} {T : List Tx} {SL : List Vl} (h : NaV w N hi sb T SL) : TxOK T := ⟨h.mv.tl, h.mv.t40⟩
theorem Raw67 {w : World} {N : EM} {hi sb : Nat} {T : List Tx} {SL : List Vl} {c : Int} (h : NaV w N hi sb T SL) : Ret Tryz.prog 67 [ptr N.e, icv c] w (fun v w' => v = S (getS T c) ∧ w' = w) := by
  obtain ⟨n, hE⟩ := h.hE
  refine ret_of Tryz.func67 rfl Tryz.ntmps67 rfl ?_
  refine c_seq (fun K1 hK1 => ?_)
  refine c_reg ?_ -- region 0 editm.go:30
  refine wl (ro_assign rfl) ?_
  refine wl_nil (x_then (hK1 _ _ ?_))
  clear hK1 K1
  refine forget [(0, _), (1, _)] ⟨rfl, rfl, trivial⟩ (fun e => ?_)
  refine c_seq (fun K2 hK2 => ?_)
  refine c_reg ?_ -- region 1 editm.go:30
  refine wl (ro_move rfl) ?_
  refine wl (ro_nilCheck rfl) ?_
  refine wl (ro_fieldAddr (k := 1) rfl fo_101_1) ?_
  refine wl (ro_loadB rfl sc_98 (by assumption) rfl) ?_
  refine wl (ro_move rfl) ?_
  refine wl_call rfl en_77 (Raw77G h.mv) ?_
  rintro _ _ ⟨rfl, rfl⟩
  refine wl (ro_assign rfl) ?_
  refine wl_nil (x_then (hK2 _ _ ?_))
  clear hK2 K2
  refine c_ret ?_
  refine bp_ret Tryz.results67 rfl ?_
  exact ⟨rfl, rfl⟩
theorem Value95 {w : World} {N : EM} {lo hi sb : Nat} {T : List Tx} {SL : List Vl} {c : Int} (hb : NaB lo hi N) (h : NaV w N hi sb T SL) : Ret Tryz.prog 95 [ptr N.e, icv c] w (fun v w' => v = vlA (getV SL c) ∧ Fram none' w w') := by
  have hF : Fram none' w w := Fram.refl _ _
  obtain ⟨n, hE⟩ := h.hE
  refine ret_of Tryz.func95 rfl Tryz.ntmps95 rfl ?_
  refine c_seq (fun K1 hK1 => ?_)
  refine c_reg ?_ -- region 0 editm.go:31
  refine wl_new (ze_104) (fun b4 w1 hbb4 h4 F1 => ?_)
  have hbsb4 := Nat.le_trans hF.size hbb4
  have hneN.eb4 : N.e < b4 := Nat.lt_of_lt_of_le hE.lt hbb4
  replace hF := hF.thenDrew.thenN F1
  replace hE := F1.blkN hE
  replace h := NaV.farN hb h F1
  refine wl_nil (x_then (hK1 _ _ ?_))
  clear hK1 K1
  refine forget [(0, _), (1, _), (4, _)] ⟨rfl, rfl, rfl, trivial⟩ (fun e => ?_)
  refine c_seq (fun K2 hK2 => ?_)
  refine c_reg ?_ -- region 1 editm.go:31
  refine wl (ro_move rfl) ?_
  refine wl (ro_nilCheck rfl) ?_
  refine wl (ro_fieldAddr (k := 1) rfl fo_101_1) ?_
  refine wl (ro_loadB rfl sc_98 (by assumption) rfl) ?_
  refine wl (ro_move rfl) ?_
  refine wl_call rfl en_120 (Value120G h.mv) ?_
  rintro _ u1 ⟨rfl, G1⟩
  replace hF := hF.transG G1 (by intro k hk h; simp only [none'] at h ⊢ <;> omega)
  replace hE := G1.blkF hE (by intro h; simp only [none'] at h <;> omega)
  replace h4 := G1.blkF h4 (by intro h; simp only [none'] at h <;> omega)
  refine wl_puta rfl rfl ((by (try exact vlc_cells _); all_goals simp [Value.oneCell', i64c, icv, u64c, u8c, ptr, S])) sz_104 (rfl) h4 ((by simp)) (rfl) (fun w2 h4 F2 => ?_)
  replace hF := hF.thenDrew.thenO F2 (by first | exact .inr (by omega) | exact .inl rfl | exact .inl (by assumption))
  replace hE := F2.blkO hE (by omega)
  refine wl_nil (x_then (hK2 _ _ ?_))
  clear hK2 K2
  refine c_ret ?_
  refine bq_ret (res1 Tryz.results95 (rv_c rfl ag_104 (h4) (rfl))) ?_
  exact ⟨rfl, hF⟩
theorem Set45 {w : World} {N : EM} {lo hi sb : Nat} {T : List Tx} {SL : List Vl} {c : Int} {raw : Tx} (hb : NaB lo hi N) (hhi : hi ≤ w.heap.size) (h : NaV w N hi sb T SL) : Ret Tryz.prog 45 [ptr N.e, icv c, S raw] w (fun v w' => v = icv (setE c raw) ∧ (∃ sb' SL', (sb' = sb ∨ w.heap.size ≤ sb') ∧ NaV w' N hi sb' (setS T c raw) SL') ∧ Fram (rng lo hi) w w') := by
  have hF : Fram (rng lo hi) w w := Fram.refl _ _
  obtain ⟨⟨n, hE⟩, hfm, hmv, hs⟩ := h
  have h0 := hb.mc
  obtain ⟨b1, b2, b3, b4, b5⟩ := hb
  have b3' := b3
  unfold MaB at b3'
  have hm1 : rng lo hi N.e := ⟨by omega, by omega⟩
  refine ret_of Tryz.func45 rfl Tryz.ntmps45 rfl ?_
  refine c_seq (fun K1 hK1 => ?_)
  refine c_reg ?_ -- region 0 editm.go:22
  refine wl (ro_assign rfl) ?_
  refine wl_nil (x_then (hK1 _ _ ?_))
  clear hK1 K1
  refine forget [(0, _), (1, _), (2, _)] ⟨rfl, rfl, rfl, trivial⟩ (fun e => ?_)
  refine c_seq (fun K2 hK2 => ?_)
  refine c_reg ?_ -- region 1 editm.go:23
  refine wl (ro_move rfl) ?_
  refine wl (ro_nilCheck rfl) ?_
  refine wl (ro_fieldAddr (k := 2) rfl fo_101_2) ?_
  refine wl (ro_loadB rfl sc_3 (by assumption) rfl) ?_
  refine wl (ro_arithW rfl rfl rfl) ?_
  refine wl (ro_nilCheck rfl) ?_
  refine wl (ro_fieldAddr (k := 2) rfl fo_101_2) ?_
  refine wl_put rfl rfl rfl sz_3 hE ((by simp)) ((show _ = [ptr N.f, ptr N.M.k, icv (IntKind.i64.wrap (n + 1))] from rfl)) (fun w1 hE F1 => ?_)
  replace hF := hF.thenDrew.thenO F1 (by first | exact .inr (by omega) | exact .inl rfl | exact .inl (by assumption))
  replace hfm := hfm.far F1 (fun hh ↦ absurd (show N.f = N.e from hh) (by omega))
  replace hmv := hmv.far b3 F1 (fun b q1 q2 hh ↦ absurd (show b = N.e from hh) (by omega)) (fun hh ↦ absurd (show sb = N.e from hh) (by omega))
  refine wl_nil (x_then (hK2 _ _ ?_))
  clear hK2 K2
  refine c_seq (fun K3 hK3 => ?_)
  refine c_seq (fun K4 hK4 => ?_)
  refine c_reg ?_ -- region 2 editm.go:24
  refine wl (ro_move rfl) ?_
  refine wl (ro_lenS rfl st_9) ?_
  refine wl (ro_cmp (r := decide (40 < raw.length)) rfl rfl (congrArg some (decide_eq_decide.2 (by show ((raw.length : Nat) : Int) > 40 ↔ _; omega)))) ?_
  refine wl_nil (x_then (hK4 _ _ ?_))
  clear hK4 K4
  refine wc_cond rfl (fun hc16 => ?_) (fun hc16 => ?_)
  · try simp only [decide_eq_true_eq, decide_eq_false_iff_not, Bool.not_eq_true', Bool.not_eq_false', Bool.not_eq_eq_eq_not, Bool.not_true, Bool.not_false, beq_iff_eq, bne_iff_ne, ne_eq, beq_eq_false_iff_ne, bne_eq_false_iff_eq, gt_iff_lt, ge_iff_le, Int.not_lt, Int.not_le] at hc16
    refine c_seq (fun K5 hK5 => ?_)
    refine c_reg ?_ -- region 3 editm.go:25
    refine wl (ro_assign rfl) ?_
    refine wl_nil (x_then (hK5 _ _ ?_))
    clear hK5 K5
    refine c_ret (x_thenR ?_)
    refine bp_ret Tryz.results45 rfl ?_
    unfold setE setS
    rw [if_pos hc16, if_neg (by omega)]
    exact ⟨rfl, ⟨sb, SL, .inl rfl, ⟨_, hE⟩, hfm, hmv, hs⟩, hF⟩
  · try simp only [decide_eq_true_eq, decide_eq_false_iff_not, Bool.not_eq_true', Bool.not_eq_false', Bool.not_eq_eq_eq_not, Bool.not_true, Bool.not_false, beq_iff_eq, bne_iff_ne, ne_eq, beq_eq_false_iff_ne, bne_eq_false_iff_eq, gt_iff_lt, ge_iff_le, Int.not_lt, Int.not_le] at hc16
    refine c_skip (x_then (hK3 _ _ ?_))
    clear hK3 K3
    refine forget [(0, _), (1, _), (2, _)] ⟨rfl, rfl, rfl, trivial⟩ (fun e => ?_)
    refine c_seq (fun K6 hK6 => ?_)
    refine c_reg ?_ -- region 4 editm.go:27
    refine wl (ro_move rfl) ?_
    refine wl (ro_nilCheck rfl) ?_
    refine wl (ro_fieldAddr (k := 1) rfl fo_101_1) ?_
    refine wl (ro_loadB rfl sc_98 (by assumption) rfl) ?_
    refine wl (ro_move rfl) ?_
    refine wl (ro_move rfl) ?_
    refine wl_call rfl en_68 (Set68G b3 (by have := hF.size; omega) (by omega) hmv) ?_
    rintro _ u1 ⟨rfl, ⟨sb1, SL1, hs1, hmv1⟩, G1⟩
    replace hfm := hfm.far G1 (fun q => by have := q.1; omega)
    have hsz := hF.size
    replace hE := G1.blkF hE (fun q => by have := q.2; omega)
    replace hF := hF.trans (G1.mono (fun k _ hk => ⟨by have := hk.1; omega, by have := hk.2; omega⟩))
    refine wl (ro_assign rfl) ?_
    refine wl_nil (x_then (hK6 _ _ ?_))
    clear hK6 K6
    refine c_ret ?_
    refine bp_ret Tryz.results45 rfl ?_
    exact ⟨rfl, ⟨sb1, SL1, by omega, ⟨_, hE⟩, hfm, hmv1, by omega⟩, hF⟩
set_option maxHeartbeats 4000000 in
theorem tree78 {w : World} {N : EM} {n0 : Int} {raw : Tx} (hfe : N.f < N.e) (hE : Blk w.heap N.e [ptr N.f, ptr N.M.k, icv n0] 101) (hfm : MFm w N.f) (hr : raw.length ≤ 40) :
    Ret Tryz.prog 78 [ptr N.e, S raw] w (fun v w' => (∃ cs : List Value, v = .tuple #[.agg cs.toArray, .bool (opR raw).isSome] ∧ TrO w w' cs (opR raw)) ∧ MFm w' N.f ∧ Fram (one N.f) w w') := by
  have hF : Fram (one N.f) w w := Fram.refl _ _
  have hEl := hE.lt
  have hcx : raw ≠ [] → raw[0]? = some (raw.headD 0) := fun h => by cases raw with | nil => exact absurd rfl h | cons a l => rfl
  generalize raw.headD 0 = c0 at hcx
  refine ret_of Tryz.func78 rfl Tryz.ntmps78 rfl ?_
  refine c_seq (fun K1 hK1 => ?_)
  refine c_reg ?_ -- region 0 editm.go:34
  refine wl_new (ze_113) (fun b4 w1 hbb4 h4 F1 => ?_)
  have hbsb4 := Nat.le_trans hF.size hbb4
  have hneN.eb4 : N.e < b4 := Nat.lt_of_lt_of_le hE.lt hbb4
  replace hF := hF.thenDrew.thenN F1
  replace hE := F1.blkN hE
  replace hfm := hfm.far F1 (fun h ↦ h)
  refine wl (ro_assign rfl) ?_
  refine wl_nil (x_then (hK1 _ _ ?_))
  clear hK1 K1
  refine c_seq (fun K2 hK2 => ?_)
  refine c_seq (fun K3 hK3 => ?_)
  refine c_reg ?_ -- region 1 editm.go:35
  refine wl (ro_move rfl) ?_
  refine wl (ro_eqS (l := raw) (m := []) (r := decide (raw = [])) rfl rfl (congrArg some (by by_cases h : raw = [] <;> simp [h]))) ?_
  refine wl_fork rfl (fun hg9 => ?_) (fun hg9 => ?_)
  · try simp only [decide_eq_true_eq, decide_eq_false_iff_not, Bool.not_eq_true', Bool.not_eq_false', Bool.not_eq_eq_eq_not, Bool.not_true, Bool.not_false, beq_iff_eq, bne_iff_ne, ne_eq, beq_eq_false_iff_ne, bne_eq_false_iff_eq, gt_iff_lt, ge_iff_le, Int.not_lt, Int.not_le] at hg9
    refine wlg_no rfl ?_
    refine wlg_no rfl ?_
    refine wlg_no rfl ?_
    refine wl (ro_pick rfl rfl rfl) ?_
    refine wl_nil (x_then (hK3 _ _ ?_))
    clear hK3 K3
    refine wc_condT rfl ?_
    refine c_seq (fun K4 hK4 => ?_)
    refine c_reg ?_ -- region 2 editm.go:36
    refine wl (ro_build rfl bld_113) ?_
    refine wl_puta rfl rfl ((by simp [Value.oneCell', icv])) sz_113 (rfl) h4 ((by simp)) (rfl) (fun w2 h4 F2 => ?_)
    replace hF := hF.thenDrew.thenO F2 (by first | exact .inr (by omega) | exact .inl rfl | exact .inl (by assumption))
    replace hE := F2.blkO hE (by omega)
    replace hfm := hfm.far F2 (fun hh ↦ by have : N.f = b4 := hh; omega)
    refine wl (ro_assign rfl) ?_
    refine wl_nil (x_then (hK4 _ _ ?_))
    clear hK4 K4
    refine c_ret (x_thenR ?_)
    refine bq_ret (res2 Tryz.results78 (rv_c rfl ag_113 (h4) (rfl)) (rv_t rfl)) ?_
    rw [opR_no (by rw [hg9]; simp)]
    exact ⟨⟨_, rfl, rfl, by simp [Value.oneCell', icv]⟩, hfm, hF⟩
  · try simp only [decide_eq_true_eq, decide_eq_false_iff_not, Bool.not_eq_true', Bool.not_eq_false', Bool.not_eq_eq_eq_not, Bool.not_true, Bool.not_false, beq_iff_eq, bne_iff_ne, ne_eq, beq_eq_false_iff_ne, bne_eq_false_iff_eq, gt_iff_lt, ge_iff_le, Int.not_lt, Int.not_le] at hg9
    refine wlg_yes rfl (ro_move rfl) ?_
    refine wlg_yes rfl (ro_indexS rfl rfl st_9 rfl ((hcx hg9))) ?_
    refine wlg_yes rfl (ro_cmp (r := decide (c0 ≠ 61)) rfl rfl (congrArg some (ne61 c0))) ?_
    refine wl (ro_pick rfl rfl rfl) ?_
    refine wl_nil (x_then (hK3 _ _ ?_))
    clear hK3 K3
    refine wc_cond rfl (fun hc13 => ?_) (fun hc13 => ?_)
    · try simp only [decide_eq_true_eq, decide_eq_false_iff_not, Bool.not_eq_true', Bool.not_eq_false', Bool.not_eq_eq_eq_not, Bool.not_true, Bool.not_false, beq_iff_eq, bne_iff_ne, ne_eq, beq_eq_false_iff_ne, bne_eq_false_iff_eq, gt_iff_lt, ge_iff_le, Int.not_lt, Int.not_le] at hc13
      refine c_seq (fun K5 hK5 => ?_)
      refine c_reg ?_ -- region 2 editm.go:36
      refine wl (ro_build rfl bld_113) ?_
      refine wl_puta rfl rfl ((by simp [Value.oneCell', icv])) sz_113 (rfl) h4 ((by simp)) (rfl) (fun w3 h4 F3 => ?_)
      replace hF := hF.thenDrew.thenO F3 (by first | exact .inr (by omega) | exact .inl rfl | exact .inl (by assumption))
      replace hE := F3.blkO hE (by omega)
      replace hfm := hfm.far F3 (fun hh ↦ by have : N.f = b4 := hh; omega)
      refine wl (ro_assign rfl) ?_
      refine wl_nil (x_then (hK5 _ _ ?_))
      clear hK5 K5
      refine c_ret (x_thenR ?_)
      refine bq_ret (res2 Tryz.results78 (rv_c rfl ag_113 (h4) (rfl)) (rv_t rfl)) ?_
      rw [opR_no (by rw [hcx hg9]; simpa using hc13)]
      exact ⟨⟨_, rfl, rfl, by simp [Value.oneCell', icv]⟩, hfm, hF⟩
    · try simp only [decide_eq_true_eq, decide_eq_false_iff_not, Bool.not_eq_true', Bool.not_eq_false', Bool.not_eq_eq_eq_not, Bool.not_true, Bool.not_false, beq_iff_eq, bne_iff_ne, ne_eq, beq_eq_false_iff_ne, bne_eq_false_iff_eq, gt_iff_lt, ge_iff_le, Int.not_lt, Int.not_le] at hc13
      have h61 : raw[0]? = some 61 := by rw [hcx hg9, Classical.not_not.1 hc13]
      have hop : opR raw = prs (raw.drop 1) := by unfold opR; rw [if_pos h61]
      have hrl : 1 ≤ raw.length := (List.getElem?_eq_some_iff.1 h61).1
      have h4l0 := h4.lt
      refine c_skip (x_then (hK2 _ _ ?_))
      clear hK2 K2
      refine forget [(0, _), (1, _), (4, _)] ⟨rfl, rfl, rfl, trivial⟩ (fun e => ?_)
      refine c_seq (fun K6 hK6 => ?_)
      refine c_piF 8 6 7 [0, 1, 2, 3, 4, 5] [(7, true)] [(6, true)] (fun w' => Blk w'.heap N.e [ptr N.f, ptr N.M.k, icv n0] 101) mixed (by kernel_rfl) rfl rfl (by kernel_rfl) (po_then (po_bp)) (hE) ?_ -- region 3 editm.go:38
      refine wf_ro rfl (fun w hS => ro_move rfl) ?_
      refine wf_ro rfl (fun w hS => ro_nilCheck rfl) ?_
      refine wf_ro rfl (fun w hS => ro_fieldAddr (k := 0) rfl fo_101_0) ?_
      refine wf_ro rfl (fun w hS => ro_loadB rfl sc_96 (hS) (rfl)) ?_
      refine wf_ro rfl (fun w hS => ro_move rfl) ?_
      refine wf_ro rfl (fun w hS => ro_sliceSL (l := 1) rfl rfl st_9 rfl hrl) ?_
      refine wf_cn (R := (fun v u => TrV w1 u v (prs (raw.drop 1)) ∧ MFm u N.f ∧ Blk u.heap b4 [.slice none 0 0, icv 0, icv 0, icv 0] 113 ∧ Fram (one N.f) w1 u)) (G := one N.f) rfl rfl rfl (by decide) (by decide) (by decide) rfl (fun _ => rfl) en_102 ze_113 sz_113 rfl ((fun wA F1 => (Parse102 (s := raw.drop 1) (hfm.far (w := w1) ((Fram.drew none' w1 _).trans F1) (fun h => h)) (by rw [List.length_drop]; omega)).mono (fun v u hh => ⟨⟨hh.1.old F1.size, hh.2.1, hh.2.2.blkF (F1.blkN (w := { w1 with drawn := w1.drawn + 1 }) h4) (fun hg => absurd (show b4 = N.f from hg) (by omega)), (((Fram.drew none' w1 _).trans F1).mono (fun _ _ h => h.elim)).trans hh.2.2⟩, hh.2.2⟩))) ((fun v u u' hh F => ⟨hh.1.framN F, hh.2.1.far F (fun h => h), F.blkN hh.2.2.1, hh.2.2.2.thenN F⟩)) ((fun b hg => by have h1 : b = N.f := hg; show b < w1.heap.size; omega)) ((fun v u hh => hh.1.form)) ((fun u F => F.blkN (w := { w1 with drawn := w1.drawn + 1 }) hE)) ((fun v u hh => hh.2.2.2.blkF hE (fun hg => absurd (show N.e = N.f from hg) (by omega)))) ((fun v u hh => hh.2.2.2.size)) ?_
      intro cs u1 b5 u2 hR hcl hbw h50 h5 F5
      obtain ⟨hTr, hfm1, h41, G1⟩ := hR
      have hTc := hTr.cells
      have hbw' : w1.heap.size ≤ b5 := hbw
      have hszw := hF.size
      have h4l := h4.lt
      have hF2 : Fram (one N.f) w u2 := (hF.trans G1).trans' F5 (fun k hk he => absurd (show k = b5 from he) (by omega))
      have hfm2 : MFm u2 N.f := hfm1.far F5 (fun he => by have : N.f = b5 := he; omega)
      have h42 := F5.blkF h41 (fun he => by have : b4 = b5 := he; omega)
      have hTc2 : TrC w1 u2 cs (prs (raw.drop 1)) := (hTc.far F5 (fun b q1 q2 he => by have e : b = b5 := he; subst e; exact absurd rfl (q2.ne_type h50 (by decide))))
      have hG1s := G1.size
      have hF5s := F5.size
      have h5l := h5.lt
      obtain ⟨er, her1, her2⟩ := hTc2.er
      have hco : ∀ x ∈ cs, x.oneCell' = true := hTc2.toO.form.2
      clear hF h4 hE hfm
      have hF := hF2
      have h4 := h42
      clear hF2 h42
      refine x_then (hK6 _ _ ?_)
      clear hK6 K6
      refine forget [(4, _), (6, _)] ⟨rfl, rfl, trivial⟩ (fun e => ?_)
      refine c_seq (fun K7 hK7 => ?_)
      refine c_pi [(0, false), (1, false), (2, false), (3, false), (4, true), (5, false)] (fun w' => Blk w'.heap b5 cs 113) mixed (by kernel_rfl) rfl (by kernel_rfl) (po_then (po_bp)) (h5) ?_ -- region 4 editm.go:39
      refine pi_ro rfl (fun w hS => ro_loadAggB rfl ag_113 (hS) (hcl) ((by rw [List.drop_zero, List.take_of_length_le (by omega)]))) ?_
      refine pi_ro rfl (fun w hS => ro_fieldAddr (k := 2) rfl fo_113_2) ?_
      refine pi_ro rfl (fun w hS => ro_loadB rfl sc_26 (hS) (her1)) ?_
      refine pi_ro rfl (fun w hS => ro_cmp (r := decide (er = 0)) rfl rfl rfl) ?_
      refine pi_putam rfl rfl rfl (hco) sz_113 (hcl) h4 ((by simp)) ((show _ = cs by simp)) (fun w1 hB1 F ↦ (F.blkO h5 (by omega))) (fun w4 h4 F4 => ?_)
      replace hF := hF.thenDrew.thenO F4 (by first | exact .inr (by omega) | exact .inl rfl | exact .inl (by assumption))
      replace h5 := F4.blkO h5 (by omega)
      replace hTc2 := (hTc2.far (Fram.drew none' u2 _) (fun _ _ _ q ↦ q)).far F4 (fun b q1 q2 hh ↦ absurd (show b = b4 from hh) (by omega))
      replace hfm2 := (hfm2.far (Fram.drew none' u2 _) (fun q ↦ q)).far F4 (fun hh ↦ by have : N.f = b4 := hh; omega)
      refine pi_ro rfl (fun w hS => ro_assign rfl) ?_
      refine pi_nil (x_then (hK7 _ _ ?_))
      clear hK7 K7
      refine c_ret ?_
      refine bq_ret (res2 Tryz.results78 (rv_c rfl ag_113 (h4) (hcl)) (rv_t rfl)) ?_
      rw [hop, ← her2]
      exact ⟨⟨cs, rfl, (hTc2.old hszw).toO⟩, hfm2, hF⟩
set_option maxHeartbeats 4000000 in
theorem text80 {w : World} {N : EM} {nb : Nat} {n0 : Int} {n : List Nd} {v0 : Value} (hv0 : v0 = trV nb n) (hfe : N.f < N.e) (hE : Blk w.heap N.e [ptr N.f, ptr N.M.k, icv n0] 101) (hfm : MFm w N.f) (hD : DoneOK n) (hA : AOK n) (hnb : nb ≠ N.f) (hN : Blk w.heap nb (rws ndc n) 143) :
    Ret Tryz.prog 80 [ptr N.e, v0] w (fun v w' => v = S (61 :: textF n) ∧ MFm w' N.f ∧ Fram (one N.f) w w') := by
  subst hv0
  have hF : Fram (one N.f) w w := Fram.refl _ _
  have hEl := hE.lt
  refine ret_of Tryz.func80 rfl Tryz.ntmps80 rfl ?_
  refine c_seq (fun K1 hK1 => ?_)
  refine c_reg ?_ -- region 0 editm.go:42
  refine wl_box (cs := [sl nb n.length, i64c (n.length - 1), icv 0, icv 0]) rfl rfl (fun b3 w1 hbb3 h3 F1 => ?_)
  have hbsb3 := Nat.le_trans hF.size hbb3
  have hneN.eb3 : N.e < b3 := Nat.lt_of_lt_of_le hE.lt hbb3
  have hnenbb3 : nb < b3 := Nat.lt_of_lt_of_le hN.lt hbb3
  replace hF := hF.thenDrew.thenN F1
  replace hE := F1.blkN hE
  replace hN := F1.blkN hN
  replace hfm := hfm.far F1 (fun h ↦ h)
  refine wl (ro_assign rfl) ?_
  refine wl_nil (x_then (hK1 _ _ ?_))
  clear hK1 K1
  refine forget [(0, _), (3, _)] ⟨rfl, rfl, trivial⟩ (fun e => ?_)
  refine c_seq (fun K2 hK2 => ?_)
  refine c_pi [(0, false), (1, false), (2, false), (3, false), (4, false), (5, true), (6, false), (7, false), (8, false), (9, false), (10, false)] (fun w' => Blk w'.heap N.e [ptr N.f, ptr N.M.k, icv n0] 101 ∧ Blk w'.heap b3 [sl nb n.length, i64c (n.length - 1), icv 0, icv 0] 113) mixed (by kernel_rfl) rfl (by kernel_rfl) (po_then (po_bp)) (⟨hE, h3⟩) ?_ -- region 1 editm.go:43
  refine pi_ro rfl (fun w hS => ro_move rfl) ?_
  refine pi_ro rfl (fun w hS => ro_nilCheck rfl) ?_
  refine pi_ro rfl (fun w hS => ro_fieldAddr (k := 0) rfl fo_101_0) ?_
  refine pi_ro rfl (fun w hS => ro_loadB rfl sc_96 (hS.1) (rfl)) ?_
  refine pi_ro rfl (fun w hS => ro_loadAggB rfl ag_113 (hS.2) (rfl) (rfl)) ?_
  refine pi_call rfl rfl en_105 (Print105 hD hA hnb (hfm.far (Fram.drew none' w1 _) (fun q ↦ q)) hN) ?_
  rintro _ u1 ⟨rfl, hfm1, G1⟩
  replace hF := (hF.trans ((Fram.drew none' w1 _).mono (fun _ _ h => h.elim))).trans G1
  replace hE := G1.blkF hE (fun q => absurd (show N.e = N.f from q) (by omega))
  replace h3 := G1.blkF h3 (fun q => absurd (show b3 = N.f from q) (by omega))
  refine ⟨⟨hE, h3⟩, ?_⟩
  refine pi_ro rfl (fun w hS => ro_move rfl) ?_
  refine pi_ro rfl (fun w hS => ro_extract rfl rfl) ?_
  refine pi_ro rfl (fun w hS => ro_extract rfl rfl) ?_
  refine pi_ro rfl (fun w hS => ro_assign rfl) ?_
  refine pi_ro rfl (fun w hS => ro_assign rfl) ?_
  refine pi_nil (x_then (hK2 _ _ ?_))
  clear hK2 K2
  refine forget [(5, _)] ⟨rfl, trivial⟩ (fun e => ?_)
  refine c_seq (fun K3 hK3 => ?_)
  refine c_reg ?_ -- region 2 editm.go:44
  refine wl (ro_move rfl) ?_
  refine wl (ro_catS (l := [61]) (m := textF n) rfl rfl (by have := (text_law hD hA).1; simp; omega)) ?_
  refine wl (ro_assign rfl) ?_
  refine wl_nil (x_then (hK3 _ _ ?_))
  clear hK3 K3
  refine c_ret ?_
  refine bp_ret Tryz.results80 rfl ?_
  exact ⟨rfl, hfm1, hF⟩

end Go.Proofs.Qxb6500570aGreat
