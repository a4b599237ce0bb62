import Derived.Test.Qxb6500570aGreatLc
import Derived.Test.Qxb6500570aGreatQc
import Derived.Test.Qxb6500570aGreatFu
/- The real editor: reading, setting one cell. -/
namespace Go.Proofs.Qxb6500570aGreat
set_option linter.unusedVariables false
set_option linter.unusedSimpArgs false

theorem Raw58o {w : World} {k : Nat} {c : Int} (hc : c < 0 ∨ 24 ≤ c) : Ret Tryz.prog 58 [ptr k, icv c] w (fun v w' => v = S [] ∧ w' = w) := by
  refine ret_of Tryz.func58 rfl Tryz.ntmps58 rfl ?_
  refine c_seq (fun K1 hK1 => ?_)
  refine c_reg ?_ -- region 0 calc.go:48
  refine wl (ro_assign rfl) ?_
  refine wl_nil (x_then (hK1 _ _ ?_))
  clear hK1 K1
  refine c_seq (fun K2 hK2 => ?_)
  refine c_seq (fun K3 hK3 => ?_)
  refine c_reg ?_ -- region 1 calc.go:49
  refine wl (ro_move rfl) ?_
  refine wl (ro_cmp (r := decide (c < 0)) rfl rfl rfl) ?_
  refine wl_fork rfl (fun hg7 => ?_) (fun hg7 => ?_)
  · try simp only [decide_eq_true_eq, decide_eq_false_iff_not, Bool.not_eq_true', Bool.not_eq_false', Bool.not_eq_eq_eq_not, Bool.not_true, Bool.not_false, beq_iff_eq, bne_iff_ne, ne_eq, beq_eq_false_iff_ne, bne_eq_false_iff_eq, gt_iff_lt, ge_iff_le, Int.not_lt, Int.not_le] at hg7
    refine wlg_no rfl ?_
    refine wlg_no rfl ?_
    refine wl (ro_pick rfl rfl rfl) ?_
    refine wl_nil (x_then (hK3 _ _ ?_))
    clear hK3 K3
    refine wc_condT rfl ?_
    refine c_seq (fun K4 hK4 => ?_)
    refine c_reg ?_ -- region 2 calc.go:50
    refine wl (ro_assign rfl) ?_
    refine wl_nil (x_then (hK4 _ _ ?_))
    clear hK4 K4
    refine c_ret (x_thenR ?_)
    refine bp_ret Tryz.results58 rfl ?_
    exact ⟨rfl, rfl⟩
  · try simp only [decide_eq_true_eq, decide_eq_false_iff_not, Bool.not_eq_true', Bool.not_eq_false', Bool.not_eq_eq_eq_not, Bool.not_true, Bool.not_false, beq_iff_eq, bne_iff_ne, ne_eq, beq_eq_false_iff_ne, bne_eq_false_iff_eq, gt_iff_lt, ge_iff_le, Int.not_lt, Int.not_le] at hg7
    refine wlg_yes rfl (ro_move rfl) ?_
    refine wlg_yes rfl (ro_cmp (r := true) rfl rfl (congrArg some (decide_eq_true (by omega)))) ?_
    refine wl (ro_pick rfl rfl rfl) ?_
    refine wl_nil (x_then (hK3 _ _ ?_))
    clear hK3 K3
    refine wc_condT rfl ?_
    refine c_seq (fun K5 hK5 => ?_)
    refine c_reg ?_ -- region 2 calc.go:50
    refine wl (ro_assign rfl) ?_
    refine wl_nil (x_then (hK5 _ _ ?_))
    clear hK5 K5
    refine c_ret (x_thenR ?_)
    refine bp_ret Tryz.results58 rfl ?_
    exact ⟨rfl, rfl⟩
theorem Value119o {w : World} {k : Nat} {c : Int} (hc : c < 0 ∨ 24 ≤ c) : Ret Tryz.prog 119 [ptr k, icv c] w (fun v w' => v = vlA vZ ∧ Fram none' w w') := by
  have hF : Fram none' w w := Fram.refl _ _
  refine ret_of Tryz.func119 rfl Tryz.ntmps119 rfl ?_
  refine c_seq (fun K1 hK1 => ?_)
  refine c_reg ?_ -- region 0 calc.go:56
  refine wl_new (ze_104) (fun b4 w1 hbb4 h4 F1 => ?_)
  have hbsb4 := Nat.le_trans hF.size hbb4
  replace hF := hF.thenDrew.thenN F1
  refine wl_nil (x_then (hK1 _ _ ?_))
  clear hK1 K1
  refine c_seq (fun K2 hK2 => ?_)
  refine c_seq (fun K3 hK3 => ?_)
  refine c_reg ?_ -- region 1 calc.go:57
  refine wl (ro_move rfl) ?_
  refine wl (ro_cmp (r := decide (c < 0)) rfl rfl rfl) ?_
  refine wl_fork rfl (fun hg7 => ?_) (fun hg7 => ?_)
  · try simp only [decide_eq_true_eq, decide_eq_false_iff_not, Bool.not_eq_true', Bool.not_eq_false', Bool.not_eq_eq_eq_not, Bool.not_true, Bool.not_false, beq_iff_eq, bne_iff_ne, ne_eq, beq_eq_false_iff_ne, bne_eq_false_iff_eq, gt_iff_lt, ge_iff_le, Int.not_lt, Int.not_le] at hg7
    refine wlg_no rfl ?_
    refine wlg_no rfl ?_
    refine wl (ro_pick rfl rfl rfl) ?_
    refine wl_nil (x_then (hK3 _ _ ?_))
    clear hK3 K3
    refine wc_condT rfl ?_
    refine c_seq (fun K4 hK4 => ?_)
    refine c_reg ?_ -- region 2 calc.go:58
    refine wl (ro_build rfl bld_104) ?_
    refine wl_puta rfl rfl ((by (try exact vlc_cells _); all_goals simp [Value.oneCell', i64c, icv, u64c, u8c, ptr, S])) sz_104 (rfl) h4 ((by simp)) (rfl) (fun w2 h4 F2 => ?_)
    replace hF := hF.thenDrew.thenO F2 (by first | exact .inr (by omega) | exact .inl rfl | exact .inl (by assumption))
    refine wl_nil (x_then (hK4 _ _ ?_))
    clear hK4 K4
    refine c_ret (x_thenR ?_)
    refine bq_ret (res1 Tryz.results119 (rv_c rfl ag_104 (h4) (rfl))) ?_
    exact ⟨rfl, hF⟩
  · try simp only [decide_eq_true_eq, decide_eq_false_iff_not, Bool.not_eq_true', Bool.not_eq_false', Bool.not_eq_eq_eq_not, Bool.not_true, Bool.not_false, beq_iff_eq, bne_iff_ne, ne_eq, beq_eq_false_iff_ne, bne_eq_false_iff_eq, gt_iff_lt, ge_iff_le, Int.not_lt, Int.not_le] at hg7
    refine wlg_yes rfl (ro_move rfl) ?_
    refine wlg_yes rfl (ro_cmp (r := true) rfl rfl (congrArg some (decide_eq_true (by omega)))) ?_
    refine wl (ro_pick rfl rfl rfl) ?_
    refine wl_nil (x_then (hK3 _ _ ?_))
    clear hK3 K3
    refine wc_condT rfl ?_
    refine c_seq (fun K5 hK5 => ?_)
    refine c_reg ?_ -- region 2 calc.go:58
    refine wl (ro_build rfl bld_104) ?_
    refine wl_puta rfl rfl ((by (try exact vlc_cells _); all_goals simp [Value.oneCell', i64c, icv, u64c, u8c, ptr, S])) sz_104 (rfl) h4 ((by simp)) (rfl) (fun w3 h4 F3 => ?_)
    replace hF := hF.thenDrew.thenO F3 (by first | exact .inr (by omega) | exact .inl rfl | exact .inl (by assumption))
    refine wl_nil (x_then (hK5 _ _ ?_))
    clear hK5 K5
    refine c_ret (x_thenR ?_)
    refine bq_ret (res1 Tryz.results119 (rv_c rfl ag_104 (h4) (rfl))) ?_
    exact ⟨rfl, hF⟩

structure DB where
  e : Nat
  b : Nat
  m : Nat
  B : FB7
  C : CB
structure DaB (lo hi : Nat) (D : DB) : Prop where
  cb : CaB lo D.m D.C
  fo : FBo D.B
  g1 : D.m ≤ D.B.f ∧ D.m ≤ D.B.t ∧ D.m ≤ D.B.a ∧ D.m ≤ D.B.v ∧ D.m ≤ D.B.o ∧ D.m ≤ D.B.n ∧ D.m ≤ D.B.u
  g2 : D.B.f < D.b ∧ D.B.t < D.b ∧ D.B.a < D.b ∧ D.B.v < D.b ∧ D.B.o < D.b ∧ D.B.n < D.b ∧ D.B.u < D.b
  be : D.b < D.e
  eh : D.e < hi
abbrev dst (D : DB) : List Value := [ptr D.B.f, ptr D.C.k, sl D.b 24]
structure DaV (w : World) (D : DB) (U T : List Tx) (SL : List Vl) : Prop where
  hE : Blk w.heap D.e (dst D) 95
  hU : Blk w.heap D.b (rws stc U) 9
  ul : U.length = 24
  fm : FmR w D.B
  cv : CaV w D.C T SL
theorem DaB.fset {lo hi : Nat} {D : DB} (h : DaB lo hi D) : ∀ b, fset D.B b → D.m ≤ b ∧ b < D.b := by
  have h1 := h.g1
  have h2 := h.g2
  rintro b (rfl | rfl | rfl | rfl | rfl) <;> omega
theorem DaB.pnset {lo hi : Nat} {D : DB} (h : DaB lo hi D) : ∀ b, pnset D.B b → D.m ≤ b ∧ b < D.b := by
  have h1 := h.g1
  have h2 := h.g2
  rintro b (rfl | rfl | rfl) <;> omega
theorem DaB.sev {lo hi : Nat} {D : DB} (h : DaB lo hi D) : ∀ b, (b = D.B.f ∨ b = D.B.t ∨ b = D.B.a ∨ b = D.B.v ∨ b = D.B.o ∨ b = D.B.n ∨ b = D.B.u) → D.m ≤ b ∧ b < D.b := by
  have h1 := h.g1
  have h2 := h.g2
  rintro b (rfl | rfl | rfl | rfl | rfl | rfl | rfl) <;> omega
theorem DaB.lom {lo hi : Nat} {D : DB} (h : DaB lo hi D) : lo < D.m := by
  have h1 := h.cb.lo
  have h2 := h.cb
  have h3 := h2.2.1
  unfold CaB at h2
  unfold GBo at h3
  omega
theorem DaB.mb {lo hi : Nat} {D : DB} (h : DaB lo hi D) : D.m < D.b := by
  have h1 := h.g1
  have h2 := h.g2
  omega
theorem DaV.far {w w' : World} {lo hi : Nat} {D : DB} {U T : List Tx} {SL : List Vl} {G : Nat → Prop} (hb : DaB lo hi D) (h : DaV w D U T SL) (F : Fram G w w') (hn : ∀ b, lo ≤ b → b < hi → ¬ G b) : DaV w' D U T SL := by
  have h1 := hb.lom
  have h2 := hb.mb
  have h3 := hb.be
  have h4 := hb.eh
  exact ⟨F.blkF h.hE (hn _ (by omega) (by omega)), F.blkF h.hU (hn _ (by omega) (by omega)), h.ul, h.fm.far F (fun b q => by have := hb.sev b q; exact hn b (by omega) (by omega)), h.cv.far hb.cb F (fun b q1 q2 => hn b q1 (by omega))⟩

def setE (c : Int) (raw : Tx) : Int := if 40 < raw.length then 1 else if c < 0 ∨ 24 ≤ c then 9 else 0
def setS (T : List Tx) (c : Int) (raw : Tx) : List Tx := if raw.length ≤ 40 ∧ 0 ≤ c ∧ c < 24 then T.set c.toNat raw else T
def getS (T : List Tx) (c : Int) : Tx := if 0 ≤ c ∧ c < 24 then tF T c.toNat else []
def getV (SL : List Vl) (c : Int) : Vl := if 0 ≤ c ∧ c < 24 then envF SL c.toNat else vZ
theorem getS_nat {T : List Tx} {c : Nat} (hc : c < 24) : getS T (c : Int) = tF T c := by unfold getS; rw [if_pos (by omega), Int.toNat_natCast]
theorem setS_nat {T : List Tx} {c : Nat} {raw : Tx} (hc : c < 24) (hr : raw.length ≤ 40) : setS T (c : Int) raw = T.set c raw := by
  unfold setS; rw [if_pos (by omega), Int.toNat_natCast]
theorem setS_st {T : List Tx} {c : Nat} {raw : Tx} (hc : c < 24) : setS T (c : Int) raw = stT T c raw := by
  unfold setS stT
  by_cases q : raw.length ≤ 40
  · rw [if_pos q, if_pos (by omega), Int.toNat_natCast]
  · rw [if_neg q, if_neg (by omega)]
theorem Set59G {w : World} {lo hi : Nat} {c : Int} {C : CB} {T : List Tx} {SL : List Vl} {raw : Tx} (hb : CaB lo hi C) (hhi : hi ≤ w.heap.size) (h : CaV w C T SL) :
    Ret Tryz.prog 59 [ptr C.k, icv c, S raw] w (fun v w' => v = icv (setE c raw) ∧ (∃ SL', CaV w' C (setS T c raw) SL') ∧ Fram (rng lo hi) w w') := by
  unfold setE setS
  by_cases h1 : 40 < raw.length
  · rw [if_pos h1, if_neg (by omega)]
    exact (Set59L h1).mono (fun v w' q => ⟨q.1, by rw [q.2]; exact ⟨SL, h⟩, by rw [q.2]; exact Fram.refl _ _⟩)
  · rw [if_neg h1]
    by_cases h2 : c < 0 ∨ 24 ≤ c
    · rw [if_pos h2, if_neg (by omega)]
      exact (Set59C (by omega) h2).mono (fun v w' q => ⟨q.1, by rw [q.2]; exact ⟨SL, h⟩, by rw [q.2]; exact Fram.refl _ _⟩)
    · rw [if_neg h2, if_pos (by omega)]
      obtain ⟨d, rfl⟩ : ∃ d : Nat, c = (d : Int) := ⟨c.toNat, by omega⟩
      exact (Set59 hb hhi h (c := d) (by omega) (by omega)).mono (fun v w' q => ⟨q.1, by rw [Int.toNat_natCast]; exact q.2.1, q.2.2⟩)
theorem Raw58G {w : World} {C : CB} {T : List Tx} {SL : List Vl} {c : Int} (h : CaV w C T SL) : Ret Tryz.prog 58 [ptr C.k, icv c] w (fun v w' => v = S (getS T c) ∧ w' = w) := by
  unfold getS
  by_cases h2 : 0 ≤ c ∧ c < 24
  · rw [if_pos h2]
    obtain ⟨d, rfl⟩ : ∃ d : Nat, c = (d : Int) := ⟨c.toNat, by omega⟩
    rw [Int.toNat_natCast]
    exact Raw58 h.hK h.hR h.tl (by omega)
  · rw [if_neg h2]
    exact Raw58o (by omega)
theorem Value119G {w : World} {C : CB} {T : List Tx} {SL : List Vl} {c : Int} (h : CaV w C T SL) : Ret Tryz.prog 119 [ptr C.k, icv c] w (fun v w' => v = vlA (getV SL c) ∧ Fram none' w w') := by
  unfold getV
  by_cases h2 : 0 ≤ c ∧ c < 24
  · rw [if_pos h2]
    obtain ⟨d, rfl⟩ : ∃ d : Nat, c = (d : Int) := ⟨c.toNat, by omega⟩
    rw [Int.toNat_natCast]
    exact Value119 h.hK h.hV h.sl (by omega)
  · rw [if_neg h2]
    exact Value119o (by omega)
theorem Raw32 {w : World} {D : DB} {U T : List Tx} {SL : List Vl} {c : Int} (h : DaV w D U T SL) : Ret Tryz.prog 32 [ptr D.e, icv c] w (fun v w' => v = S (getS T c) ∧ w' = w) := by
  have hE := h.hE
  refine ret_of Tryz.func32 rfl Tryz.ntmps32 rfl ?_
  refine c_seq (fun K1 hK1 => ?_)
  refine c_reg ?_ -- region 0 edit.go:46
  refine wl (ro_assign rfl) ?_
  refine wl_nil (x_then (hK1 _ _ ?_))
  clear hK1 K1
  refine forget [(0, _), (1, _)] ⟨rfl, rfl, trivial⟩ (fun e => ?_)
  refine c_seq (fun K2 hK2 => ?_)
  refine c_reg ?_ -- region 1 edit.go:46
  refine wl (ro_move rfl) ?_
  refine wl (ro_nilCheck rfl) ?_
  refine wl (ro_fieldAddr (k := 1) rfl fo_95_1) ?_
  refine wl (ro_loadB rfl sc_44 (by assumption) rfl) ?_
  refine wl (ro_move rfl) ?_
  refine wl_call rfl en_58 (Raw58G h.cv) ?_
  rintro _ _ ⟨rfl, rfl⟩
  refine wl (ro_assign rfl) ?_
  refine wl_nil (x_then (hK2 _ _ ?_))
  clear hK2 K2
  refine c_ret ?_
  refine bp_ret Tryz.results32 rfl ?_
  exact ⟨rfl, rfl⟩
theorem Value94 {w : World} {D : DB} {lo hi : Nat} {U T : List Tx} {SL : List Vl} {c : Int} (hb : DaB lo hi D) (h : DaV w D U T SL) : Ret Tryz.prog 94 [ptr D.e, icv c] w (fun v w' => v = vlA (getV SL c) ∧ Fram none' w w') := by
  have hF : Fram none' w w := Fram.refl _ _
  have hE := h.hE
  refine ret_of Tryz.func94 rfl Tryz.ntmps94 rfl ?_
  refine c_seq (fun K1 hK1 => ?_)
  refine c_reg ?_ -- region 0 edit.go:49
  refine wl_new (ze_104) (fun b4 w1 hbb4 h4 F1 => ?_)
  have hbsb4 := Nat.le_trans hF.size hbb4
  have hneD.eb4 : D.e < b4 := Nat.lt_of_lt_of_le hE.lt hbb4
  replace hF := hF.thenDrew.thenN F1
  replace hE := F1.blkN hE
  replace h := DaV.far hb h F1 (fun _ _ _ h ↦ h)
  refine wl_nil (x_then (hK1 _ _ ?_))
  clear hK1 K1
  refine forget [(0, _), (1, _), (4, _)] ⟨rfl, rfl, rfl, trivial⟩ (fun e => ?_)
  refine c_seq (fun K2 hK2 => ?_)
  refine c_reg ?_ -- region 1 edit.go:49
  refine wl (ro_move rfl) ?_
  refine wl (ro_nilCheck rfl) ?_
  refine wl (ro_fieldAddr (k := 1) rfl fo_95_1) ?_
  refine wl (ro_loadB rfl sc_44 (by assumption) rfl) ?_
  refine wl (ro_move rfl) ?_
  refine wl_call rfl en_119 (Value119G h.cv) ?_
  rintro _ u1 ⟨rfl, G1⟩
  replace hF := hF.transG G1 (by intro k hk h; simp only [none'] at h ⊢ <;> omega)
  replace hE := G1.blkF hE (by intro h; simp only [none'] at h <;> omega)
  replace h4 := G1.blkF h4 (by intro h; simp only [none'] at h <;> omega)
  refine wl_puta rfl rfl ((by (try exact vlc_cells _); all_goals simp [Value.oneCell', i64c, icv, u64c, u8c, ptr, S])) sz_104 (rfl) h4 ((by simp)) (rfl) (fun w2 h4 F2 => ?_)
  replace hF := hF.thenDrew.thenO F2 (by first | exact .inr (by omega) | exact .inl rfl | exact .inl (by assumption))
  replace hE := F2.blkO hE (by omega)
  refine wl_nil (x_then (hK2 _ _ ?_))
  clear hK2 K2
  refine c_ret ?_
  refine bq_ret (res1 Tryz.results94 (rv_c rfl ag_104 (h4) (rfl))) ?_
  exact ⟨rfl, hF⟩
theorem Set33 {w : World} {D : DB} {lo hi : Nat} {U T : List Tx} {SL : List Vl} {c : Int} {raw : Tx} (hb : DaB lo hi D) (hhi : hi ≤ w.heap.size) (h : DaV w D U T SL) : Ret Tryz.prog 33 [ptr D.e, icv c, S raw] w (fun v w' => v = icv (setE c raw) ∧ (∃ SL', DaV w' D U (setS T c raw) SL') ∧ Fram (rng lo hi) w w') := by
  have hE := h.hE
  have h1 := hb.lom
  have h2 := hb.mb
  have h3 := hb.be
  have h4 := hb.eh
  refine ret_of Tryz.func33 rfl Tryz.ntmps33 rfl ?_
  refine c_seq (fun K1 hK1 => ?_)
  refine c_reg ?_ -- region 0 edit.go:38
  refine wl (ro_assign rfl) ?_
  refine wl_nil (x_then (hK1 _ _ ?_))
  clear hK1 K1
  refine c_seq (fun K2 hK2 => ?_)
  refine c_seq (fun K3 hK3 => ?_)
  refine c_reg ?_ -- region 1 edit.go:39
  refine wl (ro_move rfl) ?_
  refine wl (ro_lenS rfl st_9) ?_
  refine wl (ro_cmp (r := decide (40 < raw.length)) rfl rfl (congrArg some (decide_eq_decide.2 (by show ((raw.length : Nat) : Int) > 40 ↔ _; omega)))) ?_
  refine wl_nil (x_then (hK3 _ _ ?_))
  clear hK3 K3
  refine wc_cond rfl (fun hc9 => ?_) (fun hc9 => ?_)
  · try simp only [decide_eq_true_eq, decide_eq_false_iff_not, Bool.not_eq_true', Bool.not_eq_false', Bool.not_eq_eq_eq_not, Bool.not_true, Bool.not_false, beq_iff_eq, bne_iff_ne, ne_eq, beq_eq_false_iff_ne, bne_eq_false_iff_eq, gt_iff_lt, ge_iff_le, Int.not_lt, Int.not_le] at hc9
    refine c_seq (fun K4 hK4 => ?_)
    refine c_reg ?_ -- region 2 edit.go:40
    refine wl (ro_assign rfl) ?_
    refine wl_nil (x_then (hK4 _ _ ?_))
    clear hK4 K4
    refine c_ret (x_thenR ?_)
    refine bp_ret Tryz.results33 rfl ?_
    unfold setE setS
    rw [if_pos hc9, if_neg (by omega)]
    exact ⟨rfl, ⟨SL, h⟩, Fram.refl _ _⟩
  · try simp only [decide_eq_true_eq, decide_eq_false_iff_not, Bool.not_eq_true', Bool.not_eq_false', Bool.not_eq_eq_eq_not, Bool.not_true, Bool.not_false, beq_iff_eq, bne_iff_ne, ne_eq, beq_eq_false_iff_ne, bne_eq_false_iff_eq, gt_iff_lt, ge_iff_le, Int.not_lt, Int.not_le] at hc9
    refine c_skip (x_then (hK2 _ _ ?_))
    clear hK2 K2
    refine forget [(0, _), (1, _), (2, _)] ⟨rfl, rfl, rfl, trivial⟩ (fun e => ?_)
    refine c_seq (fun K5 hK5 => ?_)
    refine c_reg ?_ -- region 3 edit.go:42
    refine wl (ro_move rfl) ?_
    refine wl (ro_nilCheck rfl) ?_
    refine wl (ro_fieldAddr (k := 1) rfl fo_95_1) ?_
    refine wl (ro_loadB rfl sc_44 (by assumption) rfl) ?_
    refine wl (ro_move rfl) ?_
    refine wl (ro_move rfl) ?_
    refine wl_call rfl en_59 (Set59G hb.cb (by omega) h.cv) ?_
    rintro _ u1 ⟨rfl, ⟨SL1, hc1⟩, G1⟩
    refine wl (ro_assign rfl) ?_
    refine wl_nil (x_then (hK5 _ _ ?_))
    clear hK5 K5
    refine c_ret ?_
    refine bp_ret Tryz.results33 rfl ?_
    refine ⟨rfl, ⟨SL1, G1.blkF h.hE (fun q => by have := q.2; omega), G1.blkF h.hU (fun q => by have := q.2; omega), h.ul, h.fm.far G1 (fun b q hq => by have := hb.sev b q; have := hq.2; omega), hc1⟩, G1.mono (fun b _ q => ⟨q.1, by have := q.2; omega⟩)⟩
theorem lay75 {w : World} {D : DB} {lo hi c : Nat} {U T : List Tx} {SL : List Vl} {raw : Tx} (hb : DaB lo hi D) (hhi : hi ≤ w.heap.size) (h : DaV w D U T SL) (hc : c < 24) : Ret Tryz.prog 75 [ptr D.e, i64c c, S raw] w (fun v w' => (∃ SL', DaV w' D U (stT T c raw) SL') ∧ Fram (rng lo D.m) w w') := by
  have hE := h.hE
  have h1 := hb.lom
  have h2 := hb.mb
  have h3 := hb.be
  have h4 := hb.eh
  have hg : getS T (c : Int) = tF T c := by unfold getS; rw [if_pos (by omega), Int.toNat_natCast]
  have hs : setS T (c : Int) raw = stT T c raw := by
    unfold setS stT
    by_cases q : raw.length ≤ 40
    · rw [if_pos q, if_pos (by omega), Int.toNat_natCast]
    · rw [if_neg q, if_neg (by omega)]
  refine ret_of Tryz.func75 rfl Tryz.ntmps75 rfl ?_
  refine c_seq (fun K1 hK1 => ?_)
  refine c_reg ?_ -- region 0 edit.go:71
  refine wl (ro_move rfl) ?_
  refine wl (ro_nilCheck rfl) ?_
  refine wl (ro_fieldAddr (k := 1) rfl fo_95_1) ?_
  refine wl (ro_loadB rfl sc_44 (by assumption) rfl) ?_
  refine wl (ro_move rfl) ?_
  refine wl_call rfl en_58 (Raw58G h.cv) ?_
  rintro _ _ ⟨rfl, rfl⟩
  rw [hg]
  refine wl (ro_assign rfl) ?_
  refine wl_nil (x_then (hK1 _ _ ?_))
  clear hK1 K1
  refine forget [(0, _), (1, _), (2, _), (6, _)] ⟨rfl, rfl, rfl, rfl, trivial⟩ (fun e => ?_)
  refine c_seq (fun K2 hK2 => ?_)
  refine c_reg ?_ -- region 1 edit.go:72
  refine wl (ro_move rfl) ?_
  refine wl (ro_move rfl) ?_
  refine wl (ro_eqS (l := tF T c) (m := raw) (r := decide (tF T c ≠ raw)) rfl rfl (congrArg some (by by_cases h : tF T c = raw <;> simp [h]))) ?_
  refine wl_nil (x_then (hK2 _ _ ?_))
  clear hK2 K2
  refine wc_cond rfl (fun hc15 => ?_) (fun hc15 => ?_)
  · try simp only [decide_eq_true_eq, decide_eq_false_iff_not, Bool.not_eq_true', Bool.not_eq_false', Bool.not_eq_eq_eq_not, Bool.not_true, Bool.not_false, beq_iff_eq, bne_iff_ne, ne_eq, beq_eq_false_iff_ne, bne_eq_false_iff_eq, gt_iff_lt, ge_iff_le, Int.not_lt, Int.not_le] at hc15
    refine c_reg ?_ -- region 2 edit.go:73
    refine wl (ro_move rfl) ?_
    refine wl (ro_nilCheck rfl) ?_
    refine wl (ro_fieldAddr (k := 1) rfl fo_95_1) ?_
    refine wl (ro_loadB rfl sc_44 (by assumption) rfl) ?_
    refine wl (ro_move rfl) ?_
    refine wl (ro_move rfl) ?_
    refine wl_call rfl en_59 (Set59G hb.cb (by omega) h.cv) ?_
    rintro _ u1 ⟨rfl, ⟨SL1, hc1⟩, G1⟩
    rw [hs] at hc1
    refine wl_nil ?_
    refine bp_end Tryz.results75 rfl ?_
    refine ⟨⟨SL1, G1.blkF h.hE (fun q => by have := q.2; omega), G1.blkF h.hU (fun q => by have := q.2; omega), h.ul, h.fm.far G1 (fun b q hq => by have := hb.sev b q; have := hq.2; omega), hc1⟩, G1⟩
  · try simp only [decide_eq_true_eq, decide_eq_false_iff_not, Bool.not_eq_true', Bool.not_eq_false', Bool.not_eq_eq_eq_not, Bool.not_true, Bool.not_false, beq_iff_eq, bne_iff_ne, ne_eq, beq_eq_false_iff_ne, bne_eq_false_iff_eq, gt_iff_lt, ge_iff_le, Int.not_lt, Int.not_le] at hc15
    refine c_skip ?_
    refine bp_end Tryz.results75 rfl ?_
    refine ⟨⟨SL, ?_⟩, Fram.refl _ _⟩
    have e : raw = tF T c := (Classical.not_not.1 hc15).symm
    subst e
    unfold stT
    rw [set_tF]
    split <;> exact h

/-! ### texts to trees and back -/
def opR (raw : Tx) : Option (List Nd) := if raw[0]? = some 61 then prs (raw.drop 1) else none
/-- A formula that parses is rewritten; all else stays. -/
def rwT (g : Nd → Nd) (raw : Tx) : Tx := match opR raw with
  | none => raw
  | some n => 61 :: textF (n.map g)
theorem opR_ok {raw : Tx} {n : List Nd} (h : opR raw = some n) : DoneOK n ∧ AOK n := by
  unfold opR at h
  split at h
  · refine ⟨prs_ok h, ?_⟩
    unfold prs at h
    split at h
    · exact parse_nm h
    · cases h
  · cases h
def TrO (w0 w : World) (cs : List Value) (o : Option (List Nd)) : Prop := match o with
  | some ar => ∃ qb, cs = [sl qb ar.length, icv ((ar.length : Int) - 1), icv 0, icv 0] ∧ w0.heap.size ≤ qb ∧ Blk w.heap qb (rws ndc ar) 143
  | none => cs.length = 4 ∧ ∀ x ∈ cs, x.oneCell' = true
theorem TrO.form {w0 w : World} {cs : List Value} {o : Option (List Nd)} (h : TrO w0 w cs o) : cs.length = 4 ∧ ∀ x ∈ cs, x.oneCell' = true := by
  cases o with
  | none => exact h
  | some ar =>
    obtain ⟨qb, rfl, h2⟩ := h
    exact ⟨rfl, by simp [Value.oneCell', icv, sl]⟩
theorem TrC.toO {w0 w : World} {cs : List Value} {o : Option (List Nd)} (h : TrC w0 w cs o) : TrO w0 w cs o := by
  cases o with
  | none =>
    obtain ⟨er, bd, h1, rfl⟩ := h
    exact ⟨rfl, by simp [Value.oneCell', icv]⟩
  | some ar => exact h
theorem TrC.er {w0 w : World} {cs : List Value} {o : Option (List Nd)} (h : TrC w0 w cs o) : ∃ er : Int, cs[2]? = some (icv er) ∧ decide (er = 0) = o.isSome := by
  cases o with
  | none =>
    obtain ⟨er, bd, h1, rfl⟩ := h
    exact ⟨er, rfl, decide_eq_false h1⟩
  | some ar =>
    obtain ⟨qb, rfl, h2⟩ := h
    exact ⟨0, rfl, rfl⟩
theorem TrC.far {w0 w w' : World} {cs : List Value} {o : Option (List Nd)} {G : Nat → Prop} (h : TrC w0 w cs o) (F : Fram G w w') (hn : ∀ b, w0.heap.size ≤ b → Blk w.heap b (rws ndc (o.getD [])) 143 → ¬ G b) : TrC w0 w' cs o := by
  cases o with
  | none => exact h
  | some ar =>
    obtain ⟨qb, h1, h2, h3⟩ := h
    exact ⟨qb, h1, h2, F.blkF h3 (hn qb h2 h3)⟩
theorem ne61 (c0 : UInt8) : ((c0.toNat : Int) != 61) = decide (c0 ≠ 61) := by
  by_cases h : c0 = 61
  · subst h; rfl
  · have h2 : c0.toNat ≠ 61 := fun q => h (UInt8.toNat_inj.1 q)
    rw [decide_eq_true h]
    simp
    omega
theorem TrC.old {w0 w1 w : World} {cs : List Value} {o : Option (List Nd)} (h : TrC w1 w cs o) (hs : w0.heap.size ≤ w1.heap.size) : TrC w0 w cs o := by
  cases o with
  | none => exact h
  | some ar =>
    obtain ⟨qb, h1, h2, h3⟩ := h
    exact ⟨qb, h1, by omega, h3⟩
theorem opR_no {raw : Tx} (h : raw[0]? ≠ some 61) : opR raw = none := by unfold opR; rw [if_neg h]
set_option maxHeartbeats 4000000 in
theorem tree72 {w : World} {D : DB} {lo hi : Nat} {raw : Tx} (hb : DaB lo hi D) (hE : Blk w.heap D.e (dst D) 95) (hfm : FmR w D.B) (hr : raw.length ≤ 40) :
    Ret Tryz.prog 72 [ptr D.e, S raw] w (fun v w' => (∃ cs : List Value, v = .tuple #[.agg cs.toArray, .bool (opR raw).isSome] ∧ TrO w w' cs (opR raw)) ∧ FmR w' D.B ∧ Fram (fset D.B) w w') := by
  have hF : Fram (fset D.B) w w := Fram.refl _ _
  have hbe := hb.be
  have hX := hb.fset
  have hEl := hE.lt
  refine ret_of Tryz.func72 rfl Tryz.ntmps72 rfl ?_
  refine c_seq (fun K1 hK1 => ?_)
  refine c_reg ?_ -- region 0 edit.go:52
  refine wl_new (ze_113) (fun b4 w1 hbb4 h4 F1 => ?_)
  have hbsb4 := Nat.le_trans hF.size hbb4
  have hneD.eb4 : D.e < b4 := Nat.lt_of_lt_of_le hE.lt hbb4
  replace hF := hF.thenDrew.thenN F1
  replace hE := F1.blkN hE
  replace hfm := hfm.far F1 (fun _ _ h ↦ h)
  refine wl (ro_assign rfl) ?_
  refine wl_nil (x_then (hK1 _ _ ?_))
  clear hK1 K1
  refine c_seq (fun K2 hK2 => ?_)
  refine c_seq (fun K3 hK3 => ?_)
  refine c_reg ?_ -- region 1 edit.go:53
  refine wl (ro_move rfl) ?_
  refine wl (ro_lenS rfl st_9) ?_
  refine wl (ro_cmp (r := decide (raw.length = 0)) rfl rfl (congrArg some (decide_eq_decide.2 (by omega)))) ?_
  refine wl_nil (x_then (hK3 _ _ ?_))
  clear hK3 K3
  refine wc_cond rfl (fun hc9 => ?_) (fun hc9 => ?_)
  · try simp only [decide_eq_true_eq, decide_eq_false_iff_not, Bool.not_eq_true', Bool.not_eq_false', Bool.not_eq_eq_eq_not, Bool.not_true, Bool.not_false, beq_iff_eq, bne_iff_ne, ne_eq, beq_eq_false_iff_ne, bne_eq_false_iff_eq, gt_iff_lt, ge_iff_le, Int.not_lt, Int.not_le] at hc9
    refine c_seq (fun K4 hK4 => ?_)
    refine c_reg ?_ -- region 2 edit.go:54
    refine wl (ro_build rfl bld_113) ?_
    refine wl_puta rfl rfl ((by simp [Value.oneCell', icv])) sz_113 (rfl) h4 ((by simp)) (rfl) (fun w2 h4 F2 => ?_)
    replace hF := hF.thenDrew.thenO F2 (by first | exact .inr (by omega) | exact .inl rfl | exact .inl (by assumption))
    replace hE := F2.blkO hE (by omega)
    replace hfm := hfm.far F2 (fun b q hh ↦ by have := hb.sev b q; have : b = b4 := hh; omega)
    refine wl (ro_assign rfl) ?_
    refine wl_nil (x_then (hK4 _ _ ?_))
    clear hK4 K4
    refine c_ret (x_thenR ?_)
    refine bq_ret (res2 Tryz.results72 (rv_c rfl ag_113 (h4) (rfl)) (rv_t rfl)) ?_
    rw [opR_no (by rw [List.getElem?_eq_none (by omega)]; simp)]
    exact ⟨⟨_, rfl, rfl, by simp [Value.oneCell', icv]⟩, hfm, hF⟩
  · try simp only [decide_eq_true_eq, decide_eq_false_iff_not, Bool.not_eq_true', Bool.not_eq_false', Bool.not_eq_eq_eq_not, Bool.not_true, Bool.not_false, beq_iff_eq, bne_iff_ne, ne_eq, beq_eq_false_iff_ne, bne_eq_false_iff_eq, gt_iff_lt, ge_iff_le, Int.not_lt, Int.not_le] at hc9
    obtain ⟨c0, hc0⟩ : ∃ c0, raw[0]? = some c0 := ⟨_, List.getElem?_eq_getElem (by omega)⟩
    refine c_skip (x_then (hK2 _ _ ?_))
    clear hK2 K2
    refine c_seq (fun K5 hK5 => ?_)
    refine c_seq (fun K6 hK6 => ?_)
    refine c_reg ?_ -- region 3 edit.go:56
    refine wl (ro_move rfl) ?_
    refine wl (ro_indexS rfl rfl st_9 rfl (hc0)) ?_
    refine wl (ro_cmp (r := decide (c0 ≠ 61)) rfl rfl (congrArg some (ne61 c0))) ?_
    refine wl_nil (x_then (hK6 _ _ ?_))
    clear hK6 K6
    refine wc_cond rfl (fun hc13 => ?_) (fun hc13 => ?_)
    · try simp only [decide_eq_true_eq, decide_eq_false_iff_not, Bool.not_eq_true', Bool.not_eq_false', Bool.not_eq_eq_eq_not, Bool.not_true, Bool.not_false, beq_iff_eq, bne_iff_ne, ne_eq, beq_eq_false_iff_ne, bne_eq_false_iff_eq, gt_iff_lt, ge_iff_le, Int.not_lt, Int.not_le] at hc13
      refine c_seq (fun K7 hK7 => ?_)
      refine c_reg ?_ -- region 4 edit.go:57
      refine wl (ro_build rfl bld_113) ?_
      refine wl_puta rfl rfl ((by simp [Value.oneCell', icv])) sz_113 (rfl) h4 ((by simp)) (rfl) (fun w3 h4 F3 => ?_)
      replace hF := hF.thenDrew.thenO F3 (by first | exact .inr (by omega) | exact .inl rfl | exact .inl (by assumption))
      replace hE := F3.blkO hE (by omega)
      replace hfm := hfm.far F3 (fun b q hh ↦ by have := hb.sev b q; have : b = b4 := hh; omega)
      refine wl (ro_assign rfl) ?_
      refine wl_nil (x_then (hK7 _ _ ?_))
      clear hK7 K7
      refine c_ret (x_thenR ?_)
      refine bq_ret (res2 Tryz.results72 (rv_c rfl ag_113 (h4) (rfl)) (rv_t rfl)) ?_
      rw [opR_no (by rw [hc0]; simpa using hc13)]
      exact ⟨⟨_, rfl, rfl, by simp [Value.oneCell', icv]⟩, hfm, hF⟩
    · try simp only [decide_eq_true_eq, decide_eq_false_iff_not, Bool.not_eq_true', Bool.not_eq_false', Bool.not_eq_eq_eq_not, Bool.not_true, Bool.not_false, beq_iff_eq, bne_iff_ne, ne_eq, beq_eq_false_iff_ne, bne_eq_false_iff_eq, gt_iff_lt, ge_iff_le, Int.not_lt, Int.not_le] at hc13
      have h61 : raw[0]? = some 61 := by rw [hc0, Classical.not_not.1 hc13]
      have hop : opR raw = prs (raw.drop 1) := by unfold opR; rw [if_pos h61]
      have h4l0 := h4.lt
      refine c_skip (x_then (hK5 _ _ ?_))
      clear hK5 K5
      refine forget [(0, _), (1, _), (4, _)] ⟨rfl, rfl, rfl, trivial⟩ (fun e => ?_)
      refine c_seq (fun K8 hK8 => ?_)
      refine c_piF 8 6 7 [0, 1, 2, 3, 4, 5] [(7, true)] [(6, true)] (fun w' => Blk w'.heap D.e (dst D) 95) mixed (by kernel_rfl) rfl rfl (by kernel_rfl) (po_then (po_bp)) (hE) ?_ -- region 5 edit.go:59
      refine wf_ro rfl (fun w hS => ro_move rfl) ?_
      refine wf_ro rfl (fun w hS => ro_nilCheck rfl) ?_
      refine wf_ro rfl (fun w hS => ro_fieldAddr (k := 0) rfl fo_95_0) ?_
      refine wf_ro rfl (fun w hS => ro_loadB rfl sc_38 (hS) (rfl)) ?_
      refine wf_ro rfl (fun w hS => ro_move rfl) ?_
      refine wf_ro rfl (fun w hS => ro_sliceSL (l := 1) rfl rfl st_9 rfl (by omega)) ?_
      refine wf_cn (R := (fun v u => TrV w1 u v (prs (raw.drop 1)) ∧ FmR u D.B ∧ Blk u.heap b4 [.slice none 0 0, icv 0, icv 0, icv 0] 113 ∧ Fram (fset D.B) w1 u)) (G := fset D.B) rfl rfl rfl (by decide) (by decide) (by decide) rfl (fun _ => rfl) en_97 ze_113 sz_113 rfl ((fun wA F1 => by have hq := Parse97 (s := raw.drop 1) hb.fo (hfm.far (w := w1) ((Fram.drew none' w1 _).trans F1) (fun _ _ h => h)) (by rw [List.length_drop]; omega); exact hq.mono (fun v u hh => ⟨⟨hh.1.old F1.size, hh.2.1, hh.2.2.blkF (F1.blkN (w := { w1 with drawn := w1.drawn + 1 }) h4) (fun hg => absurd (hX _ hg).2 (by omega)), (((Fram.drew none' w1 _).trans F1).mono (fun _ _ h => h.elim)).trans hh.2.2⟩, hh.2.2⟩))) ((fun v u u' hh F => ⟨hh.1.framN F, hh.2.1.far F (fun _ _ h => h), F.blkN hh.2.2.1, hh.2.2.2.thenN F⟩)) ((fun b hg => Nat.lt_trans (hX b hg).2 (by show D.b < w1.heap.size; omega))) ((fun v u hh => hh.1.form)) ((fun u F => F.blkN (w := { w1 with drawn := w1.drawn + 1 }) hE)) ((fun v u hh => hh.2.2.2.blkF hE (fun hg => absurd (hX _ hg).2 (by omega)))) ((fun v u hh => hh.2.2.2.size)) ?_
      intro cs u1 b5 u2 hR hcl hbw h50 h5 F5
      obtain ⟨hTr, hfm1, h41, G1⟩ := hR
      have hTc := hTr.cells
      have hbw' : w1.heap.size ≤ b5 := hbw
      have hszw := hF.size
      have h4l := h4.lt
      have hF2 : Fram (fset D.B) w u2 := (hF.trans G1).trans' F5 (fun k hk he => absurd (show k = b5 from he) (by omega))
      have hfm2 : FmR u2 D.B := hfm1.far F5 (fun b q he => by have := hb.sev b q; have : b = b5 := he; omega)
      have h42 := F5.blkF h41 (fun he => by have : b4 = b5 := he; omega)
      have hTc2 : TrC w1 u2 cs (prs (raw.drop 1)) := (hTc.far F5 (fun b q1 q2 he => by have e : b = b5 := he; subst e; exact absurd rfl (q2.ne_type h50 (by decide))))
      have hG1s := G1.size
      have hF5s := F5.size
      have h5l := h5.lt
      obtain ⟨er, her1, her2⟩ := hTc2.er
      have hco : ∀ x ∈ cs, x.oneCell' = true := hTc2.toO.form.2
      have hqn : ∀ b, w1.heap.size ≤ b → b ≠ b4 := fun b q e => by omega
      clear hF h4 hE hfm
      have hF := hF2
      have h4 := h42
      clear hF2 h42
      refine x_then (hK8 _ _ ?_)
      clear hK8 K8
      refine forget [(4, _), (6, _)] ⟨rfl, rfl, trivial⟩ (fun e => ?_)
      refine c_seq (fun K9 hK9 => ?_)
      refine c_pi [(0, false), (1, false), (2, false), (3, false), (4, true), (5, false)] (fun w' => Blk w'.heap b5 cs 113) mixed (by kernel_rfl) rfl (by kernel_rfl) (po_then (po_bp)) (h5) ?_ -- region 6 edit.go:60
      refine pi_ro rfl (fun w hS => ro_loadAggB rfl ag_113 (hS) (hcl) ((by rw [List.drop_zero, List.take_of_length_le (by omega)]))) ?_
      refine pi_ro rfl (fun w hS => ro_fieldAddr (k := 2) rfl fo_113_2) ?_
      refine pi_ro rfl (fun w hS => ro_loadB rfl sc_26 (hS) (her1)) ?_
      refine pi_ro rfl (fun w hS => ro_cmp (r := decide (er = 0)) rfl rfl rfl) ?_
      refine pi_putam rfl rfl rfl (hco) sz_113 (hcl) h4 ((by simp)) ((show _ = cs by simp)) (fun w1 hB1 F ↦ (F.blkO h5 (by omega))) (fun w4 h4 F4 => ?_)
      replace hF := hF.thenDrew.thenO F4 (by first | exact .inr (by omega) | exact .inl rfl | exact .inl (by assumption))
      replace h5 := F4.blkO h5 (by omega)
      replace hTc2 := (hTc2.far (Fram.drew none' u2 _) (fun _ _ _ q ↦ q)).far F4 (fun b q1 q2 hh ↦ absurd (show b = b4 from hh) (by omega))
      replace hfm2 := (hfm2.far (Fram.drew none' u2 _) (fun _ _ q ↦ q)).far F4 (fun b q hh ↦ by have := hb.sev b q; have : b = b4 := hh; omega)
      refine pi_ro rfl (fun w hS => ro_assign rfl) ?_
      refine pi_nil (x_then (hK9 _ _ ?_))
      clear hK9 K9
      refine c_ret ?_
      refine bq_ret (res2 Tryz.results72 (rv_c rfl ag_113 (h4) (hcl)) (rv_t rfl)) ?_
      rw [hop, ← her2]
      exact ⟨⟨cs, rfl, (hTc2.old hszw).toO⟩, hfm2, hF⟩

end Go.Proofs.Qxb6500570aGreat
