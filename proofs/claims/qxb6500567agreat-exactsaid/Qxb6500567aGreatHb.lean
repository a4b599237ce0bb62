import Derived.Test.Qxb6500567aGreatHa
/- The model's finder: Find, FindAll. -/
namespace Go.Proofs.Qxb6500567aGreat
set_option linter.unusedVariables false
set_option linter.unusedSimpArgs false

/-- The model's finder between calls. -/
structure FMV (w : World) (fb : Nat) (E : MB) (n : Nat) : Prop where
  blk : Blk w.heap fb [ptr E.eb] 41
  eng : MEV w.heap E n
  ord : MBo E
  ef : E.eb < fb

theorem FMV.fram {w w' : World} {fb : Nat} {E : MB} {n : Nat} {F : Nat → Prop} (h : FMV w fb E n) (f : Fram F w w') (h1 : ¬ F fb) (hn : ∀ k, mset E k → ¬ F k) : FMV w' fb E n := ⟨h.blk.fram f h1, h.eng.fram f hn, h.ord, h.ef⟩

theorem New5 {w : World} : Ret Tryz.prog 5 [] w (fun v w' => ∃ (fb : Nat) (E : MB), v = ptr fb ∧ w.heap.size ≤ E.pb ∧ FMV w' fb E 0 ∧ Fram none' w w') := by
  have hF : Fram none' w w := Fram.refl _ _
  refine ret_of Tryz.func5 rfl Tryz.ntmps5 rfl ?_
  refine c_seq (fun K1 hK1 => ?_)
  refine c_reg ?_ -- region 0 findm.go:13
  refine wl (ro_assign rfl) ?_
  refine wl_nil (x_then (hK1 _ _ ?_))
  clear hK1 K1
  refine forget [] trivial (fun e => ?_)
  refine c_seq (fun K2 hK2 => ?_)
  refine c_reg ?_ -- region 1 findm.go:13
  refine wl_call rfl en_13 (New13) ?_
  rintro _ w1 ⟨E, rfl, hpb, D, V, F1⟩
  replace hF := hF.transG F1 (by intro k hk h; simp only [one, two, none'] at h ⊢ <;> omega)
  have hl := V.lt E.eb (.inl rfl)
  refine wl (ro_build rfl bld_41_0) ?_
  refine wl_box (cs := [ptr E.eb]) rfl rfl (fun fb w1 hbfb hB F1 => ?_)
  have hbsfb := Nat.le_trans hF.size hbfb
  replace hF := hF.thenDrew.thenN F1
  replace V := V.fram F1 (fun k _ h ↦ h)
  refine wl (ro_assign rfl) ?_
  refine wl_nil (x_then (hK2 _ _ ?_))
  clear hK2 K2
  refine c_ret ?_
  refine bp_ret Tryz.results5 rfl ?_
  exact ⟨fb, E, rfl, hpb, ⟨hB, V, D, by omega⟩, hF⟩

theorem Find21 {w : World} {fb n : Nat} {E : MB} {p s : List UInt8} (V : FMV w fb E n) (hn : n < 1000000000000000) (hpm : p.length ≤ 9223372036854775807) (hsm : s.length ≤ 9223372036854775807) :
    Ret Tryz.prog 21 [ptr fb, S p, S s] w (fun v w' => v = .agg (engc p s 0).toArray ∧ FMV w' fb E (n + 2) ∧ Fram (mset E) w w') := by
  have hF : Fram (mset E) w w := Fram.refl _ _
  obtain ⟨hB, hM, D, hef⟩ := V
  have hl := hM.lt
  have hl2 := hB.lt
  obtain ⟨e5, p5, ok5, c5, h5⟩ := engc_form p s 0
  have hme : ∀ k, mset E k → k < fb := by obtain ⟨d1, d2, d3⟩ := D; intro k hk; simp only [mset] at hk; omega
  refine ret_of Tryz.func21 rfl Tryz.ntmps21 rfl ?_
  refine c_seq (fun K1 hK1 => ?_)
  refine c_reg ?_ -- region 0 findm.go:15
  refine wl_new (ze_57) (fun rb w1 hbrb hR F1 => ?_)
  have hbsrb := Nat.le_trans hF.size hbrb
  have hnefbrb : fb < rb := Nat.lt_of_lt_of_le hB.lt hbrb
  replace hF := hF.thenDrew.thenN F1
  replace hB := F1.blkN hB
  replace hM := hM.fram F1 (fun k _ h ↦ h)
  refine wl_nil (x_then (hK1 _ _ ?_))
  clear hK1 K1
  refine c_seq (fun K2 hK2 => ?_)
  refine c_seq (fun K3 hK3 => ?_)
  have hql : 128 < p.length ∨ (p.length ≤ 128 ∧ 256 < s.length) ∨ (p.length ≤ 128 ∧ s.length ≤ 256) := by omega
  rcases hql with q | q | q
  · skip
    have hE : engT p s = .error (12, 0) := by unfold engT; rw [if_pos (by omega)]
    refine c_reg ?_ -- region 1 findm.go:16
    refine wl (ro_move rfl) ?_
    refine wl (ro_lenS rfl st_9) ?_
    refine wl (ro_cmp (r := true) rfl rfl (congrArg some (decide_eq_true (by omega)))) ?_
    refine wl (ro_move rfl) ?_
    refine wlg_no rfl ?_
    refine wlg_no rfl ?_
    refine wlg_no rfl ?_
    refine wl (ro_pick rfl rfl rfl) ?_
    refine wl_nil (x_then (hK3 _ _ ?_))
    clear hK3 K3
    refine wc_condT rfl ?_
    refine c_seq (fun K4 hK4 => ?_)
    refine c_reg ?_ -- region 2 findm.go:17
    refine wl_call rfl en_35 (Refused35 (er := 12) (p := 0)) ?_
    rintro _ w3 ⟨rfl, F3⟩
    replace hF := hF.transG F3 (by intro k hk h; simp only [one, two, none', mset] at h ⊢ <;> omega)
    replace hB := F3.blkF hB (by intro h; simp only [one, two, none', mset] at h <;> omega)
    replace hR := F3.blkF hR (by intro h; simp only [one, two, none', mset] at h <;> omega)
    replace hM := hM.fram F3 (fun k _ h ↦ h)
    refine wl_puta rfl rfl ((fdc_cells 12 0 false nocaps)) sz_57 (rfl) hR ((by simp)) (rfl) (fun w2 hR F2 => ?_)
    replace hF := hF.thenDrew.thenO F2 (by first | exact .inr (by omega) | exact .inl rfl | exact .inl (by assumption))
    replace hB := F2.blkO hB (by omega)
    replace hM := hM.fram F2 (fun k hk h ↦ by simp only [one] at h; have := hl k hk; omega)
    refine wl_nil (x_then (hK4 _ _ ?_))
    clear hK4 K4
    refine c_ret (x_thenR ?_)
    refine bq_ret (res1 Tryz.results21 (rv_c rfl ag_57 (hR) rfl)) ?_
    unfold engc; rw [hE]; exact ⟨rfl, ⟨hB, hM.up (by omega), D, hef⟩, hF⟩
  · skip
    have hE : engT p s = .error (12, 0) := by unfold engT; rw [if_pos (by omega)]
    refine c_reg ?_ -- region 1 findm.go:16
    refine wl (ro_move rfl) ?_
    refine wl (ro_lenS rfl st_9) ?_
    refine wl (ro_cmp (r := false) rfl rfl (congrArg some (decide_eq_false (by omega)))) ?_
    refine wl (ro_move rfl) ?_
    refine wlg_yes rfl (ro_move rfl) ?_
    refine wlg_yes rfl (ro_lenS rfl st_9) ?_
    refine wlg_yes rfl (ro_cmp (r := true) rfl rfl (congrArg some (decide_eq_true (by omega)))) ?_
    refine wl (ro_pick rfl rfl rfl) ?_
    refine wl_nil (x_then (hK3 _ _ ?_))
    clear hK3 K3
    refine wc_condT rfl ?_
    refine c_seq (fun K5 hK5 => ?_)
    refine c_reg ?_ -- region 2 findm.go:17
    refine wl_call rfl en_35 (Refused35 (er := 12) (p := 0)) ?_
    rintro _ w3 ⟨rfl, F3⟩
    replace hF := hF.transG F3 (by intro k hk h; simp only [one, two, none', mset] at h ⊢ <;> omega)
    replace hB := F3.blkF hB (by intro h; simp only [one, two, none', mset] at h <;> omega)
    replace hR := F3.blkF hR (by intro h; simp only [one, two, none', mset] at h <;> omega)
    replace hM := hM.fram F3 (fun k _ h ↦ h)
    refine wl_puta rfl rfl ((fdc_cells 12 0 false nocaps)) sz_57 (rfl) hR ((by simp)) (rfl) (fun w3 hR F3 => ?_)
    replace hF := hF.thenDrew.thenO F3 (by first | exact .inr (by omega) | exact .inl rfl | exact .inl (by assumption))
    replace hB := F3.blkO hB (by omega)
    replace hM := hM.fram F3 (fun k hk h ↦ by simp only [one] at h; have := hl k hk; omega)
    refine wl_nil (x_then (hK5 _ _ ?_))
    clear hK5 K5
    refine c_ret (x_thenR ?_)
    refine bq_ret (res1 Tryz.results21 (rv_c rfl ag_57 (hR) rfl)) ?_
    unfold engc; rw [hE]; exact ⟨rfl, ⟨hB, hM.up (by omega), D, hef⟩, hF⟩
  · skip
    refine c_reg ?_ -- region 1 findm.go:16
    refine wl (ro_move rfl) ?_
    refine wl (ro_lenS rfl st_9) ?_
    refine wl (ro_cmp (r := false) rfl rfl (congrArg some (decide_eq_false (by omega)))) ?_
    refine wl (ro_move rfl) ?_
    refine wlg_yes rfl (ro_move rfl) ?_
    refine wlg_yes rfl (ro_lenS rfl st_9) ?_
    refine wlg_yes rfl (ro_cmp (r := false) rfl rfl (congrArg some (decide_eq_false (by omega)))) ?_
    refine wl (ro_pick rfl rfl rfl) ?_
    refine wl_nil (x_then (hK3 _ _ ?_))
    clear hK3 K3
    refine wc_condF rfl ?_
    refine c_skip (x_then (hK2 _ _ ?_))
    clear hK2 K2
    refine forget [(0, _), (1, _), (2, _), (6, _)] ⟨rfl, rfl, rfl, rfl, trivial⟩ (fun e => ?_)
    refine c_seq (fun K6 hK6 => ?_)
    have hcall := Match38 (p := p) (s := s) (i := 0) D hM hn hpm hsm (by omega)
    rw [h5] at hcall
    refine c_reg ?_ -- region 3 findm.go:19
    refine wl (ro_move rfl) ?_
    refine wl (ro_nilCheck rfl) ?_
    refine wl (ro_fieldAddr (k := 0) rfl fo_41_0) ?_
    refine wl (ro_loadB rfl sc_38 (hB) (rfl)) ?_
    refine wl (ro_move rfl) ?_
    refine wl (ro_move rfl) ?_
    refine wl_call rfl en_38 (hcall) ?_
    rintro _ w3 ⟨rfl, hM, F3⟩
    replace hR := F3.blkF hR (fun h => by have := hme _ h; omega)
    replace hB := F3.blkF hB (fun h => by have := hme _ h; omega)
    replace hF := hF.transG F3 (fun k _ h => h)
    refine wl_puta rfl rfl ((fdc_cells e5 p5 ok5 c5)) sz_57 (rfl) hR ((by simp)) (rfl) (fun w4 hR F4 => ?_)
    replace hF := hF.thenDrew.thenO F4 (by first | exact .inr (by omega) | exact .inl rfl | exact .inl (by assumption))
    replace hB := F4.blkO hB (by omega)
    replace hM := hM.fram F4 (fun k hk h ↦ by simp only [one] at h; have := hl k hk; omega)
    refine wl_nil (x_then (hK6 _ _ ?_))
    clear hK6 K6
    refine c_ret ?_
    refine bq_ret (res1 Tryz.results21 (rv_c rfl ag_57 (hR) rfl)) ?_
    rw [h5]; exact ⟨rfl, ⟨hB, hM, D, hef⟩, hF⟩

/-- What FindAll answers. -/
def FaP (w w' : World) (p s : List UInt8) (v : Value) : Prop := ∃ (V : Value) (e q : Nat), v = .tuple #[V, i64c e, i64c q] ∧ match engT p s with
  | .error er => V = .slice none 0 0 ∧ e = er.1 ∧ q = er.2
  | .ok r => e = 0 ∧ q = 0 ∧ CL w' V (scanAll s r 0) w.heap.size w'.heap.size

set_option maxHeartbeats 4000000 in
theorem FindAll24 {w : World} {fb n : Nat} {E : MB} {p s : List UInt8} (V : FMV w fb E n) (hn : n < 100000000000000) (hpm : p.length ≤ 9223372036854775807) (hsm : s.length ≤ 9223372036854775807) :
    Ret Tryz.prog 24 [ptr fb, S p, S s] w (fun v w' => FaP w w' p s v ∧ FMV w' fb E (n + 600) ∧ Fram (mset E) w w') := by
  have hF : Fram (mset E) w w := Fram.refl _ _
  obtain ⟨hB, hM, D, hef⟩ := V
  have hl := hM.lt
  have hl2 := hB.lt
  have hme : ∀ k, mset E k → k < fb := by obtain ⟨d1, d2, d3⟩ := D; intro k hk; simp only [mset] at hk; omega
  refine ret_of Tryz.func24 rfl Tryz.ntmps24 rfl ?_
  refine c_seq (fun K1 hK1 => ?_)
  refine c_reg ?_ -- region 0 findm.go:23
  refine wl (ro_assign rfl) ?_
  refine wl (ro_assign rfl) ?_
  refine wl (ro_assign rfl) ?_
  refine wl_nil (x_then (hK1 _ _ ?_))
  clear hK1 K1
  refine c_seq (fun K2 hK2 => ?_)
  refine c_seq (fun K3 hK3 => ?_)
  have hql : 128 < p.length ∨ (p.length ≤ 128 ∧ 256 < s.length) ∨ (p.length ≤ 128 ∧ s.length ≤ 256) := by omega
  rcases hql with q | q | q
  · skip
    have hE : engT p s = .error (12, 0) := by unfold engT; rw [if_pos (by omega)]
    refine c_reg ?_ -- region 1 findm.go:24
    refine wl (ro_move rfl) ?_
    refine wl (ro_lenS rfl st_9) ?_
    refine wl (ro_cmp (r := true) rfl rfl (congrArg some (decide_eq_true (by omega)))) ?_
    refine wl (ro_move rfl) ?_
    refine wlg_no rfl ?_
    refine wlg_no rfl ?_
    refine wlg_no rfl ?_
    refine wl (ro_pick rfl rfl rfl) ?_
    refine wl_nil (x_then (hK3 _ _ ?_))
    clear hK3 K3
    refine wc_condT rfl ?_
    refine c_seq (fun K4 hK4 => ?_)
    refine c_reg ?_ -- region 2 findm.go:25
    refine wl (ro_assign rfl) ?_
    refine wl (ro_assign rfl) ?_
    refine wl (ro_assign rfl) ?_
    refine wl_nil (x_then (hK4 _ _ ?_))
    clear hK4 K4
    refine c_ret (x_thenR ?_)
    refine bp_ret Tryz.results24 rfl ?_
    exact ⟨⟨_, 12, 0, rfl, by rw [hE]; exact ⟨rfl, rfl, rfl⟩⟩, ⟨hB, hM.up (by omega), D, hef⟩, hF⟩
  · skip
    have hE : engT p s = .error (12, 0) := by unfold engT; rw [if_pos (by omega)]
    refine c_reg ?_ -- region 1 findm.go:24
    refine wl (ro_move rfl) ?_
    refine wl (ro_lenS rfl st_9) ?_
    refine wl (ro_cmp (r := false) rfl rfl (congrArg some (decide_eq_false (by omega)))) ?_
    refine wl (ro_move rfl) ?_
    refine wlg_yes rfl (ro_move rfl) ?_
    refine wlg_yes rfl (ro_lenS rfl st_9) ?_
    refine wlg_yes rfl (ro_cmp (r := true) rfl rfl (congrArg some (decide_eq_true (by omega)))) ?_
    refine wl (ro_pick rfl rfl rfl) ?_
    refine wl_nil (x_then (hK3 _ _ ?_))
    clear hK3 K3
    refine wc_condT rfl ?_
    refine c_seq (fun K5 hK5 => ?_)
    refine c_reg ?_ -- region 2 findm.go:25
    refine wl (ro_assign rfl) ?_
    refine wl (ro_assign rfl) ?_
    refine wl (ro_assign rfl) ?_
    refine wl_nil (x_then (hK5 _ _ ?_))
    clear hK5 K5
    refine c_ret (x_thenR ?_)
    refine bp_ret Tryz.results24 rfl ?_
    exact ⟨⟨_, 12, 0, rfl, by rw [hE]; exact ⟨rfl, rfl, rfl⟩⟩, ⟨hB, hM.up (by omega), D, hef⟩, hF⟩
  · skip
    refine c_reg ?_ -- region 1 findm.go:24
    refine wl (ro_move rfl) ?_
    refine wl (ro_lenS rfl st_9) ?_
    refine wl (ro_cmp (r := false) rfl rfl (congrArg some (decide_eq_false (by omega)))) ?_
    refine wl (ro_move rfl) ?_
    refine wlg_yes rfl (ro_move rfl) ?_
    refine wlg_yes rfl (ro_lenS rfl st_9) ?_
    refine wlg_yes rfl (ro_cmp (r := false) rfl rfl (congrArg some (decide_eq_false (by omega)))) ?_
    refine wl (ro_pick rfl rfl rfl) ?_
    refine wl_nil (x_then (hK3 _ _ ?_))
    clear hK3 K3
    refine wc_condF rfl ?_
    refine c_skip (x_then (hK2 _ _ ?_))
    clear hK2 K2
    refine forget [(0, _), (1, _), (2, _)] ⟨rfl, rfl, rfl, trivial⟩ (fun e => ?_)
    refine c_seq (fun K6 hK6 => ?_)
    rcases hE : engT p s with er | r
    · skip
      have hen := engT_er hE
      have hec : engc p s 0 = fdc er.1 er.2 false nocaps := by unfold engc; rw [hE]
      refine c_reg ?_ -- region 3 findm.go:27
      refine wl (ro_assign rfl) ?_
      refine wl_nil (x_then (hK6 _ _ ?_))
      clear hK6 K6
      refine forget [(0, _), (1, _), (2, _), (9, _)] ⟨rfl, rfl, rfl, rfl, trivial⟩ (fun e => ?_)
      refine c_seq (fun K7 hK7 => ?_)
      refine c_reg ?_ -- region 4 findm.go:28
      refine wl (ro_assign rfl) ?_
      refine wl_nil (x_then (hK7 _ _ ?_))
      clear hK7 K7
      refine forget [(0, _), (1, _), (2, _), (9, _), (10, _)] ⟨rfl, rfl, rfl, rfl, rfl, trivial⟩ (fun e => ?_)
      refine c_seq (fun K8 hK8 => ?_)
      refine c_block ?_
      -- loop@r5: live slots [0, 1, 2, 9, 10]
      refine c_loopG (fun m a' w' => MEV w'.heap E n ∧ Blk w'.heap fb [ptr E.eb] 41 ∧ Fram (mset E) w w' ∧ ∃ e, a' = Fr 60 (upds e [(0, ptr fb), (1, S p), (2, S s), (9, .slice none 0 0), (10, i64c 0)]) []) 0 ⟨hM, hB, hF, kp _ ⟨rfl, rfl, rfl, rfl, rfl, trivial⟩⟩ ?_
      clear hM hB hF
      rintro m a' w1 ⟨hM, hB, hF, e, rfl⟩
      have hcall := Match38 (p := p) (s := s) (i := 0) D hM (by omega) hpm hsm (by omega)
      rw [hec] at hcall
      refine c_seq (fun K9 hK9 => ?_)
      refine c_seq (fun K10 hK10 => ?_)
      refine c_reg ?_ -- region 5 findm.go:29
      refine wl (ro_move rfl) ?_
      refine wl (ro_move rfl) ?_
      refine wl (ro_lenS rfl st_9) ?_
      refine wl (ro_cmp (r := true) rfl rfl (congrArg some (decide_eq_true (by omega)))) ?_
      refine wl_nil (x_then (hK10 _ _ ?_))
      clear hK10 K10
      refine wc_condT rfl ?_
      refine c_skip (x_then (hK9 _ _ ?_))
      clear hK9 K9
      refine c_block ?_
      refine forget [(0, _), (1, _), (2, _), (9, _), (10, _)] ⟨rfl, rfl, rfl, rfl, rfl, trivial⟩ (fun e => ?_)
      refine c_seq (fun K11 hK11 => ?_)
      refine c_reg ?_ -- region 6 findm.go:30
      refine wl (ro_move rfl) ?_
      refine wl (ro_nilCheck rfl) ?_
      refine wl (ro_fieldAddr (k := 0) rfl fo_41_0) ?_
      refine wl (ro_loadB rfl sc_38 (hB) (rfl)) ?_
      refine wl (ro_move rfl) ?_
      refine wl (ro_move rfl) ?_
      refine wl (ro_move rfl) ?_
      refine wl_call rfl en_38 (hcall) ?_
      rintro _ w3 ⟨rfl, hM, F3⟩
      replace hB := F3.blkF hB (fun h => by have := hme _ h; omega)
      replace hF := hF.transG F3 (fun k _ h => h)
      refine wl_new (ze_57) (fun xb w1 hbxb hX F1 => ?_)
      have hbsxb := Nat.le_trans hF.size hbxb
      have hnefbxb : fb < xb := Nat.lt_of_lt_of_le hB.lt hbxb
      replace hF := hF.thenDrew.thenN F1
      replace hB := F1.blkN hB
      replace hM := hM.fram F1 (fun k _ h ↦ h)
      refine wl_puta rfl rfl ((fdc_cells _ _ _ _)) sz_57 (rfl) hX ((by simp)) (rfl) (fun w2 hX F2 => ?_)
      replace hF := hF.thenDrew.thenO F2 (by first | exact .inr (by omega) | exact .inl rfl | exact .inl (by assumption))
      replace hB := F2.blkO hB (by omega)
      replace hM := hM.fram F2 (fun k hk h ↦ by simp only [one] at h; have := hl k hk; omega)
      refine wl_nil (x_then (hK11 _ _ ?_))
      clear hK11 K11
      refine c_seq (fun K12 hK12 => ?_)
      refine c_seq (fun K13 hK13 => ?_)
      refine c_reg ?_ -- region 7 findm.go:31
      refine wl (ro_fieldAddr (k := 0) rfl fo_57_0) ?_
      refine wl (ro_loadB rfl sc_53 (hX) (rfl)) ?_
      refine wl (ro_cmp (r := true) rfl rfl (congrArg some ((bnec er.1 0).trans (decide_eq_true hen)))) ?_
      refine wl_nil (x_then (hK13 _ _ ?_))
      clear hK13 K13
      refine wc_condT rfl ?_
      refine c_seq (fun K14 hK14 => ?_)
      refine c_pi [(0, false), (1, false), (2, false), (3, false), (4, false), (5, false), (6, false)] (SameH _) mixed (by kernel_rfl) rfl (by kernel_rfl) (po_then (po_then (po_blk (po_then (po_blk (po_then (po_bp))))))) (sameH_now _ _) ?_ -- region 8 findm.go:32
      refine pi_ro rfl (fun w hS => ro_fieldAddr (k := 0) rfl fo_57_0) ?_
      refine pi_ro rfl (fun w hS => ro_loadB rfl sc_53 (Blk.of_heap hX hS) (rfl)) ?_
      refine pi_ro rfl (fun w hS => ro_fieldAddr (k := 1) rfl fo_57_1) ?_
      refine pi_ro rfl (fun w hS => ro_loadB rfl sc_3 (Blk.of_heap hX hS) (rfl)) ?_
      refine pi_ro rfl (fun w hS => ro_assign rfl) ?_
      refine pi_ro rfl (fun w hS => ro_assign rfl) ?_
      refine pi_ro rfl (fun w hS => ro_assign rfl) ?_
      refine pi_nil (x_then (hK14 _ _ ?_))
      clear hK14 K14
      refine c_ret (x_thenR (x_blkR (x_thenR (x_blkR (x_thenR ?_)))))
      refine bp_ret Tryz.results24 rfl ?_
      exact ⟨⟨_, er.1, er.2, rfl, by rw [hE]; exact ⟨rfl, rfl, rfl⟩⟩, ⟨hB, hM.up (by omega), D, hef⟩, hF.thenDrew⟩
    · skip
      obtain ⟨hw, -, -, -, -⟩ := engT_ok hE
      have hec : ∀ i, engc p s i = fdc 0 0 (lft s r i).isSome (capO (lft s r i)) := fun i => by unfold engc; rw [hE]
      refine c_reg ?_ -- region 3 findm.go:27
      refine wl (ro_assign rfl) ?_
      refine wl_nil (x_then (hK6 _ _ ?_))
      clear hK6 K6
      refine forget [(0, _), (1, _), (2, _), (9, _)] ⟨rfl, rfl, rfl, rfl, trivial⟩ (fun e => ?_)
      refine c_seq (fun K15 hK15 => ?_)
      refine c_reg ?_ -- region 4 findm.go:28
      refine wl (ro_assign rfl) ?_
      refine wl_nil (x_then (hK15 _ _ ?_))
      clear hK15 K15
      refine forget [(0, _), (1, _), (2, _), (9, _), (10, _)] ⟨rfl, rfl, rfl, rfl, rfl, trivial⟩ (fun e => ?_)
      refine c_seq (fun K16 hK16 => ?_)
      refine c_block ?_
      -- loop@r5: live slots [0, 1, 2, 9, 10]
      refine c_loopG (fun m a' w' => ∃ (i n' : Nat) (V : Value) (L : List (List Int)), m = s.length + 1 - i ∧ i ≤ s.length + 1 ∧ n' ≤ n + 2 * i ∧ L.length ≤ i ∧ scanAll s r 0 = L ++ scanAll s r i ∧ MEV w'.heap E n' ∧ Blk w'.heap fb [ptr E.eb] 41 ∧ CL w' V L w.heap.size w'.heap.size ∧ Fram (mset E) w w' ∧ ∃ e, a' = Fr 60 (upds e [(0, ptr fb), (1, S p), (2, S s), (9, V), (10, i64c i)]) []) (s.length + 1) ⟨0, n, _, [], rfl, by omega, by omega, by simp, by simp, hM, hB, RWV.nil _ _ _ _ _ _, hF, kp _ ⟨rfl, rfl, rfl, rfl, rfl, trivial⟩⟩ ?_
      clear hM hB hF
      rintro m a' w1 ⟨i, n', V, L, rfl, hi, hn', hLi, hsc, hM, hB, hV, hF, e, rfl⟩
      have hsz1 := hF.size
      refine c_seq (fun K17 hK17 => ?_)
      refine c_seq (fun K18 hK18 => ?_)
      refine c_reg ?_ -- region 5 findm.go:29
      refine wl (ro_move rfl) ?_
      refine wl (ro_move rfl) ?_
      refine wl (ro_lenS rfl st_9) ?_
      refine wl (ro_cmp (r := decide (i ≤ s.length)) rfl rfl (congrArg some (decide_eq_decide.2 (by omega)))) ?_
      refine wl_nil (x_then (hK18 _ _ ?_))
      clear hK18 K18
      refine wc_cond rfl (fun hc23 => ?_) (fun hc23 => ?_)
      · try simp only [decide_eq_true_eq, decide_eq_false_iff_not, Bool.not_eq_true', Bool.not_eq_false', Bool.not_eq_eq_eq_not, Bool.not_true, Bool.not_false, beq_iff_eq, bne_iff_ne, ne_eq, beq_eq_false_iff_ne, bne_eq_false_iff_eq, gt_iff_lt, ge_iff_le, Int.not_lt, Int.not_le] at hc23
        refine c_skip (x_then (hK17 _ _ ?_))
        clear hK17 K17
        refine c_block ?_
        refine forget [(0, _), (1, _), (2, _), (9, _), (10, _)] ⟨rfl, rfl, rfl, rfl, rfl, trivial⟩ (fun e => ?_)
        refine c_seq (fun K19 hK19 => ?_)
        have hcall := Match38 (p := p) (s := s) (i := i) D hM (by omega) hpm hsm hc23
        rw [hec i] at hcall
        rcases hL : lft s r i with _ | cc
        · skip
          rw [hL] at hcall
          simp only [capO, Option.isSome_none] at hcall
          refine c_reg ?_ -- region 6 findm.go:30
          refine wl (ro_move rfl) ?_
          refine wl (ro_nilCheck rfl) ?_
          refine wl (ro_fieldAddr (k := 0) rfl fo_41_0) ?_
          refine wl (ro_loadB rfl sc_38 (hB) (rfl)) ?_
          refine wl (ro_move rfl) ?_
          refine wl (ro_move rfl) ?_
          refine wl (ro_move rfl) ?_
          refine wl_call rfl en_38 (hcall) ?_
          rintro _ w3 ⟨rfl, hM, F3⟩
          have hs13 := F3.size
          replace hV := hV.framS F3 (fun b h1 h2 h => by have := hl b h; omega)
          replace hB := F3.blkF hB (fun h => by have := hme _ h; omega)
          replace hF := hF.transG F3 (fun k _ h => h)
          refine wl_new (ze_57) (fun xb w3 hbxb hX F3 => ?_)
          have hbsxb := Nat.le_trans hF.size hbxb
          have hnefbxb : fb < xb := Nat.lt_of_lt_of_le hB.lt hbxb
          replace hF := hF.thenDrew.thenN F3
          replace hB := F3.blkN hB
          replace hV := hV.framN F3
          replace hM := hM.fram F3 (fun k _ h ↦ h)
          refine wl_puta rfl rfl ((fdc_cells _ _ _ _)) sz_57 (rfl) hX ((by simp)) (rfl) (fun w4 hX F4 => ?_)
          replace hF := hF.thenDrew.thenO F4 (by first | exact .inr (by omega) | exact .inl rfl | exact .inl (by assumption))
          replace hB := F4.blkO hB (by omega)
          replace hV := hV.framO F4 (by omega)
          replace hM := hM.fram F4 (fun k hk h ↦ by simp only [one] at h; have := hl k hk; omega)
          refine wl_nil (x_then (hK19 _ _ ?_))
          clear hK19 K19
          refine c_seq (fun K20 hK20 => ?_)
          refine c_seq (fun K21 hK21 => ?_)
          refine c_reg ?_ -- region 7 findm.go:31
          refine wl (ro_fieldAddr (k := 0) rfl fo_57_0) ?_
          refine wl (ro_loadB rfl sc_53 (hX) (rfl)) ?_
          refine wl (ro_cmp rfl rfl rfl) ?_
          refine wl_nil (x_then (hK21 _ _ ?_))
          clear hK21 K21
          refine wc_condF rfl ?_
          refine c_skip (x_then (hK20 _ _ ?_))
          clear hK20 K20
          refine c_seq (fun K22 hK22 => ?_)
          refine c_seq (fun K23 hK23 => ?_)
          refine c_reg ?_ -- region 9 findm.go:34
          refine wl (ro_fieldAddr (k := 2) rfl fo_57_2) ?_
          refine wl (ro_loadB rfl sc_4 (hX) (rfl)) ?_
          refine wl (ro_not rfl) ?_
          refine wl_nil (x_then (hK23 _ _ ?_))
          clear hK23 K23
          refine wc_condT rfl ?_
          refine c_exit (x_thenX (x_blkY rfl (x_thenX (x_blkX (x_then (hK16 _ _ ?_))))))
          clear hK22 K22 hK16 K16
          refine forget [(9, _)] ⟨rfl, trivial⟩ (fun e => ?_)
          refine c_seq (fun K24 hK24 => ?_)
          refine c_reg ?_ -- region 14 findm.go:43
          refine wl (ro_move rfl) ?_
          refine wl (ro_assign rfl) ?_
          refine wl (ro_assign rfl) ?_
          refine wl (ro_assign rfl) ?_
          refine wl_nil (x_then (hK24 _ _ ?_))
          clear hK24 K24
          refine c_ret ?_
          refine bp_ret Tryz.results24 rfl ?_
          rw [scanAll_none hL, List.append_nil] at hsc
          exact ⟨⟨_, 0, 0, rfl, by rw [hE]; exact ⟨rfl, rfl, by rw [hsc]; exact hV.wide (Nat.le_refl _) (Nat.le_of_lt (Nat.lt_of_le_of_lt (Nat.le_trans hs13 hbxb) hX.lt))⟩⟩, ⟨hB, hM.up (by omega), D, hef⟩, hF⟩
        · skip
          rw [hL] at hcall
          simp only [capO, Option.isSome_some] at hcall
          have hmo := lft_ok hw hL
          obtain ⟨hk0, hk1, hk2, hk3, hk4, hk5, hk6⟩ := hmo.cap
          have hc0 : cc.getD 0 0 = (capB cc : Int) := by rw [List.getD, hk0]; rfl
          have hc1 : cc.getD 1 0 = (capE cc : Int) := by rw [List.getD, hk1]; rfl
          have hsce := scanAll_some hw hc23 hL
          refine c_reg ?_ -- region 6 findm.go:30
          refine wl (ro_move rfl) ?_
          refine wl (ro_nilCheck rfl) ?_
          refine wl (ro_fieldAddr (k := 0) rfl fo_41_0) ?_
          refine wl (ro_loadB rfl sc_38 (hB) (rfl)) ?_
          refine wl (ro_move rfl) ?_
          refine wl (ro_move rfl) ?_
          refine wl (ro_move rfl) ?_
          refine wl_call rfl en_38 (hcall) ?_
          rintro _ w3 ⟨rfl, hM, F3⟩
          have hs13 := F3.size
          replace hV := hV.framS F3 (fun b h1 h2 h => by have := hl b h; omega)
          replace hB := F3.blkF hB (fun h => by have := hme _ h; omega)
          replace hF := hF.transG F3 (fun k _ h => h)
          refine wl_new (ze_57) (fun xb w5 hbxb hX F5 => ?_)
          have hbsxb := Nat.le_trans hF.size hbxb
          have hnefbxb : fb < xb := Nat.lt_of_lt_of_le hB.lt hbxb
          replace hF := hF.thenDrew.thenN F5
          replace hB := F5.blkN hB
          replace hV := hV.framN F5
          replace hM := hM.fram F5 (fun k _ h ↦ h)
          refine wl_puta rfl rfl ((fdc_cells _ _ _ _)) sz_57 (rfl) hX ((by simp)) (rfl) (fun w6 hX F6 => ?_)
          replace hF := hF.thenDrew.thenO F6 (by first | exact .inr (by omega) | exact .inl rfl | exact .inl (by assumption))
          replace hB := F6.blkO hB (by omega)
          replace hV := hV.framO F6 (by omega)
          replace hM := hM.fram F6 (fun k hk h ↦ by simp only [one] at h; have := hl k hk; omega)
          refine wl_nil (x_then (hK19 _ _ ?_))
          clear hK19 K19
          refine c_seq (fun K25 hK25 => ?_)
          refine c_seq (fun K26 hK26 => ?_)
          refine c_reg ?_ -- region 7 findm.go:31
          refine wl (ro_fieldAddr (k := 0) rfl fo_57_0) ?_
          refine wl (ro_loadB rfl sc_53 (hX) (rfl)) ?_
          refine wl (ro_cmp rfl rfl rfl) ?_
          refine wl_nil (x_then (hK26 _ _ ?_))
          clear hK26 K26
          refine wc_condF rfl ?_
          refine c_skip (x_then (hK25 _ _ ?_))
          clear hK25 K25
          refine c_seq (fun K27 hK27 => ?_)
          refine c_seq (fun K28 hK28 => ?_)
          refine c_reg ?_ -- region 9 findm.go:34
          refine wl (ro_fieldAddr (k := 2) rfl fo_57_2) ?_
          refine wl (ro_loadB rfl sc_4 (hX) (rfl)) ?_
          refine wl (ro_not rfl) ?_
          refine wl_nil (x_then (hK28 _ _ ?_))
          clear hK28 K28
          refine wc_condF rfl ?_
          refine c_skip (x_then (hK27 _ _ ?_))
          clear hK27 K27
          refine forget [(0, _), (1, _), (2, _), (9, _), (11, _)] ⟨rfl, rfl, rfl, rfl, rfl, trivial⟩ (fun e => ?_)
          refine c_seq (fun K29 hK29 => ?_)
          refine c_reg ?_ -- region 10 findm.go:37
          refine wl (ro_move rfl) ?_
          refine wl (ro_fieldAddr (k := 3) rfl fo_57_3) ?_
          refine wl (ro_loadAggB rfl ag_55 (hX) (rfl) (rfl)) ?_
          skip
          have hsz7 := hF.size
          have hxl := hX.lt
          have hvh : ∀ b, V.ownBlock = some b → b < fb ∨ (w.heap.size ≤ b ∧ b < xb) := fun b hb => .inr ⟨hV.lo' b hb, by have := hV.hi' b hb; omega⟩
          refine wl_bsapp rfl rfl rfl rfl se_27 zx_55 by_55 rfl rfl (capc_len cc) (capc_cells cc) hV.own (by omega) (by omega) (fun VX w9 hon9 F9 hnb9 ↦ ?_)
          have hV9 : CL w9 VX (L ++ [cc]) w.heap.size w9.heap.size := hV.app hon9 hnb9 (by omega) (by omega)
          have hnw : ∀ b, own1 V b → w.heap.size ≤ b ∧ b < xb := fun b hb => ⟨hV.lo' b hb, by have := hV.hi' b hb; omega⟩
          replace hM := hM.fram F9 (fun k hk h ↦ by have := hnw k h; have := hl k hk; omega)
          replace hB := F9.blkF hB (fun h ↦ by have := hnw _ h; omega)
          replace hX := F9.blkF hX (fun h ↦ by have := hnw _ h; omega)
          replace hF := hF.transG F9 (fun k hk h ↦ by have := hnw k h; omega)
          clear hV
          refine wl (ro_assign rfl) ?_
          refine wl_nil (x_then (hK29 _ _ ?_))
          clear hK29 K29
          refine forget [(0, _), (1, _), (2, _), (9, _), (11, _)] ⟨rfl, rfl, rfl, rfl, rfl, trivial⟩ (fun e => ?_)
          refine c_seq (fun K30 hK30 => ?_)
          refine c_reg ?_ -- region 11 findm.go:38
          refine wl (ro_fieldAddr (k := 3) rfl fo_57_3) ?_
          refine wl (ro_indexAddrA (et := 3) (k := 1) rfl rfl ar_55 (rfl) ((by omega : 1 < 8))) ?_
          refine wl (ro_loadB rfl sc_3 (hX) ((show _ = some (i64c (capE cc)) from congrArg (fun z => some (icv z)) hc1))) ?_
          refine wl (ro_assign rfl) ?_
          refine wl_nil (x_then (hK30 _ _ ?_))
          clear hK30 K30
          refine forget [(0, _), (1, _), (2, _), (9, _), (10, _), (11, _)] ⟨rfl, rfl, rfl, rfl, rfl, rfl, trivial⟩ (fun e => ?_)
          refine c_seq (fun K31 hK31 => ?_)
          refine c_reg ?_ -- region 12 findm.go:39
          refine wl (ro_fieldAddr (k := 3) rfl fo_57_3) ?_
          refine wl (ro_indexAddrA (et := 3) (k := 1) rfl rfl ar_55 (rfl) ((by omega : 1 < 8))) ?_
          refine wl (ro_loadB rfl sc_3 (hX) ((show _ = some (i64c (capE cc)) from congrArg (fun z => some (icv z)) hc1))) ?_
          refine wl (ro_fieldAddr (k := 3) rfl fo_57_3) ?_
          refine wl (ro_indexAddrA (et := 3) (k := 1) rfl rfl ar_55 (rfl) ((by omega : 0 < 8))) ?_
          refine wl (ro_loadB rfl sc_3 (hX) ((show _ = some (i64c (capB cc)) from congrArg (fun z => some (icv z)) hc0))) ?_
          refine wl (ro_cmp (r := decide (capE cc = capB cc)) rfl rfl (congrArg some (beqc _ _))) ?_
          refine wl_nil (x_then (hK31 _ _ ?_))
          clear hK31 K31
          refine wc_cond rfl (fun hc56 => ?_) (fun hc56 => ?_)
          · try simp only [decide_eq_true_eq, decide_eq_false_iff_not, Bool.not_eq_true', Bool.not_eq_false', Bool.not_eq_eq_eq_not, Bool.not_true, Bool.not_false, beq_iff_eq, bne_iff_ne, ne_eq, beq_eq_false_iff_ne, bne_eq_false_iff_eq, gt_iff_lt, ge_iff_le, Int.not_lt, Int.not_le] at hc56
            have hnf : nextF cc = capE cc + 1 := by unfold nextF; rw [if_pos hc56]
            refine c_reg ?_ -- region 13 findm.go:40
            refine wl (ro_move rfl) ?_
            refine wl (ro_arith rfl rfl rfl (Go.IntWalk.i64_in _ (by omega))) ?_
            refine wl (ro_assign rfl) ?_
            refine wl_nil (x_blk (x_then ?_))
            exact ⟨s.length + 1 - nextF cc, by omega, nextF cc, n' + 2, VX, L ++ [cc], rfl, by omega, by omega, by rw [List.length_append]; simp; omega, by rw [hsc, hsce]; simp, hM, hB, hV9, hF, kp _ ⟨rfl, rfl, rfl, rfl, by rw [hnf]; rfl, trivial⟩⟩
          · try simp only [decide_eq_true_eq, decide_eq_false_iff_not, Bool.not_eq_true', Bool.not_eq_false', Bool.not_eq_eq_eq_not, Bool.not_true, Bool.not_false, beq_iff_eq, bne_iff_ne, ne_eq, beq_eq_false_iff_ne, bne_eq_false_iff_eq, gt_iff_lt, ge_iff_le, Int.not_lt, Int.not_le] at hc56
            have hnf : nextF cc = capE cc := by unfold nextF; rw [if_neg hc56]
            refine c_skip (x_blk (x_then ?_))
            exact ⟨s.length + 1 - nextF cc, by omega, nextF cc, n' + 2, VX, L ++ [cc], rfl, by omega, by omega, by rw [List.length_append]; simp; omega, by rw [hsc, hsce]; simp, hM, hB, hV9, hF, kp _ ⟨rfl, rfl, rfl, rfl, by rw [hnf]; rfl, trivial⟩⟩
      · try simp only [decide_eq_true_eq, decide_eq_false_iff_not, Bool.not_eq_true', Bool.not_eq_false', Bool.not_eq_eq_eq_not, Bool.not_true, Bool.not_false, beq_iff_eq, bne_iff_ne, ne_eq, beq_eq_false_iff_ne, bne_eq_false_iff_eq, gt_iff_lt, ge_iff_le, Int.not_lt, Int.not_le] at hc23
        refine c_exit (x_thenX (x_thenX (x_blkX (x_then (hK16 _ _ ?_)))))
        clear hK17 K17 hK16 K16
        refine forget [(9, _)] ⟨rfl, trivial⟩ (fun e => ?_)
        refine c_seq (fun K32 hK32 => ?_)
        refine c_reg ?_ -- region 14 findm.go:43
        refine wl (ro_move rfl) ?_
        refine wl (ro_assign rfl) ?_
        refine wl (ro_assign rfl) ?_
        refine wl (ro_assign rfl) ?_
        refine wl_nil (x_then (hK32 _ _ ?_))
        clear hK32 K32
        refine c_ret ?_
        refine bp_ret Tryz.results24 rfl ?_
        rw [scanAll_past (i := i) (by omega), List.append_nil] at hsc
        exact ⟨⟨_, 0, 0, rfl, by rw [hE]; exact ⟨rfl, rfl, by rw [hsc]; exact hV⟩⟩, ⟨hB, hM.up (by omega), D, hef⟩, hF⟩

end Go.Proofs.Qxb6500567aGreat
