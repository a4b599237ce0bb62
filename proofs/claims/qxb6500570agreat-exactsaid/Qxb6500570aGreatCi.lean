import Derived.Test.Qxb6500570aGreatCh
/- The model's reader: expressions. -/
namespace Go.Proofs.Qxb6500570aGreat
set_option linter.unusedVariables false
set_option linter.unusedSimpArgs false

theorem tk_lt2 {s : List UInt8} {p : Nat} {c : UInt8} (hcc : (lkc s p false).1 = c) (ht : tkS (hdT (tsA s p)) < 2) : c ≠ 42 ∧ c ≠ 47 ∧ c ≠ 43 ∧ c ≠ 45 := by
  refine ⟨?_, ?_, ?_, ?_⟩
  all_goals
    rintro rfl
    obtain ⟨-, -, hs6, -, hts⟩ := lk_sees hcc (by decide)
    rw [tkw_sgn hs6 rfl rfl] at hts
  · have h3 : tkS (hdT (tsA s p)) = 3 := by rw [hts]; rfl
    omega
  · have h3 : tkS (hdT (tsA s p)) = 3 := by rw [hts]; rfl
    omega
  · have h3 : tkS (hdT (tsA s p)) = 2 := by rw [hts]; rfl
    omega
  · have h3 : tkS (hdT (tsA s p)) = 2 := by rw [hts]; rfl
    omega
theorem headD_at {s : List UInt8} {q : Nat} {d : UInt8} (h : s[q]? = some d) : (s.drop q).headD 0 = d := by rw [drop_get h]; rfl
theorem headD_end {s : List UInt8} {q : Nat} (h : s.length ≤ q) : (s.drop q).headD 0 = 0 := by rw [List.drop_eq_nil_of_le h]; rfl
theorem sgn61 (d : UInt8) : sgnT 61 d = (⟨6, 0, 1, zR⟩, 1) := rfl
theorem sgn60 (d : UInt8) : sgnT 60 d = if d = 61 then (⟨6, 0, 4, zR⟩, 2) else if d = 62 then (⟨6, 0, 2, zR⟩, 2) else (⟨6, 0, 3, zR⟩, 1) := rfl
theorem sgn62 (d : UInt8) : sgnT 62 d = if d = 61 then (⟨6, 0, 6, zR⟩, 2) else (⟨6, 0, 5, zR⟩, 1) := rfl
theorem u60 {c : UInt8} (h : c.toNat = 60) : c = 60 := (u8_eq (n := 60) (by omega)).2 h
theorem u61 {c : UInt8} (h : c.toNat = 61) : c = 61 := (u8_eq (n := 61) (by omega)).2 h
theorem u62 {c : UInt8} (h : c.toNat = 62) : c = 62 := (u8_eq (n := 62) (by omega)).2 h
theorem sg_le {c d : UInt8} (h : c.toNat = 60) (h1 : d.toNat = 61) : sgnT c d = (⟨6, 0, 4, zR⟩, 2) := by rw [u60 h, u61 h1]; rfl
theorem sg_ne {c d : UInt8} (h : c.toNat = 60) (h1 : d.toNat = 62) : sgnT c d = (⟨6, 0, 2, zR⟩, 2) := by rw [u60 h, u62 h1]; rfl
theorem sg_lt {c d : UInt8} (h : c.toNat = 60) (h1 : ¬ d.toNat = 61) (h2 : ¬ d.toNat = 62) : sgnT c d = (⟨6, 0, 3, zR⟩, 1) := by rw [u60 h, sgn60, if_neg (fun hh => h1 (by rw [hh]; rfl)), if_neg (fun hh => h2 (by rw [hh]; rfl))]
theorem sg_ge {c d : UInt8} (h : c.toNat = 62) (h1 : d.toNat = 61) : sgnT c d = (⟨6, 0, 6, zR⟩, 2) := by rw [u62 h, u61 h1]; rfl
theorem sg_gt {c d : UInt8} (h : c.toNat = 62) (h1 : ¬ d.toNat = 61) : sgnT c d = (⟨6, 0, 5, zR⟩, 1) := by rw [u62 h, sgn62, if_neg (fun hh => h1 (by rw [hh]; rfl))]
theorem sg_eq {c d : UInt8} (h : c.toNat = 61) : sgnT c d = (⟨6, 0, 1, zR⟩, 1) := by rw [u61 h]; rfl
theorem sgn_two {c d : UInt8} (h : (sgnT c d).2 = 2) : d ≠ 0 := by
  rintro rfl
  unfold sgnT at h
  revert h
  split
  · intro h; cases h
  · repeat' split
    all_goals first
      | (intro h; cases h; done)
      | (rename_i h0 _; exact absurd h0 (by decide))
      | (rename_i h0; exact absurd h0 (by decide))

theorem MRV.drew {w : World} {pb n0 k : Nat} {s : List UInt8} {p : Nat} {ar : List Nd} {V : Value} {er at' : Int} (h : MRV w pb n0 s p ar V er at') : MRV { w with drawn := k } pb n0 s p ar V er at' := ⟨h.blk, h.own, h.lo, h.vlo, h.l24, h.pl, h.sl40⟩

set_option maxHeartbeats 8000000 in
theorem ex_step' {n : Nat} (h2 : C2C n) : ExC n := by
  intro w pb n0 s p ar bad rg h hn
  have hF : Fram (fre n0) w w := Fram.refl _ _
  have hn0 : n0 ≤ pb := by obtain ⟨V, er, at', M, _⟩ := h; exact M.lo
  have hm : fre n0 pb := hn0
  have hpl : p ≤ s.length ∧ s.length ≤ 40 := by obtain ⟨V, er, at', M, _⟩ := h; exact ⟨M.pl, M.sl40⟩
  have hs40 := hpl.2
  refine ret_of Tryz.func131 rfl Tryz.ntmps131 rfl ?_
  refine c_seq (fun K1 hK1 => ?_)
  refine c_reg ?_ -- region 0 formm.go:283
  refine wl (ro_assign rfl) ?_
  refine wl_nil (x_then (hK1 _ _ ?_))
  clear hK1 K1
  refine forget [(0, _), (1, _)] ⟨rfl, rfl, trivial⟩ (fun e => ?_)
  refine c_seq (fun K2 hK2 => ?_)
  refine c_reg ?_ -- region 1 formm.go:284
  refine wl (ro_move rfl) ?_
  refine wl (ro_move rfl) ?_
  refine wl_call rfl en_173 (h2 (rg := rg) h hn) ?_
  rintro _ u1 ⟨hG, G1⟩
  replace hF := hF.transG G1 (by intro k hk h; simp only [one, none', fre] at h ⊢ <;> omega)
  obtain ⟨p1, ar1, b, z, rfl, M1, hcs⟩ := hG.uni
  refine wl (ro_assign rfl) ?_
  refine wl_nil (x_then (hK2 _ _ ?_))
  clear hK2 K2
  refine forget [(0, _), (5, _)] ⟨rfl, rfl, trivial⟩ (fun e => ?_)
  refine c_seq (fun K3 hK3 => ?_)
  refine c_reg ?_ -- region 2 formm.go:285
  refine wl (ro_move rfl) ?_
  refine wl_call rfl en_132 (lookM M1) ?_
  rintro _ u2 ⟨rfl, M2, G2⟩
  replace hF := hF.transG G2 (by intro k hk h; simp only [one, none', fre] at h ⊢ <;> omega)
  generalize hcc : (lkc s p1 b).1 = c
  have hlg := lk_ge s p1
  refine wl (ro_assign rfl) ?_
  refine wl_nil (x_then (hK3 _ _ ?_))
  clear hK3 K3
  refine c_mid (fun a' w' => w' = u2 ∧ (c.toNat = 61 ∨ c.toNat = 60 ∨ c.toNat = 62) ∧ ∃ e, a' = Fr 84 (upds e [(0, ptr pb), (5, icv z), (6, u8c c)]) []) ?_ ?_
  · skip
    refine c_seq (fun K4 hK4 => ?_)
    have hcc4 : c.toNat = 61 ∨ c.toNat = 60 ∨ c.toNat = 62 ∨ (c.toNat ≠ 61 ∧ c.toNat ≠ 60 ∧ c.toNat ≠ 62) := by omega
    rcases hcc4 with q | q | q | q
    · skip
      refine c_reg ?_ -- region 3 formm.go:286
      refine wl (ro_move rfl) ?_
      refine wl (ro_cmp (r := false) rfl rfl (congrArg some ((bnec c.toNat 61).trans (decide_eq_false (by omega))))) ?_
      refine wl (ro_move rfl) ?_
      refine wlg_no rfl ?_
      refine wlg_no rfl ?_
      refine wl (ro_pick rfl rfl rfl) ?_
      refine wl (ro_move rfl) ?_
      refine wlg_no rfl ?_
      refine wlg_no rfl ?_
      refine wl (ro_pick rfl rfl rfl) ?_
      refine wl_nil (x_then (hK4 _ _ ?_))
      clear hK4 K4
      refine wc_condF rfl ?_
      refine c_skip (x_then ?_)
      exact ⟨rfl, by omega, kp _ ⟨rfl, rfl, rfl, trivial⟩⟩
    · skip
      refine c_reg ?_ -- region 3 formm.go:286
      refine wl (ro_move rfl) ?_
      refine wl (ro_cmp (r := true) rfl rfl (congrArg some ((bnec c.toNat 61).trans (decide_eq_true (by omega))))) ?_
      refine wl (ro_move rfl) ?_
      refine wlg_yes rfl (ro_move rfl) ?_
      refine wlg_yes rfl (ro_cmp (r := false) rfl rfl (congrArg some ((bnec c.toNat 60).trans (decide_eq_false (by omega))))) ?_
      refine wl (ro_pick rfl rfl rfl) ?_
      refine wl (ro_move rfl) ?_
      refine wlg_no rfl ?_
      refine wlg_no rfl ?_
      refine wl (ro_pick rfl rfl rfl) ?_
      refine wl_nil (x_then (hK4 _ _ ?_))
      clear hK4 K4
      refine wc_condF rfl ?_
      refine c_skip (x_then ?_)
      exact ⟨rfl, by omega, kp _ ⟨rfl, rfl, rfl, trivial⟩⟩
    · skip
      refine c_reg ?_ -- region 3 formm.go:286
      refine wl (ro_move rfl) ?_
      refine wl (ro_cmp (r := true) rfl rfl (congrArg some ((bnec c.toNat 61).trans (decide_eq_true (by omega))))) ?_
      refine wl (ro_move rfl) ?_
      refine wlg_yes rfl (ro_move rfl) ?_
      refine wlg_yes rfl (ro_cmp (r := true) rfl rfl (congrArg some ((bnec c.toNat 60).trans (decide_eq_true (by omega))))) ?_
      refine wl (ro_pick rfl rfl rfl) ?_
      refine wl (ro_move rfl) ?_
      refine wlg_yes rfl (ro_move rfl) ?_
      refine wlg_yes rfl (ro_cmp (r := false) rfl rfl (congrArg some ((bnec c.toNat 62).trans (decide_eq_false (by omega))))) ?_
      refine wl (ro_pick rfl rfl rfl) ?_
      refine wl_nil (x_then (hK4 _ _ ?_))
      clear hK4 K4
      refine wc_condF rfl ?_
      refine c_skip (x_then ?_)
      exact ⟨rfl, by omega, kp _ ⟨rfl, rfl, rfl, trivial⟩⟩
    · skip
      refine c_reg ?_ -- region 3 formm.go:286
      refine wl (ro_move rfl) ?_
      refine wl (ro_cmp (r := true) rfl rfl (congrArg some ((bnec c.toNat 61).trans (decide_eq_true (by omega))))) ?_
      refine wl (ro_move rfl) ?_
      refine wlg_yes rfl (ro_move rfl) ?_
      refine wlg_yes rfl (ro_cmp (r := true) rfl rfl (congrArg some ((bnec c.toNat 60).trans (decide_eq_true (by omega))))) ?_
      refine wl (ro_pick rfl rfl rfl) ?_
      refine wl (ro_move rfl) ?_
      refine wlg_yes rfl (ro_move rfl) ?_
      refine wlg_yes rfl (ro_cmp (r := true) rfl rfl (congrArg some ((bnec c.toNat 62).trans (decide_eq_true (by omega))))) ?_
      refine wl (ro_pick rfl rfl rfl) ?_
      refine wl_nil (x_then (hK4 _ _ ?_))
      clear hK4 K4
      refine wc_condT rfl ?_
      refine c_seq (fun K5 hK5 => ?_)
      refine c_reg ?_ -- region 4 formm.go:287
      refine wl (ro_move rfl) ?_
      refine wl (ro_assign rfl) ?_
      refine wl_nil (x_then (hK5 _ _ ?_))
      clear hK5 K5
      refine c_ret (x_thenR ?_)
      refine bp_ret Tryz.results131 rfl ?_
      refine ⟨?_, hF⟩
      rcases hcs with ⟨rfl, hf⟩ | ⟨rfl, hb2, rfl, hp1, hl1, ho1⟩
      · refine .inl ⟨_, _, _, rfl, M2, ?_⟩
        rcases hf with hf | hf
        · exact .inl hf
        · exact .inr (ex_F hf)
      · cases hb5 : (lkc s p1 false).2 with
        | true =>
          rw [hb5] at M2
          refine .inl ⟨_, _, _, rfl, M2, .inr (ex_F (c2_char ho1.1 ?_))⟩
          rcases lk_cs s p1 with ⟨h1, h2⟩ | ⟨h1, h2, h3⟩ | ⟨c', h1, h2, -⟩
          · exact h2
          · rw [h1] at hb5; cases hb5
          · rw [h1] at hb5; cases hb5
        | false =>
          rw [hb5] at M2
          obtain ⟨e1, e2, e3, e4⟩ := tk_lt2 hcc ho1.2
          have hlow := (tk_low s p1 hb5 c hcc).2.2 e1 e2 e3 e4 (fun e => q.1 (by rw [e]; rfl)) (fun e => q.2.1 (by rw [e]; rfl)) (fun e => q.2.2 (by rw [e]; rfl))
          refine .inr ⟨_, _, hb2, rfl, M2, by omega, hl1, ?_⟩
          rw [tsA_lk]
          exact ex_O ho1.1 hlow
  rintro a' u2b ⟨rfl, hq3, e, rfl⟩
  refine c_seq (fun K6 hK6 => ?_)
  refine c_seq (fun K7 hK7 => ?_)
  have hc0 : c ≠ 0 := by rintro rfl; simp at hq3
  obtain ⟨hbf, hb6, hs6, -, hts⟩ := lk_sees hcc hc0
  have hnd : dg c = false := dg_not.2 (by omega)
  have hnw : wy c = false := wy_not.2 (by omega)
  rw [tkw_sgn hs6 hnd hnw] at hts
  obtain ⟨hb2, hz, hp1, hl1, ho1⟩ : bad = false ∧ z = (rt ar1 : Int) ∧ p < p1 ∧ 1 ≤ ar1.length ∧ (C2O rg (tsA s p) ar (tsA s p1) ar1 ∧ tkS (hdT (tsA s p1)) < 2) := by
    rcases hcs with ⟨h1, -⟩ | ⟨-, h2⟩
    · rw [hbf] at h1; cases h1
    · exact h2
  rw [hb6] at M2
  rw [hz]
  have hsl6 := (List.getElem?_eq_some_iff.1 hs6).1
  generalize hdd : (s.drop (lk s p1 + 1)).headD 0 = d at hts
  have hsg : (sgnT c d).1.k = 6 ∧ strg (sgnT c d).1.n = 1 := by
    have hc3 : c = 61 ∨ c = 60 ∨ c = 62 := by
      rcases hq3 with q | q | q
      · exact .inl ((u8_eq (n := 61) (by omega)).2 q)
      · exact .inr (.inl ((u8_eq (n := 60) (by omega)).2 q))
      · exact .inr (.inr ((u8_eq (n := 62) (by omega)).2 q))
    rcases hc3 with rfl | rfl | rfl
    · exact ⟨rfl, rfl⟩
    · rw [sgn60]; split
      · exact ⟨rfl, rfl⟩
      · split <;> exact ⟨rfl, rfl⟩
    · rw [sgn62]; split <;> exact ⟨rfl, rfl⟩
  refine c_reg ?_ -- region 5 formm.go:289
  refine wl (ro_move rfl) ?_
  refine wl (ro_move rfl) ?_
  refine wl_call rfl en_174 (isRange174 M2 (by show ar1.length - 1 < ar1.length; omega)) ?_
  rintro _ u3 ⟨rfl, G3⟩
  replace M2 := MR.far M2 G3
  replace hF := hF.transG G3 (by intro k hk h; simp only [one, none', fre] at h ⊢ <;> omega)
  obtain ⟨V, er, at', M, hbb⟩ := M2
  have hB := M.blk
  have hhk : (hdT (tsA s p1)).k = 6 := by rw [hts]; exact hsg.1
  have hhs : strg (hdT (tsA s p1)).n = 1 := by rw [hts]; exact hsg.2
  refine wl_nil (x_then (hK7 _ _ ?_))
  clear hK7 K7
  refine wc_cond rfl (fun hc29 => ?_) (fun hc29 => ?_)
  · try simp only [decide_eq_true_eq, decide_eq_false_iff_not, Bool.not_eq_true', Bool.not_eq_false', Bool.not_eq_eq_eq_not, Bool.not_true, Bool.not_false, beq_iff_eq, bne_iff_ne, ne_eq, beq_eq_false_iff_ne, bne_eq_false_iff_eq, gt_iff_lt, ge_iff_le, Int.not_lt, Int.not_le] at hc29
    refine c_seq (fun K8 hK8 => ?_)
    refine c_reg ?_ -- region 6 formm.go:290
    refine wl (ro_move rfl) ?_
    refine wl (ro_move rfl) ?_
    refine wl (ro_nilCheck rfl) ?_
    refine wl (ro_fieldAddr (k := 1) rfl fo_168_1) ?_
    refine wl (ro_loadB rfl sc_3 (hB) (rfl)) ?_
    refine wl_call rfl en_133 (failM (x := 3) (by decide) ⟨V, er, at', M, hbb⟩) ?_
    rintro _ u7 ⟨rfl, M7, G7⟩
    replace hF := hF.transG G7 (by intro k hk h; simp only [one, none', fre] at h ⊢ <;> omega)
    refine wl (ro_assign rfl) ?_
    refine wl_nil (x_then (hK8 _ _ ?_))
    clear hK8 K8
    refine c_ret (x_thenR ?_)
    refine bp_ret Tryz.results131 rfl ?_
    exact ⟨.inl ⟨_, _, _, rfl, M7, .inr (ex_rngF ho1.1 hhk hhs hc29)⟩, hF⟩
  · try simp only [decide_eq_true_eq, decide_eq_false_iff_not, Bool.not_eq_true', Bool.not_eq_false', Bool.not_eq_eq_eq_not, Bool.not_true, Bool.not_false, beq_iff_eq, bne_iff_ne, ne_eq, beq_eq_false_iff_ne, bne_eq_false_iff_eq, gt_iff_lt, ge_iff_le, Int.not_lt, Int.not_le] at hc29
    refine c_skip (x_then (hK6 _ _ ?_))
    clear hK6 K6
    refine forget [(0, _), (5, _), (6, _)] ⟨rfl, rfl, rfl, trivial⟩ (fun e => ?_)
    refine c_seq (fun K9 hK9 => ?_)
    refine c_reg ?_ -- region 7 formm.go:292
    refine wl (ro_assign rfl) ?_
    refine wl_nil (x_then (hK9 _ _ ?_))
    clear hK9 K9
    refine c_mid (fun a' w' => MRV w' pb n0 s (lk s p1) ar1 V er at' ∧ Fram (fre n0) w w' ∧ ∃ e, a' = Fr 84 (upds e [(0, ptr pb), (5, icv (rt ar1 : Int)), (6, u8c c), (7, u8c d)]) []) ?_ ?_
    · skip
      refine c_seq (fun K10 hK10 => ?_)
      have hcs8 : s.length ≤ lk s p1 + 1 ∨ s[lk s p1 + 1]? = some d := by
        by_cases h : lk s p1 + 1 < s.length
        · right
          have hx := List.getElem?_eq_getElem h
          rw [← hdd, headD_at hx]
          exact hx
        · exact .inl (by omega)
      rcases hcs8 with hge | hd8
      · skip
        have hd0 : d = 0 := by rw [← hdd, headD_end hge]
        refine c_pi [(0, false), (1, false), (2, false), (3, false), (4, false), (5, false), (6, false), (7, false), (8, false), (9, false), (10, false)] (SameH _) mixed (by kernel_rfl) rfl (by kernel_rfl) (po_then (po_then (po_bp))) (sameH_now _ _) ?_ -- region 8 formm.go:293
        refine pi_ro rfl (fun w hS => ro_move rfl) ?_
        refine pi_ro rfl (fun w hS => ro_nilCheck rfl) ?_
        refine pi_ro rfl (fun w hS => ro_fieldAddr (k := 1) rfl fo_168_1) ?_
        refine pi_ro rfl (fun w hS => ro_loadB rfl sc_3 (Blk.of_heap hB hS) (rfl)) ?_
        refine pi_ro rfl (fun w hS => ro_arith (r := ((lk s p1 + 1 : Nat) : Int)) rfl rfl rfl (Go.IntWalk.i64_in _ (by omega))) ?_
        refine pi_ro rfl (fun w hS => ro_move rfl) ?_
        refine pi_ro rfl (fun w hS => ro_nilCheck rfl) ?_
        refine pi_ro rfl (fun w hS => ro_fieldAddr (k := 0) rfl fo_168_0) ?_
        refine pi_ro rfl (fun w hS => ro_loadB rfl sc_9 (Blk.of_heap hB hS) (rfl)) ?_
        refine pi_ro rfl (fun w hS => ro_lenS rfl st_9) ?_
        refine pi_ro rfl (fun w hS => ro_cmp (r := false) rfl rfl (congrArg some (decide_eq_false (by show ¬ (((lk s p1 + 1 : Nat) : Int) < (s.length : Int)); omega)))) ?_
        refine pi_nil (x_then (hK10 _ _ ?_))
        clear hK10 K10
        refine wc_condF rfl ?_
        refine c_skip (x_then ?_)
        first
          | exact ⟨M.drew.drew, hF.thenDrew.thenDrew, kp _ ⟨rfl, rfl, rfl, rfl, trivial⟩⟩
          | exact ⟨M.drew, hF.thenDrew, kp _ ⟨rfl, rfl, rfl, by rw [hd0]; rfl, trivial⟩⟩
      · skip
        have hsl8 := (List.getElem?_eq_some_iff.1 hd8).1
        refine c_pi [(0, false), (1, false), (2, false), (3, false), (4, false), (5, false), (6, false), (7, false), (8, false), (9, false), (10, false)] (SameH _) mixed (by kernel_rfl) rfl (by kernel_rfl) (po_then (po_then (po_bp))) (sameH_now _ _) ?_ -- region 8 formm.go:293
        refine pi_ro rfl (fun w hS => ro_move rfl) ?_
        refine pi_ro rfl (fun w hS => ro_nilCheck rfl) ?_
        refine pi_ro rfl (fun w hS => ro_fieldAddr (k := 1) rfl fo_168_1) ?_
        refine pi_ro rfl (fun w hS => ro_loadB rfl sc_3 (Blk.of_heap hB hS) (rfl)) ?_
        refine pi_ro rfl (fun w hS => ro_arith (r := ((lk s p1 + 1 : Nat) : Int)) rfl rfl rfl (Go.IntWalk.i64_in _ (by omega))) ?_
        refine pi_ro rfl (fun w hS => ro_move rfl) ?_
        refine pi_ro rfl (fun w hS => ro_nilCheck rfl) ?_
        refine pi_ro rfl (fun w hS => ro_fieldAddr (k := 0) rfl fo_168_0) ?_
        refine pi_ro rfl (fun w hS => ro_loadB rfl sc_9 (Blk.of_heap hB hS) (rfl)) ?_
        refine pi_ro rfl (fun w hS => ro_lenS rfl st_9) ?_
        refine pi_ro rfl (fun w hS => ro_cmp (r := true) rfl rfl (congrArg some (decide_eq_true (by show ((lk s p1 + 1 : Nat) : Int) < (s.length : Int); omega)))) ?_
        refine pi_nil (x_then (hK10 _ _ ?_))
        clear hK10 K10
        refine wc_condT rfl ?_
        refine c_pi [(0, false), (1, false), (2, false), (3, false), (4, false), (5, false), (6, false), (7, false), (8, false), (9, false), (10, false)] (SameH _) mixed (by kernel_rfl) rfl (by kernel_rfl) (po_then (po_bp)) (sameH_now _ _) ?_ -- region 9 formm.go:294
        refine pi_ro rfl (fun w hS => ro_move rfl) ?_
        refine pi_ro rfl (fun w hS => ro_nilCheck rfl) ?_
        refine pi_ro rfl (fun w hS => ro_fieldAddr (k := 0) rfl fo_168_0) ?_
        refine pi_ro rfl (fun w hS => ro_loadB rfl sc_9 (Blk.of_heap hB hS) (rfl)) ?_
        refine pi_ro rfl (fun w hS => ro_move rfl) ?_
        refine pi_ro rfl (fun w hS => ro_nilCheck rfl) ?_
        refine pi_ro rfl (fun w hS => ro_fieldAddr (k := 1) rfl fo_168_1) ?_
        refine pi_ro rfl (fun w hS => ro_loadB rfl sc_3 (Blk.of_heap hB hS) (rfl)) ?_
        refine pi_ro rfl (fun w hS => ro_arith (r := ((lk s p1 + 1 : Nat) : Int)) rfl rfl rfl (Go.IntWalk.i64_in _ (by omega))) ?_
        refine pi_ro rfl (fun w hS => ro_indexS rfl rfl st_9 rfl (hd8)) ?_
        refine pi_ro rfl (fun w hS => ro_assign rfl) ?_
        refine pi_nil (x_then ?_)
        first
          | exact ⟨M.drew.drew, hF.thenDrew.thenDrew, kp _ ⟨rfl, rfl, rfl, rfl, trivial⟩⟩
          | exact ⟨M.drew, hF.thenDrew, kp _ ⟨rfl, rfl, rfl, by rw [hd0]; rfl, trivial⟩⟩
    clear hB hF M
    rintro a' u4 ⟨M, hF, e, rfl⟩
    have hB := M.blk
    refine c_seq (fun K11 hK11 => ?_)
    refine c_reg ?_ -- region 10 formm.go:296
    refine wl (ro_assign rfl) ?_
    refine wl (ro_assign rfl) ?_
    refine wl_nil (x_then (hK11 _ _ ?_))
    clear hK11 K11
    refine c_mid (fun a' w' => w' = u4 ∧ ∃ e, a' = Fr 84 (upds e [(0, ptr pb), (5, icv (rt ar1 : Int)), (8, i64c (sgnT c d).1.n), (9, i64c (sgnT c d).2)]) []) ?_ ?_
    · skip
      refine c_seq (fun K12 hK12 => ?_)
      refine c_reg ?_ -- region 11 formm.go:297
      refine wl (ro_move rfl) ?_
      refine wl (ro_cmp (r := decide (c.toNat = 60)) rfl rfl (congrArg some (beqc c.toNat 60))) ?_
      refine wl_nil (x_then (hK12 _ _ ?_))
      clear hK12 K12
      refine wc_cond rfl (fun hc58 => ?_) (fun hc58 => ?_)
      · try simp only [decide_eq_true_eq, decide_eq_false_iff_not, Bool.not_eq_true', Bool.not_eq_false', Bool.not_eq_eq_eq_not, Bool.not_true, Bool.not_false, beq_iff_eq, bne_iff_ne, ne_eq, beq_eq_false_iff_ne, bne_eq_false_iff_eq, gt_iff_lt, ge_iff_le, Int.not_lt, Int.not_le] at hc58
        refine c_seq (fun K13 hK13 => ?_)
        refine c_reg ?_ -- region 12 formm.go:298
        refine wl (ro_assign rfl) ?_
        refine wl_nil (x_then (hK13 _ _ ?_))
        clear hK13 K13
        refine forget [(0, _), (5, _), (7, _), (8, _), (9, _)] ⟨rfl, rfl, rfl, rfl, rfl, trivial⟩ (fun e => ?_)
        refine c_seq (fun K14 hK14 => ?_)
        refine c_reg ?_ -- region 13 formm.go:299
        refine wl (ro_move rfl) ?_
        refine wl (ro_cmp (r := decide (d.toNat = 61)) rfl rfl (congrArg some (beqc d.toNat 61))) ?_
        refine wl_nil (x_then (hK14 _ _ ?_))
        clear hK14 K14
        refine wc_cond rfl (fun hc60 => ?_) (fun hc60 => ?_)
        · try simp only [decide_eq_true_eq, decide_eq_false_iff_not, Bool.not_eq_true', Bool.not_eq_false', Bool.not_eq_eq_eq_not, Bool.not_true, Bool.not_false, beq_iff_eq, bne_iff_ne, ne_eq, beq_eq_false_iff_ne, bne_eq_false_iff_eq, gt_iff_lt, ge_iff_le, Int.not_lt, Int.not_le] at hc60
          refine c_reg ?_ -- region 14 formm.go:300
          refine wl (ro_assign rfl) ?_
          refine wl (ro_assign rfl) ?_
          refine wl_nil (x_then ?_)
          first
            | (rw [sg_le hc58 hc60]; exact ⟨rfl, kp _ ⟨rfl, rfl, rfl, rfl, trivial⟩⟩)
            | (rw [sg_ne hc58 hc62]; exact ⟨rfl, kp _ ⟨rfl, rfl, rfl, rfl, trivial⟩⟩)
            | (rw [sg_lt hc58 hc60 hc62]; exact ⟨rfl, kp _ ⟨rfl, rfl, rfl, rfl, trivial⟩⟩)
            | (rw [sg_ge hc64 hc66]; exact ⟨rfl, kp _ ⟨rfl, rfl, rfl, rfl, trivial⟩⟩)
            | (rw [sg_gt hc64 hc66]; exact ⟨rfl, kp _ ⟨rfl, rfl, rfl, rfl, trivial⟩⟩)
            | (rw [sg_eq (show c.toNat = 61 by omega)]; exact ⟨rfl, kp _ ⟨rfl, rfl, rfl, rfl, trivial⟩⟩)
        · try simp only [decide_eq_true_eq, decide_eq_false_iff_not, Bool.not_eq_true', Bool.not_eq_false', Bool.not_eq_eq_eq_not, Bool.not_true, Bool.not_false, beq_iff_eq, bne_iff_ne, ne_eq, beq_eq_false_iff_ne, bne_eq_false_iff_eq, gt_iff_lt, ge_iff_le, Int.not_lt, Int.not_le] at hc60
          refine c_seq (fun K15 hK15 => ?_)
          refine c_reg ?_ -- region 15 formm.go:301
          refine wl (ro_move rfl) ?_
          refine wl (ro_cmp (r := decide (d.toNat = 62)) rfl rfl (congrArg some (beqc d.toNat 62))) ?_
          refine wl_nil (x_then (hK15 _ _ ?_))
          clear hK15 K15
          refine wc_cond rfl (fun hc62 => ?_) (fun hc62 => ?_)
          · try simp only [decide_eq_true_eq, decide_eq_false_iff_not, Bool.not_eq_true', Bool.not_eq_false', Bool.not_eq_eq_eq_not, Bool.not_true, Bool.not_false, beq_iff_eq, bne_iff_ne, ne_eq, beq_eq_false_iff_ne, bne_eq_false_iff_eq, gt_iff_lt, ge_iff_le, Int.not_lt, Int.not_le] at hc62
            refine c_reg ?_ -- region 16 formm.go:302
            refine wl (ro_assign rfl) ?_
            refine wl (ro_assign rfl) ?_
            refine wl_nil (x_then ?_)
            first
              | (rw [sg_le hc58 hc60]; exact ⟨rfl, kp _ ⟨rfl, rfl, rfl, rfl, trivial⟩⟩)
              | (rw [sg_ne hc58 hc62]; exact ⟨rfl, kp _ ⟨rfl, rfl, rfl, rfl, trivial⟩⟩)
              | (rw [sg_lt hc58 hc60 hc62]; exact ⟨rfl, kp _ ⟨rfl, rfl, rfl, rfl, trivial⟩⟩)
              | (rw [sg_ge hc64 hc66]; exact ⟨rfl, kp _ ⟨rfl, rfl, rfl, rfl, trivial⟩⟩)
              | (rw [sg_gt hc64 hc66]; exact ⟨rfl, kp _ ⟨rfl, rfl, rfl, rfl, trivial⟩⟩)
              | (rw [sg_eq (show c.toNat = 61 by omega)]; exact ⟨rfl, kp _ ⟨rfl, rfl, rfl, rfl, trivial⟩⟩)
          · try simp only [decide_eq_true_eq, decide_eq_false_iff_not, Bool.not_eq_true', Bool.not_eq_false', Bool.not_eq_eq_eq_not, Bool.not_true, Bool.not_false, beq_iff_eq, bne_iff_ne, ne_eq, beq_eq_false_iff_ne, bne_eq_false_iff_eq, gt_iff_lt, ge_iff_le, Int.not_lt, Int.not_le] at hc62
            refine c_skip (x_then ?_)
            first
              | (rw [sg_le hc58 hc60]; exact ⟨rfl, kp _ ⟨rfl, rfl, rfl, rfl, trivial⟩⟩)
              | (rw [sg_ne hc58 hc62]; exact ⟨rfl, kp _ ⟨rfl, rfl, rfl, rfl, trivial⟩⟩)
              | (rw [sg_lt hc58 hc60 hc62]; exact ⟨rfl, kp _ ⟨rfl, rfl, rfl, rfl, trivial⟩⟩)
              | (rw [sg_ge hc64 hc66]; exact ⟨rfl, kp _ ⟨rfl, rfl, rfl, rfl, trivial⟩⟩)
              | (rw [sg_gt hc64 hc66]; exact ⟨rfl, kp _ ⟨rfl, rfl, rfl, rfl, trivial⟩⟩)
              | (rw [sg_eq (show c.toNat = 61 by omega)]; exact ⟨rfl, kp _ ⟨rfl, rfl, rfl, rfl, trivial⟩⟩)
      · try simp only [decide_eq_true_eq, decide_eq_false_iff_not, Bool.not_eq_true', Bool.not_eq_false', Bool.not_eq_eq_eq_not, Bool.not_true, Bool.not_false, beq_iff_eq, bne_iff_ne, ne_eq, beq_eq_false_iff_ne, bne_eq_false_iff_eq, gt_iff_lt, ge_iff_le, Int.not_lt, Int.not_le] at hc58
        refine c_seq (fun K16 hK16 => ?_)
        refine c_reg ?_ -- region 17 formm.go:304
        refine wl (ro_move rfl) ?_
        refine wl (ro_cmp (r := decide (c.toNat = 62)) rfl rfl (congrArg some (beqc c.toNat 62))) ?_
        refine wl_nil (x_then (hK16 _ _ ?_))
        clear hK16 K16
        refine wc_cond rfl (fun hc64 => ?_) (fun hc64 => ?_)
        · try simp only [decide_eq_true_eq, decide_eq_false_iff_not, Bool.not_eq_true', Bool.not_eq_false', Bool.not_eq_eq_eq_not, Bool.not_true, Bool.not_false, beq_iff_eq, bne_iff_ne, ne_eq, beq_eq_false_iff_ne, bne_eq_false_iff_eq, gt_iff_lt, ge_iff_le, Int.not_lt, Int.not_le] at hc64
          refine c_seq (fun K17 hK17 => ?_)
          refine c_reg ?_ -- region 18 formm.go:305
          refine wl (ro_assign rfl) ?_
          refine wl_nil (x_then (hK17 _ _ ?_))
          clear hK17 K17
          refine forget [(0, _), (5, _), (7, _), (8, _), (9, _)] ⟨rfl, rfl, rfl, rfl, rfl, trivial⟩ (fun e => ?_)
          refine c_seq (fun K18 hK18 => ?_)
          refine c_reg ?_ -- region 19 formm.go:306
          refine wl (ro_move rfl) ?_
          refine wl (ro_cmp (r := decide (d.toNat = 61)) rfl rfl (congrArg some (beqc d.toNat 61))) ?_
          refine wl_nil (x_then (hK18 _ _ ?_))
          clear hK18 K18
          refine wc_cond rfl (fun hc66 => ?_) (fun hc66 => ?_)
          · try simp only [decide_eq_true_eq, decide_eq_false_iff_not, Bool.not_eq_true', Bool.not_eq_false', Bool.not_eq_eq_eq_not, Bool.not_true, Bool.not_false, beq_iff_eq, bne_iff_ne, ne_eq, beq_eq_false_iff_ne, bne_eq_false_iff_eq, gt_iff_lt, ge_iff_le, Int.not_lt, Int.not_le] at hc66
            refine c_reg ?_ -- region 20 formm.go:307
            refine wl (ro_assign rfl) ?_
            refine wl (ro_assign rfl) ?_
            refine wl_nil (x_then ?_)
            first
              | (rw [sg_le hc58 hc60]; exact ⟨rfl, kp _ ⟨rfl, rfl, rfl, rfl, trivial⟩⟩)
              | (rw [sg_ne hc58 hc62]; exact ⟨rfl, kp _ ⟨rfl, rfl, rfl, rfl, trivial⟩⟩)
              | (rw [sg_lt hc58 hc60 hc62]; exact ⟨rfl, kp _ ⟨rfl, rfl, rfl, rfl, trivial⟩⟩)
              | (rw [sg_ge hc64 hc66]; exact ⟨rfl, kp _ ⟨rfl, rfl, rfl, rfl, trivial⟩⟩)
              | (rw [sg_gt hc64 hc66]; exact ⟨rfl, kp _ ⟨rfl, rfl, rfl, rfl, trivial⟩⟩)
              | (rw [sg_eq (show c.toNat = 61 by omega)]; exact ⟨rfl, kp _ ⟨rfl, rfl, rfl, rfl, trivial⟩⟩)
          · try simp only [decide_eq_true_eq, decide_eq_false_iff_not, Bool.not_eq_true', Bool.not_eq_false', Bool.not_eq_eq_eq_not, Bool.not_true, Bool.not_false, beq_iff_eq, bne_iff_ne, ne_eq, beq_eq_false_iff_ne, bne_eq_false_iff_eq, gt_iff_lt, ge_iff_le, Int.not_lt, Int.not_le] at hc66
            refine c_skip (x_then ?_)
            first
              | (rw [sg_le hc58 hc60]; exact ⟨rfl, kp _ ⟨rfl, rfl, rfl, rfl, trivial⟩⟩)
              | (rw [sg_ne hc58 hc62]; exact ⟨rfl, kp _ ⟨rfl, rfl, rfl, rfl, trivial⟩⟩)
              | (rw [sg_lt hc58 hc60 hc62]; exact ⟨rfl, kp _ ⟨rfl, rfl, rfl, rfl, trivial⟩⟩)
              | (rw [sg_ge hc64 hc66]; exact ⟨rfl, kp _ ⟨rfl, rfl, rfl, rfl, trivial⟩⟩)
              | (rw [sg_gt hc64 hc66]; exact ⟨rfl, kp _ ⟨rfl, rfl, rfl, rfl, trivial⟩⟩)
              | (rw [sg_eq (show c.toNat = 61 by omega)]; exact ⟨rfl, kp _ ⟨rfl, rfl, rfl, rfl, trivial⟩⟩)
        · try simp only [decide_eq_true_eq, decide_eq_false_iff_not, Bool.not_eq_true', Bool.not_eq_false', Bool.not_eq_eq_eq_not, Bool.not_true, Bool.not_false, beq_iff_eq, bne_iff_ne, ne_eq, beq_eq_false_iff_ne, bne_eq_false_iff_eq, gt_iff_lt, ge_iff_le, Int.not_lt, Int.not_le] at hc64
          refine c_skip (x_then ?_)
          first
            | (rw [sg_le hc58 hc60]; exact ⟨rfl, kp _ ⟨rfl, rfl, rfl, rfl, trivial⟩⟩)
            | (rw [sg_ne hc58 hc62]; exact ⟨rfl, kp _ ⟨rfl, rfl, rfl, rfl, trivial⟩⟩)
            | (rw [sg_lt hc58 hc60 hc62]; exact ⟨rfl, kp _ ⟨rfl, rfl, rfl, rfl, trivial⟩⟩)
            | (rw [sg_ge hc64 hc66]; exact ⟨rfl, kp _ ⟨rfl, rfl, rfl, rfl, trivial⟩⟩)
            | (rw [sg_gt hc64 hc66]; exact ⟨rfl, kp _ ⟨rfl, rfl, rfl, rfl, trivial⟩⟩)
            | (rw [sg_eq (show c.toNat = 61 by omega)]; exact ⟨rfl, kp _ ⟨rfl, rfl, rfl, rfl, trivial⟩⟩)
    rintro a' u5 ⟨rfl, e, rfl⟩
    refine c_seq (fun K19 hK19 => ?_)
    have hw2 := sgn_wid c d
    have hqw : lk s p1 + (sgnT c d).2 ≤ s.length := by
      rcases hw2 with h | h
      · omega
      · by_cases hge : s.length ≤ lk s p1 + 1
        · exact absurd (by rw [← hdd, headD_end hge]) (sgn_two h)
        · omega
    generalize hst : sgnT c d = st at hts hsg hw2 hqw
    refine c_reg ?_ -- region 21 formm.go:310
    refine wl (ro_move rfl) ?_
    refine wl (ro_move rfl) ?_
    refine wl (ro_nilCheck rfl) ?_
    refine wl (ro_fieldAddr (k := 1) rfl fo_168_1) ?_
    refine wl (ro_loadB rfl sc_3 (hB) (rfl)) ?_
    refine wl (ro_move rfl) ?_
    refine wl (ro_arith (r := ((lk s p1 + st.2 : Nat) : Int)) rfl rfl rfl (Go.IntWalk.i64_in _ (by omega))) ?_
    refine wl (ro_nilCheck rfl) ?_
    refine wl (ro_fieldAddr (k := 1) rfl fo_168_1) ?_
    refine wl_put rfl rfl rfl sz_3 hB ((by simp)) ((show _ = rdl s (lk s p1 + st.2) V er at' from rfl)) (fun w1 hB F1 => ?_)
    replace hF := hF.thenDrew.thenO F1 (by first | exact .inr (by omega) | exact .inl rfl | exact .inl (by assumption))
    have M8 := M.look hB F1 hqw
    refine wl_nil (x_then (hK19 _ _ ?_))
    clear hK19 K19
    refine forget [(0, _), (5, _), (8, _)] ⟨rfl, rfl, rfl, trivial⟩ (fun e => ?_)
    refine c_seq (fun K20 hK20 => ?_)
    refine c_reg ?_ -- region 22 formm.go:311
    refine wl (ro_move rfl) ?_
    refine wl_call rfl en_173 (h2 (rg := false) (bad := false) ⟨V, er, at', M8, hbb⟩ (by omega)) ?_
    rintro _ u9 ⟨hG, G9⟩
    replace hF := hF.transG G9 (by intro k hk h; simp only [one, none', fre] at h ⊢ <;> omega)
    obtain ⟨p2, ar2, b2, z2, rfl, M9, hcs2⟩ := hG.uni
    refine wl (ro_assign rfl) ?_
    refine wl_nil (x_then (hK20 _ _ ?_))
    clear hK20 K20
    refine forget [(0, _), (5, _), (8, _), (10, _)] ⟨rfl, rfl, rfl, rfl, trivial⟩ (fun e => ?_)
    refine c_seq (fun K21 hK21 => ?_)
    refine c_reg ?_ -- region 23 formm.go:312
    refine wl (ro_move rfl) ?_
    refine wl (ro_move rfl) ?_
    refine wl (ro_move rfl) ?_
    refine wl (ro_move rfl) ?_
    refine wl (ro_build rfl bld_143_0_1_2_3) ?_
    refine wl_call rfl en_175 (add175 (x := nBinI st.1.n (rt ar1 : Int) z2) M9) ?_
    rintro _ u10 ⟨rfl, M10, G10⟩
    replace hF := hF.transG G10 (by intro k hk h; simp only [one, none', fre] at h ⊢ <;> omega)
    refine wl (ro_assign rfl) ?_
    refine wl_nil (x_then (hK21 _ _ ?_))
    clear hK21 K21
    refine c_ret ?_
    refine bp_ret Tryz.results131 rfl ?_
    refine ⟨?_, hF⟩
    rcases hcs2 with ⟨rfl, hf | hf⟩ | ⟨rfl, -, rfl, hp2, hl2, ho2⟩
    · cases hf
    · exact .inl ⟨_, _, _, rfl, M10, .inr (ex_stepF ho1.1 hhk hhs (by rw [hts]; exact hf))⟩
    · have ho2' : C2O false (tsA s p1).tail ar1 (tsA s p2) ar2 := by rw [hts]; exact ho2.1
      by_cases h24 : ar2.length < 24
      · have hst := ex_step ho1.1 hhk hhs (by simpa using hc29) ho2' ho2.2 h24
        have hn2 : (hdT (tsA s p1)).n = st.1.n := by rw [hts]; rfl
        rw [hn2] at hst
        rw [addX_lt h24] at M10 ⊢
        exact .inr ⟨p2, _, hb2, by rw [rt_app]; rfl, M10, by omega, by simp, hst⟩
      · rw [addX_ge h24] at M10 ⊢
        exact .inl ⟨_, _, _, rfl, M10, .inr (ex_big ho1.1 hhk hhs ho2' ho2.2 h24)⟩

end Go.Proofs.Qxb6500570aGreat
