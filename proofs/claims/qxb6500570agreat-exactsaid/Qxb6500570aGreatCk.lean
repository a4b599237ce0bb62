import Derived.Test.Qxb6500570aGreatCj
/- The model's reader: calls. -/
namespace Go.Proofs.Qxb6500570aGreat
set_option linter.unusedVariables false
set_option linter.unusedSimpArgs false

/-- What a call leaves, told from the word on. -/
def CaG (ts0 : List Tk) (w' : World) (pb n0 : Nat) (s : List UInt8) (p : Nat) (ar : List Nd) (v : Value) : Prop :=
  (∃ (p' : Nat) (ar' : List Nd) (z : Int), v = icv z ∧ MR w' pb n0 s p' ar' true ∧ ∀ rg, AtF rg ts0 ar)
  ∨ (∃ (p' : Nat) (ar' : List Nd), v = i64c (rt ar') ∧ MR w' pb n0 s p' ar' false ∧ p < p' ∧ 1 ≤ ar'.length ∧ ∀ rg, AtO rg ts0 ar (tsA s p') ar')

/-- The arguments under way. -/
def CLS (f : Nat) (ts0 : List Tk) (s : List UInt8) (p : Nat) (ar : List Nd) (p1 : Nat) (ar1 : List Nd) (b : Bool) (l : Int) (k : Nat) : Prop :=
  (b = true ∧ ∀ rg, AtF rg ts0 ar) ∨ (b = false ∧ p < p1 ∧ k ≤ p1 ∧ ∀ rg, CaO f k l rg ts0 ar (tsA s p1) ar1)

set_option maxHeartbeats 8000000 in
theorem call232 {n : Nat} (hE : ExC n) {w : World} {pb n0 : Nat} {s : List UInt8} {p f : Nat} {ar : List Nd} {a : Int} (h : MR w pb n0 s p ar false) (hs0 : s[p]? = some 40) (hn : s.length - p ≤ n + 1) (hf1 : 1 ≤ f) (hf2 : f ≤ 10) :
    Ret Tryz.prog 232 [ptr pb, i64c f, icv a] w (fun v w' => CaG (⟨5, 0, f, zR⟩ :: tsA s p) w' pb n0 s p ar v ∧ Fram (fre n0) w w') := by
  have hF : Fram (fre n0) w w := Fram.refl _ _
  obtain ⟨V, er, at', M, hbb⟩ := h
  have hB := M.blk
  have hn0 := M.lo
  have hm : fre n0 pb := hn0
  have hs40 := M.sl40
  have hpl := (List.getElem?_eq_some_iff.1 hs0).1
  have hts : tsA s p = ⟨40, 0, 0, zR⟩ :: tsA s (p + 1) := by rw [tsA_cons hs0 (by decide), tkw_sgn hs0 rfl rfl]; rfl
  have hlg := lk_ge s (p + 1)
  refine ret_of Tryz.func232 rfl Tryz.ntmps232 rfl ?_
  refine c_seq (fun K1 hK1 => ?_)
  refine c_reg ?_ -- region 0 formm.go:130
  refine wl (ro_assign rfl) ?_
  refine wl_nil (x_then (hK1 _ _ ?_))
  clear hK1 K1
  refine forget [(0, _), (1, _), (2, _)] ⟨rfl, rfl, rfl, trivial⟩ (fun e => ?_)
  refine c_seq (fun K2 hK2 => ?_)
  refine c_reg ?_ -- region 1 formm.go:131
  refine wl (ro_move rfl) ?_
  refine wl (ro_nilCheck rfl) ?_
  refine wl (ro_fieldAddr (k := 1) rfl fo_168_1) ?_
  refine wl (ro_loadB rfl sc_3 (hB) (rfl)) ?_
  refine wl (ro_arith (r := ((p + 1 : Nat) : Int)) rfl rfl rfl (Go.IntWalk.i64_in _ (by omega))) ?_
  refine wl (ro_nilCheck rfl) ?_
  refine wl (ro_fieldAddr (k := 1) rfl fo_168_1) ?_
  refine wl_put rfl rfl rfl sz_3 hB ((by simp)) ((show _ = rdl s (p + 1) V er at' from rfl)) (fun w1 hB F1 => ?_)
  replace hF := hF.thenDrew.thenO F1 (by first | exact .inr (by omega) | exact .inl rfl | exact .inl (by assumption))
  have M1 : MR _ pb n0 s (p + 1) ar false := ⟨V, er, at', M.look hB F1 (show p + 1 ≤ s.length by omega), hbb⟩
  refine wl_nil (x_then (hK2 _ _ ?_))
  clear hK2 K2
  refine forget [(0, _), (1, _), (2, _)] ⟨rfl, rfl, rfl, trivial⟩ (fun e => ?_)
  refine c_seq (fun K3 hK3 => ?_)
  refine c_reg ?_ -- region 2 formm.go:132
  refine wl (ro_assign rfl) ?_
  refine wl (ro_assign rfl) ?_
  refine wl_nil (x_then (hK3 _ _ ?_))
  clear hK3 K3
  refine c_seq (fun K4 hK4 => ?_)
  refine c_seq (fun K5 hK5 => ?_)
  refine c_reg ?_ -- region 3 formm.go:133
  refine wl (ro_move rfl) ?_
  refine wl_call rfl en_132 (lookM M1) ?_
  rintro _ u2 ⟨rfl, M2, G2⟩
  replace hF := hF.transG G2 (by intro k hk h; simp only [one, none', fre] at h ⊢ <;> omega)
  generalize hcc : (lkc s (p + 1) false).1 = c
  refine wl (ro_cmp (r := decide (c.toNat = 41)) rfl rfl (congrArg some (beqc c.toNat 41))) ?_
  refine wl_nil (x_then (hK5 _ _ ?_))
  clear hK5 K5
  refine wc_cond rfl (fun hc21 => ?_) (fun hc21 => ?_)
  · try simp only [decide_eq_true_eq, decide_eq_false_iff_not, Bool.not_eq_true', Bool.not_eq_false', Bool.not_eq_eq_eq_not, Bool.not_true, Bool.not_false, beq_iff_eq, bne_iff_ne, ne_eq, beq_eq_false_iff_ne, bne_eq_false_iff_eq, gt_iff_lt, ge_iff_le, Int.not_lt, Int.not_le] at hc21
    have hc41 : c = 41 := (u8_eq (n := 41) (by omega)).2 hc21
    rw [hc41] at hcc
    obtain ⟨-, hb6, hs6, -, hts6⟩ := lk_sees hcc (by decide)
    have hsl6 := (List.getElem?_eq_some_iff.1 hs6).1
    rw [hb6] at M2
    obtain ⟨V, er, at', M, hbb⟩ := M2
    have hB := M.blk
    refine c_seq (fun K6 hK6 => ?_)
    refine c_reg ?_ -- region 4 formm.go:134
    refine wl (ro_move rfl) ?_
    refine wl (ro_nilCheck rfl) ?_
    refine wl (ro_fieldAddr (k := 1) rfl fo_168_1) ?_
    refine wl (ro_loadB rfl sc_3 (hB) (rfl)) ?_
    refine wl (ro_arith (r := ((lk s (p + 1) + 1 : Nat) : Int)) rfl rfl rfl (Go.IntWalk.i64_in _ (by omega))) ?_
    refine wl (ro_nilCheck rfl) ?_
    refine wl (ro_fieldAddr (k := 1) rfl fo_168_1) ?_
    refine wl_put rfl rfl rfl sz_3 hB ((by simp)) ((show _ = rdl s (lk s (p + 1) + 1) V er at' from rfl)) (fun w2 hB F2 => ?_)
    replace hF := hF.thenDrew.thenO F2 (by first | exact .inr (by omega) | exact .inl rfl | exact .inl (by assumption))
    have M3 : MR _ pb n0 s (lk s (p + 1) + 1) ar false := ⟨V, er, at', M.look hB F2 (show lk s (p + 1) + 1 ≤ s.length by omega), hbb⟩
    refine wl_nil (x_then (hK6 _ _ ?_))
    clear hK6 K6
    refine forget [(0, _), (2, _)] ⟨rfl, rfl, trivial⟩ (fun e => ?_)
    refine c_seq (fun K7 hK7 => ?_)
    refine c_reg ?_ -- region 5 formm.go:135
    refine wl (ro_move rfl) ?_
    refine wl (ro_move rfl) ?_
    refine wl_call rfl en_133 (failM (x := 6) (by decide) M3) ?_
    rintro _ u7 ⟨rfl, M7, G7⟩
    replace hF := hF.transG G7 (by intro k hk h; simp only [one, none', fre] at h ⊢ <;> omega)
    refine wl (ro_assign rfl) ?_
    refine wl_nil (x_then (hK7 _ _ ?_))
    clear hK7 K7
    refine c_ret (x_thenR ?_)
    refine bp_ret Tryz.results232 rfl ?_
    refine ⟨.inl ⟨_, _, _, rfl, M7, fun rg => ca_startF rfl (.inr (.inl ?_))⟩, hF⟩
    rw [hts]
    show (hdT (tsA s (p + 1))).k = 41
    exact ((lk_kind hcc hb6).1).2 rfl
  · try simp only [decide_eq_true_eq, decide_eq_false_iff_not, Bool.not_eq_true', Bool.not_eq_false', Bool.not_eq_eq_eq_not, Bool.not_true, Bool.not_false, beq_iff_eq, bne_iff_ne, ne_eq, beq_eq_false_iff_ne, bne_eq_false_iff_eq, gt_iff_lt, ge_iff_le, Int.not_lt, Int.not_le] at hc21
    refine c_skip (x_then (hK4 _ _ ?_))
    clear hK4 K4
    refine forget [(0, _), (1, _), (2, _), (7, _), (8, _)] ⟨rfl, rfl, rfl, rfl, rfl, trivial⟩ (fun e => ?_)
    refine c_seq (fun K8 hK8 => ?_)
    refine c_block ?_
    -- loop@r6: live slots [0, 1, 2, 7, 8]
    have hst : CLS f (⟨5, 0, f, zR⟩ :: tsA s p) s p ar (lk s (p + 1)) ar (lkc s (p + 1) false).2 (-1) 0 := by
      cases hb5 : (lkc s (p + 1) false).2 with
      | true =>
        refine .inl ⟨rfl, fun rg => ca_startF rfl (.inr (.inr ?_))⟩
        rw [hts]
        show (hdT (tsA s (p + 1))).k = 1
        rcases lk_cs s (p + 1) with ⟨h1, h2⟩ | ⟨h1, h2, h3⟩ | ⟨c', h1, h2, -⟩
        · exact h2
        · rw [h1] at hb5; cases hb5
        · rw [h1] at hb5; cases hb5
      | false =>
        have hkd := lk_kind hcc hb5
        refine .inr ⟨rfl, by omega, Nat.zero_le _, fun rg => ?_⟩
        have := ca_start (rg := rg) (t := ⟨5, 0, f, zR⟩) (ts := tsA s p) (ar := ar) rfl (by rw [hts]; rfl) (by rw [hts]; show (hdT (tsA s (p + 1))).k ≠ 41; exact fun hh => hc21 (by rw [hkd.1.1 hh]; rfl)) (by rw [hts]; exact hkd.2.2.2.2)
        rw [tsA_lk]
        rw [hts] at this ⊢
        exact this
    refine c_loopG (fun m a' w' => ∃ (p1 : Nat) (ar1 : List Nd) (b : Bool) (l : Int) (k : Nat), m = (if b = true then 0 else s.length + 1 - p1) ∧ CLS f (⟨5, 0, f, zR⟩ :: tsA s p) s p ar p1 ar1 b l k ∧ MR w' pb n0 s p1 ar1 b ∧ Fram (fre n0) w w' ∧ ∃ e, a' = Fr 88 (upds e [(0, ptr pb), (1, i64c f), (2, icv a), (7, icv l), (8, i64c k)]) []) _ ⟨_, _, _, _, _, rfl, hst, M2, hF, kp _ ⟨rfl, rfl, rfl, rfl, rfl, trivial⟩⟩ ?_
    clear hst M2 hF
    rintro mm a' u3 ⟨p1, ar1, b, l, k, rfl, hcs, M1, hF, e, rfl⟩
    have Mc := M1
    obtain ⟨V, er, at', M, hbb⟩ := Mc
    have hB := M.blk
    have hpl := M.pl
    have hl24 := M.l24
    refine c_seq (fun K9 hK9 => ?_)
    refine c_seq (fun K10 hK10 => ?_)
    refine c_reg ?_ -- region 6 formm.go:137
    refine wl (ro_move rfl) ?_
    refine wl (ro_nilCheck rfl) ?_
    refine wl (ro_fieldAddr (k := 3) rfl fo_168_3) ?_
    refine wl (ro_loadB rfl sc_26 (hB) (rfl)) ?_
    refine wl (ro_cmp (r := decide (er = 0)) rfl rfl (congrArg some (by by_cases h : er = 0 <;> simp [h]))) ?_
    refine wl_nil (x_then (hK10 _ _ ?_))
    clear hK10 K10
    refine wc_cond rfl (fun hc36 => ?_) (fun hc36 => ?_)
    · try simp only [decide_eq_true_eq, decide_eq_false_iff_not, Bool.not_eq_true', Bool.not_eq_false', Bool.not_eq_eq_eq_not, Bool.not_true, Bool.not_false, beq_iff_eq, bne_iff_ne, ne_eq, beq_eq_false_iff_ne, bne_eq_false_iff_eq, gt_iff_lt, ge_iff_le, Int.not_lt, Int.not_le] at hc36
      have hbf : b = false := by rw [← hbb]; simp [hc36]
      obtain ⟨hp1, hk1, hca⟩ : p < p1 ∧ k ≤ p1 ∧ ∀ rg, CaO f k l rg (⟨5, 0, f, zR⟩ :: tsA s p) ar (tsA s p1) ar1 := by
        rcases hcs with ⟨h1, -⟩ | ⟨-, h2⟩
        · rw [hbf] at h1; cases h1
        · exact h2
      rw [hbf] at M1
      refine c_skip (x_then (hK9 _ _ ?_))
      clear hK9 K9
      refine c_block ?_
      refine forget [(0, _), (1, _), (2, _), (7, _), (8, _)] ⟨rfl, rfl, rfl, rfl, rfl, trivial⟩ (fun e => ?_)
      refine c_seq (fun K11 hK11 => ?_)
      refine c_reg ?_ -- region 7 formm.go:138
      refine wl (ro_move rfl) ?_
      refine wl_call rfl en_196 (RangeOK196) ?_
      rintro _ _ ⟨rfl, rfl⟩
      refine wl (ro_assign rfl) ?_
      refine wl_nil (x_then (hK11 _ _ ?_))
      clear hK11 K11
      refine forget [(0, _), (1, _), (2, _), (7, _), (8, _), (9, _)] ⟨rfl, rfl, rfl, rfl, rfl, rfl, trivial⟩ (fun e => ?_)
      refine c_seq (fun K12 hK12 => ?_)
      refine c_reg ?_ -- region 8 formm.go:139
      refine wl (ro_move rfl) ?_
      refine wl (ro_move rfl) ?_
      refine wl_call rfl en_131 (hE (rg := rangeOK f) M1 (by omega)) ?_
      rintro _ u4 ⟨hG, G4⟩
      replace hF := hF.transG G4 (by intro k hk h; simp only [one, none', fre] at h ⊢ <;> omega)
      obtain ⟨p2, ar2, b2, z2, rfl, M4, hcs2⟩ := hG.uni
      refine wl (ro_assign rfl) ?_
      refine wl_nil (x_then (hK12 _ _ ?_))
      clear hK12 K12
      refine forget [(0, _), (1, _), (2, _), (7, _), (8, _), (10, _)] ⟨rfl, rfl, rfl, rfl, rfl, rfl, trivial⟩ (fun e => ?_)
      refine c_seq (fun K13 hK13 => ?_)
      refine c_reg ?_ -- region 9 formm.go:140
      refine wl (ro_move rfl) ?_
      refine wl (ro_move rfl) ?_
      refine wl (ro_move rfl) ?_
      refine wl (ro_build rfl bld_143_0_2_3) ?_
      refine wl_call rfl en_175 (add175 (x := nArgI z2 l) M4) ?_
      rintro _ u5 ⟨rfl, M5, G5⟩
      replace hF := hF.transG G5 (by intro k hk h; simp only [one, none', fre] at h ⊢ <;> omega)
      have hcs3 : ((addX b2 ar2 (nArgI z2 l)).1 = true ∧ ∀ rg, AtF rg (⟨5, 0, f, zR⟩ :: tsA s p) ar) ∨ (b2 = false ∧ z2 = (rt ar2 : Int) ∧ p1 < p2 ∧ 1 ≤ ar2.length ∧ ar2.length < 24 ∧ ExO (rangeOK f) (tsA s p1) ar1 (tsA s p2) ar2) := by
        rcases hcs2 with ⟨rfl, hf | hf⟩ | ⟨rfl, -, rfl, hp2, hl2, ho2⟩
        · cases hf
        · exact .inl ⟨rfl, fun rg => ca_X (hca rg) hf⟩
        · by_cases h24 : ar2.length < 24
          · exact .inr ⟨rfl, rfl, hp2, hl2, h24, ho2⟩
          · exact .inl ⟨by rw [addX_ge h24], fun rg => ca_big (hca rg) ho2 h24⟩
      clear hcs2
      refine wl (ro_assign rfl) ?_
      refine wl_nil (x_then (hK13 _ _ ?_))
      clear hK13 K13
      refine forget [(0, _), (1, _), (2, _), (7, _), (8, _)] ⟨rfl, rfl, rfl, rfl, rfl, trivial⟩ (fun e => ?_)
      refine c_seq (fun K14 hK14 => ?_)
      refine c_reg ?_ -- region 10 formm.go:141
      refine wl (ro_move rfl) ?_
      refine wl (ro_arith (r := ((k + 1 : Nat) : Int)) rfl rfl rfl (Go.IntWalk.i64_in _ (by omega))) ?_
      refine wl (ro_assign rfl) ?_
      refine wl_nil (x_then (hK14 _ _ ?_))
      clear hK14 K14
      refine forget [(0, _), (1, _), (2, _), (7, _), (8, _)] ⟨rfl, rfl, rfl, rfl, rfl, trivial⟩ (fun e => ?_)
      refine c_seq (fun K15 hK15 => ?_)
      refine c_reg ?_ -- region 11 formm.go:142
      refine wl (ro_move rfl) ?_
      refine wl_call rfl en_132 (lookM M5) ?_
      rintro _ u6 ⟨rfl, M6, G6⟩
      replace hF := hF.transG G6 (by intro k hk h; simp only [one, none', fre] at h ⊢ <;> omega)
      generalize hc2 : (lkc s p2 (addX b2 ar2 (nArgI z2 l)).1).1 = c2
      refine wl (ro_assign rfl) ?_
      refine wl_nil (x_then (hK15 _ _ ?_))
      clear hK15 K15
      refine c_seq (fun K16 hK16 => ?_)
      refine c_seq (fun K17 hK17 => ?_)
      refine c_reg ?_ -- region 12 formm.go:143
      refine wl (ro_move rfl) ?_
      refine wl (ro_cmp (r := decide (c2.toNat = 44)) rfl rfl (congrArg some (beqc c2.toNat 44))) ?_
      refine wl_nil (x_then (hK17 _ _ ?_))
      clear hK17 K17
      refine wc_cond rfl (fun hc52 => ?_) (fun hc52 => ?_)
      · try simp only [decide_eq_true_eq, decide_eq_false_iff_not, Bool.not_eq_true', Bool.not_eq_false', Bool.not_eq_eq_eq_not, Bool.not_true, Bool.not_false, beq_iff_eq, bne_iff_ne, ne_eq, beq_eq_false_iff_ne, bne_eq_false_iff_eq, gt_iff_lt, ge_iff_le, Int.not_lt, Int.not_le] at hc52
        have hc2e : (lkc s p2 (addX b2 ar2 (nArgI z2 l)).1).1 = 44 := by rw [hc2]; exact (u8_eq (n := 44) (by omega)).2 hc52
        obtain ⟨hbx, hb6, hs6, -, hts6⟩ := lk_sees hc2e (by decide)
        rw [tkw_sgn hs6 rfl rfl] at hts6
        obtain ⟨rfl, rfl, hp2, hl2, h24, ho2⟩ : b2 = false ∧ z2 = (rt ar2 : Int) ∧ p1 < p2 ∧ 1 ≤ ar2.length ∧ ar2.length < 24 ∧ ExO (rangeOK f) (tsA s p1) ar1 (tsA s p2) ar2 := by
          rcases hcs3 with ⟨h1, -⟩ | h1
          · rw [hbx] at h1; cases h1
          · exact h1
        rw [hb6] at M6
        rw [addX_lt h24] at M6 ⊢
        have hsl6 := (List.getElem?_eq_some_iff.1 hs6).1
        have hlg2 := lk_ge s p2
        obtain ⟨V, er, at', M, hbb⟩ := M6
        have hB := M.blk
        refine c_seq (fun K18 hK18 => ?_)
        refine c_reg ?_ -- region 13 formm.go:144
        refine wl (ro_move rfl) ?_
        refine wl (ro_nilCheck rfl) ?_
        refine wl (ro_fieldAddr (k := 1) rfl fo_168_1) ?_
        refine wl (ro_loadB rfl sc_3 (hB) (rfl)) ?_
        refine wl (ro_arith (r := ((lk s p2 + 1 : Nat) : Int)) rfl rfl rfl (Go.IntWalk.i64_in _ (by omega))) ?_
        refine wl (ro_nilCheck rfl) ?_
        refine wl (ro_fieldAddr (k := 1) rfl fo_168_1) ?_
        refine wl_put rfl rfl rfl sz_3 hB ((by simp)) ((show _ = rdl s (lk s p2 + 1) V er at' from rfl)) (fun w3 hB F3 => ?_)
        replace hF := hF.thenDrew.thenO F3 (by first | exact .inr (by omega) | exact .inl rfl | exact .inl (by assumption))
        have M8 : MR _ pb n0 s (lk s p2 + 1) _ false := ⟨V, er, at', M.look hB F3 (show lk s p2 + 1 ≤ s.length by omega), hbb⟩
        refine wl_nil (x_then (hK18 _ _ ?_))
        clear hK18 K18
        refine c_exit (x_thenX (x_blkX (x_then ?_)))
        refine ⟨s.length + 1 - (lk s p2 + 1), by rw [hbf]; simp only [Bool.false_eq_true, if_false]; omega, lk s p2 + 1, _, false, _, k + 1, by simp, .inr ⟨rfl, by omega, by omega, fun rg => ?_⟩, M8, hF, kp _ ⟨rfl, rfl, rfl, rfl, rfl, trivial⟩⟩
        have := ca_next (hca rg) ho2 h24 (by rw [hts6]; rfl)
        rw [hts6] at this
        exact this
      · try simp only [decide_eq_true_eq, decide_eq_false_iff_not, Bool.not_eq_true', Bool.not_eq_false', Bool.not_eq_eq_eq_not, Bool.not_true, Bool.not_false, beq_iff_eq, bne_iff_ne, ne_eq, beq_eq_false_iff_ne, bne_eq_false_iff_eq, gt_iff_lt, ge_iff_le, Int.not_lt, Int.not_le] at hc52
        refine c_skip (x_then (hK16 _ _ ?_))
        clear hK16 K16
        refine c_seq (fun K19 hK19 => ?_)
        refine c_seq (fun K20 hK20 => ?_)
        refine c_reg ?_ -- region 14 formm.go:147
        refine wl (ro_move rfl) ?_
        refine wl (ro_cmp (r := decide (c2.toNat ≠ 41)) rfl rfl (congrArg some (bnec c2.toNat 41))) ?_
        refine wl_nil (x_then (hK20 _ _ ?_))
        clear hK20 K20
        refine wc_cond rfl (fun hc61 => ?_) (fun hc61 => ?_)
        · try simp only [decide_eq_true_eq, decide_eq_false_iff_not, Bool.not_eq_true', Bool.not_eq_false', Bool.not_eq_eq_eq_not, Bool.not_true, Bool.not_false, beq_iff_eq, bne_iff_ne, ne_eq, beq_eq_false_iff_ne, bne_eq_false_iff_eq, gt_iff_lt, ge_iff_le, Int.not_lt, Int.not_le] at hc61
          have hAF : ∀ rg, AtF rg (⟨5, 0, f, zR⟩ :: tsA s p) ar := by
            rcases hcs3 with ⟨-, h2⟩ | ⟨rfl, rfl, hp2, hl2, h24, ho2⟩
            · exact h2
            · rw [addX_lt h24] at hc2
              intro rg
              cases hb5 : (lkc s p2 false).2 with
              | true =>
                have hk1 : (hdT (tsA s p2)).k = 1 := by
                  rcases lk_cs s p2 with ⟨h1, h2⟩ | ⟨h1, h2, h3⟩ | ⟨c', h1, h2, -⟩
                  · exact h2
                  · rw [h1] at hb5; cases hb5
                  · rw [h1] at hb5; cases hb5
                exact ca_tok (hca rg) ho2 (by omega) (by omega)
              | false =>
                have hkd := lk_kind hc2 hb5
                exact ca_tok (hca rg) ho2 (fun hh => hc52 (by rw [hkd.2.1.1 hh]; rfl)) (fun hh => hc61 (by rw [hkd.1.1 hh]; rfl))
          obtain ⟨V, er, at', M, hbb⟩ := M6
          have hB := M.blk
          refine c_seq (fun K21 hK21 => ?_)
          refine c_reg ?_ -- region 15 formm.go:148
          refine wl (ro_move rfl) ?_
          refine wl (ro_move rfl) ?_
          refine wl (ro_nilCheck rfl) ?_
          refine wl (ro_fieldAddr (k := 1) rfl fo_168_1) ?_
          refine wl (ro_loadB rfl sc_3 (hB) (rfl)) ?_
          refine wl_call rfl en_133 (failM (x := 3) (by decide) ⟨V, er, at', M, hbb⟩) ?_
          rintro _ u7 ⟨rfl, M7, G7⟩
          replace hF := hF.transG G7 (by intro k hk h; simp only [one, none', fre] at h ⊢ <;> omega)
          refine wl (ro_assign rfl) ?_
          refine wl_nil (x_then (hK21 _ _ ?_))
          clear hK21 K21
          refine c_ret (x_thenR (x_blkR (x_thenR (x_blkR (x_thenR ?_)))))
          refine bp_ret Tryz.results232 rfl ?_
          exact ⟨.inl ⟨_, _, _, rfl, M7, hAF⟩, hF⟩
        · try simp only [decide_eq_true_eq, decide_eq_false_iff_not, Bool.not_eq_true', Bool.not_eq_false', Bool.not_eq_eq_eq_not, Bool.not_true, Bool.not_false, beq_iff_eq, bne_iff_ne, ne_eq, beq_eq_false_iff_ne, bne_eq_false_iff_eq, gt_iff_lt, ge_iff_le, Int.not_lt, Int.not_le] at hc61
          have hc2e : (lkc s p2 (addX b2 ar2 (nArgI z2 l)).1).1 = 41 := by rw [hc2]; exact (u8_eq (n := 41) (by decide)).2 (Decidable.not_not.1 hc61)
          obtain ⟨hbx, hb6, hs6, -, hts6⟩ := lk_sees hc2e (by decide)
          rw [tkw_sgn hs6 rfl rfl] at hts6
          obtain ⟨rfl, rfl, hp2, hl2, h24, ho2⟩ : b2 = false ∧ z2 = (rt ar2 : Int) ∧ p1 < p2 ∧ 1 ≤ ar2.length ∧ ar2.length < 24 ∧ ExO (rangeOK f) (tsA s p1) ar1 (tsA s p2) ar2 := by
            rcases hcs3 with ⟨h1, -⟩ | h1
            · rw [hbx] at h1; cases h1
            · exact h1
          rw [hb6] at M6
          rw [addX_lt h24] at M6 ⊢
          have hsl6 := (List.getElem?_eq_some_iff.1 hs6).1
          have hlg2 := lk_ge s p2
          obtain ⟨V, er, at', M, hbb⟩ := M6
          have hB := M.blk
          refine c_skip (x_then (hK19 _ _ ?_))
          clear hK19 K19
          refine forget [(0, _), (1, _), (2, _), (7, _), (8, _)] ⟨rfl, rfl, rfl, rfl, rfl, trivial⟩ (fun e => ?_)
          refine c_seq (fun K22 hK22 => ?_)
          refine c_reg ?_ -- region 16 formm.go:150
          refine wl (ro_move rfl) ?_
          refine wl (ro_nilCheck rfl) ?_
          refine wl (ro_fieldAddr (k := 1) rfl fo_168_1) ?_
          refine wl (ro_loadB rfl sc_3 (hB) (rfl)) ?_
          refine wl (ro_arith (r := ((lk s p2 + 1 : Nat) : Int)) rfl rfl rfl (Go.IntWalk.i64_in _ (by omega))) ?_
          refine wl (ro_nilCheck rfl) ?_
          refine wl (ro_fieldAddr (k := 1) rfl fo_168_1) ?_
          refine wl_put rfl rfl rfl sz_3 hB ((by simp)) ((show _ = rdl s (lk s p2 + 1) V er at' from rfl)) (fun w4 hB F4 => ?_)
          replace hF := hF.thenDrew.thenO F4 (by first | exact .inr (by omega) | exact .inl rfl | exact .inl (by assumption))
          have M8 : MR _ pb n0 s (lk s p2 + 1) _ false := ⟨V, er, at', M.look hB F4 (show lk s p2 + 1 ≤ s.length by omega), hbb⟩
          refine wl_nil (x_then (hK22 _ _ ?_))
          clear hK22 K22
          refine c_exit (x_blkY rfl (x_thenX (x_blkX (x_then (hK8 _ _ ?_)))))
          clear hK8 K8
          refine c_seq (fun K23 hK23 => ?_)
          refine c_seq (fun K24 hK24 => ?_)
          refine c_reg ?_ -- region 17 formm.go:153
          refine wl (ro_move rfl) ?_
          refine wl (ro_move rfl) ?_
          refine wl_call rfl en_195 (Arity195) ?_
          rintro _ _ ⟨rfl, rfl⟩
          refine wl (ro_not rfl) ?_
          refine wl_nil (x_then (hK24 _ _ ?_))
          clear hK24 K24
          refine wc_cond rfl (fun hc78 => ?_) (fun hc78 => ?_)
          · try simp only [decide_eq_true_eq, decide_eq_false_iff_not, Bool.not_eq_true', Bool.not_eq_false', Bool.not_eq_eq_eq_not, Bool.not_true, Bool.not_false, beq_iff_eq, bne_iff_ne, ne_eq, beq_eq_false_iff_ne, bne_eq_false_iff_eq, gt_iff_lt, ge_iff_le, Int.not_lt, Int.not_le] at hc78
            refine c_seq (fun K25 hK25 => ?_)
            refine c_reg ?_ -- region 18 formm.go:154
            refine wl (ro_move rfl) ?_
            refine wl (ro_move rfl) ?_
            refine wl_call rfl en_133 (failM (x := 6) (by decide) M8) ?_
            rintro _ u9 ⟨rfl, M9, G9⟩
            replace hF := hF.transG G9 (by intro k hk h; simp only [one, none', fre] at h ⊢ <;> omega)
            refine wl (ro_assign rfl) ?_
            refine wl_nil (x_then (hK25 _ _ ?_))
            clear hK25 K25
            refine c_ret (x_thenR ?_)
            refine bp_ret Tryz.results232 rfl ?_
            exact ⟨.inl ⟨_, _, _, rfl, M9, fun rg => ca_args (hca rg) ho2 (by rw [hts6]; rfl) (by simpa using hc78)⟩, hF⟩
          · try simp only [decide_eq_true_eq, decide_eq_false_iff_not, Bool.not_eq_true', Bool.not_eq_false', Bool.not_eq_eq_eq_not, Bool.not_true, Bool.not_false, beq_iff_eq, bne_iff_ne, ne_eq, beq_eq_false_iff_ne, bne_eq_false_iff_eq, gt_iff_lt, ge_iff_le, Int.not_lt, Int.not_le] at hc78
            refine c_skip (x_then (hK23 _ _ ?_))
            clear hK23 K23
            refine forget [(0, _), (1, _), (7, _), (8, _)] ⟨rfl, rfl, rfl, rfl, trivial⟩ (fun e => ?_)
            refine c_seq (fun K26 hK26 => ?_)
            refine c_reg ?_ -- region 19 formm.go:156
            refine wl (ro_move rfl) ?_
            refine wl (ro_move rfl) ?_
            refine wl (ro_move rfl) ?_
            refine wl (ro_move rfl) ?_
            refine wl (ro_build rfl bld_143_0_1_2_3_4) ?_
            refine wl_call rfl en_175 (add175 (x := nCall f (ar2.length : Int) (k + 1)) M8) ?_
            rintro _ u9 ⟨rfl, M9, G9⟩
            replace hF := hF.transG G9 (by intro k hk h; simp only [one, none', fre] at h ⊢ <;> omega)
            refine wl (ro_assign rfl) ?_
            refine wl_nil (x_then (hK26 _ _ ?_))
            clear hK26 K26
            refine c_ret ?_
            refine bp_ret Tryz.results232 rfl ?_
            refine ⟨?_, hF⟩
            by_cases h24b : ar2.length + 1 < 24
            · rw [addX_lt (by simpa using h24b)] at M9 ⊢
              refine .inr ⟨_, _, by rw [rt_app]; rfl, M9, by omega, by simp, fun rg => ?_⟩
              have := ca_end (hca rg) ho2 h24 (by rw [hts6]; rfl) (by simpa using hc78) h24b
              rw [hts6] at this
              exact this
            · rw [addX_ge (by simpa using h24b)] at M9 ⊢
              exact .inl ⟨_, _, _, rfl, M9, fun rg => ca_endF (hca rg) ho2 (by rw [hts6]; rfl) h24b⟩
    · try simp only [decide_eq_true_eq, decide_eq_false_iff_not, Bool.not_eq_true', Bool.not_eq_false', Bool.not_eq_eq_eq_not, Bool.not_true, Bool.not_false, beq_iff_eq, bne_iff_ne, ne_eq, beq_eq_false_iff_ne, bne_eq_false_iff_eq, gt_iff_lt, ge_iff_le, Int.not_lt, Int.not_le] at hc36
      have hbt : b = true := by rw [← hbb]; simp [hc36]
      have hAF : ∀ rg, AtF rg (⟨5, 0, f, zR⟩ :: tsA s p) ar := by
        rcases hcs with ⟨-, h2⟩ | ⟨h1, -⟩
        · exact h2
        · rw [hbt] at h1; cases h1
      rw [hbt] at M1
      have M8 := M1
      refine c_exit (x_thenX (x_thenX (x_blkX (x_then (hK8 _ _ ?_)))))
      clear hK9 K9 hK8 K8
      refine c_seq (fun K27 hK27 => ?_)
      refine c_seq (fun K28 hK28 => ?_)
      refine c_reg ?_ -- region 17 formm.go:153
      refine wl (ro_move rfl) ?_
      refine wl (ro_move rfl) ?_
      refine wl_call rfl en_195 (Arity195) ?_
      rintro _ _ ⟨rfl, rfl⟩
      refine wl (ro_not rfl) ?_
      refine wl_nil (x_then (hK28 _ _ ?_))
      clear hK28 K28
      refine wc_cond rfl (fun hc78 => ?_) (fun hc78 => ?_)
      · try simp only [decide_eq_true_eq, decide_eq_false_iff_not, Bool.not_eq_true', Bool.not_eq_false', Bool.not_eq_eq_eq_not, Bool.not_true, Bool.not_false, beq_iff_eq, bne_iff_ne, ne_eq, beq_eq_false_iff_ne, bne_eq_false_iff_eq, gt_iff_lt, ge_iff_le, Int.not_lt, Int.not_le] at hc78
        refine c_seq (fun K29 hK29 => ?_)
        refine c_reg ?_ -- region 18 formm.go:154
        refine wl (ro_move rfl) ?_
        refine wl (ro_move rfl) ?_
        refine wl_call rfl en_133 (failM (x := 6) (by decide) M8) ?_
        rintro _ u9 ⟨rfl, M9, G9⟩
        replace hF := hF.transG G9 (by intro k hk h; simp only [one, none', fre] at h ⊢ <;> omega)
        refine wl (ro_assign rfl) ?_
        refine wl_nil (x_then (hK29 _ _ ?_))
        clear hK29 K29
        refine c_ret (x_thenR ?_)
        refine bp_ret Tryz.results232 rfl ?_
        exact ⟨.inl ⟨_, _, _, rfl, M9, hAF⟩, hF⟩
      · try simp only [decide_eq_true_eq, decide_eq_false_iff_not, Bool.not_eq_true', Bool.not_eq_false', Bool.not_eq_eq_eq_not, Bool.not_true, Bool.not_false, beq_iff_eq, bne_iff_ne, ne_eq, beq_eq_false_iff_ne, bne_eq_false_iff_eq, gt_iff_lt, ge_iff_le, Int.not_lt, Int.not_le] at hc78
        refine c_skip (x_then (hK27 _ _ ?_))
        clear hK27 K27
        refine forget [(0, _), (1, _), (7, _), (8, _)] ⟨rfl, rfl, rfl, rfl, trivial⟩ (fun e => ?_)
        refine c_seq (fun K30 hK30 => ?_)
        refine c_reg ?_ -- region 19 formm.go:156
        refine wl (ro_move rfl) ?_
        refine wl (ro_move rfl) ?_
        refine wl (ro_move rfl) ?_
        refine wl (ro_move rfl) ?_
        refine wl (ro_build rfl bld_143_0_1_2_3_4) ?_
        refine wl_call rfl en_175 (add175 (x := nCall f l k) M8) ?_
        rintro _ u9 ⟨rfl, M9, G9⟩
        replace hF := hF.transG G9 (by intro k hk h; simp only [one, none', fre] at h ⊢ <;> omega)
        refine wl (ro_assign rfl) ?_
        refine wl_nil (x_then (hK30 _ _ ?_))
        clear hK30 K30
        refine c_ret ?_
        refine bp_ret Tryz.results232 rfl ?_
        exact ⟨.inl ⟨_, _, _, rfl, M9, hAF⟩, hF⟩

end Go.Proofs.Qxb6500570aGreat
