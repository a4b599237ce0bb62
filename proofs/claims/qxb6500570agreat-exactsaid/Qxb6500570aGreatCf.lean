import Derived.Test.Qxb6500570aGreatCe
/- The model's reader: signs. -/
namespace Go.Proofs.Qxb6500570aGreat
set_option linter.unusedVariables false
set_option linter.unusedSimpArgs false

theorem lkc_again (s : List UInt8) (p : Nat) (bad : Bool) : lkc s (lk s p) (lkc s p bad).2 = lkc s p bad ∨ (lkc s p bad = (0, true) ∧ lkc s (lk s p) (lkc s p bad).2 = (0, true)) := by
  cases bad with
  | true => exact .inr ⟨rfl, rfl⟩
  | false =>
    have hl := lk_lk (s := s) _ p (Nat.le_refl _)
    rcases lk_cs s p with ⟨h1, h2⟩ | ⟨h1, h2, h3⟩ | ⟨c, h1, h2, -⟩
    · exact .inr ⟨h1, by rw [h1]; rfl⟩
    · left; rw [h1]; unfold lkc at h1 ⊢; rw [hl]; exact h1
    · left; rw [h1]; unfold lkc at h1 ⊢; rw [hl]; exact h1
theorem lkc_again1 (s : List UInt8) (p : Nat) (bad : Bool) : (lkc s (lk s p) (lkc s p bad).2).1 = (lkc s p bad).1 := by
  rcases lkc_again s p bad with h | ⟨h1, h2⟩
  · rw [h]
  · rw [h2, h1]
theorem GO.look {F : List Tk → List Nd → Prop} {O : List Tk → List Nd → List Tk → List Nd → Prop} {w' : World} {pb n0 : Nat} {s : List UInt8} {p : Nat} {ar : List Nd} {bad : Bool} {v : Value} (h : GO F O w' pb n0 s (lk s p) ar (lkc s p bad).2 v)
    (hF : (hdT (tsA s p)).k = 1 → F (tsA s p) ar) : GO F O w' pb n0 s p ar bad v := by
  rcases h with ⟨p', ar', z, hv, M, hb⟩ | ⟨p', ar', hb, hv, M, hp, hl, ho⟩
  · refine .inl ⟨p', ar', z, hv, M, ?_⟩
    cases bad with
    | true => exact .inl rfl
    | false =>
      right
      rcases hb with hb | hb
      · rcases lk_cs s p with ⟨h1, h2⟩ | ⟨h1, h2, h3⟩ | ⟨c, h1, h2, -⟩
        · exact hF h2
        · rw [h1] at hb; cases hb
        · rw [h1] at hb; cases hb
      · rw [tsA_lk] at hb; exact hb
  · cases bad with
    | true => cases hb
    | false =>
      rw [tsA_lk] at ho
      exact .inr ⟨p', ar', rfl, hv, M, by have := lk_ge s p; omega, hl, ho⟩
theorem GO.uni {F : List Tk → List Nd → Prop} {O : List Tk → List Nd → List Tk → List Nd → Prop} {w' : World} {pb n0 : Nat} {s : List UInt8} {p : Nat} {ar : List Nd} {bad : Bool} {v : Value} (h : GO F O w' pb n0 s p ar bad v) :
    ∃ (p' : Nat) (ar' : List Nd) (b : Bool) (z : Int), v = icv z ∧ MR w' pb n0 s p' ar' b ∧ ((b = true ∧ (bad = true ∨ F (tsA s p) ar)) ∨ (b = false ∧ bad = false ∧ z = (rt ar' : Int) ∧ p < p' ∧ 1 ≤ ar'.length ∧ O (tsA s p) ar (tsA s p') ar')) := by
  rcases h with ⟨p', ar', z, hv, M, hb⟩ | ⟨p', ar', hb, hv, M, hp, hl, ho⟩
  · exact ⟨p', ar', true, z, hv, M, .inl ⟨rfl, hb⟩⟩
  · exact ⟨p', ar', false, _, hv, M, .inr ⟨rfl, hb, rfl, hp, hl, ho⟩⟩
/-- A look that sees a byte. -/
theorem lk_sees {s : List UInt8} {p : Nat} {bad : Bool} {c : UInt8} (h : (lkc s p bad).1 = c) (hc : c ≠ 0) : bad = false ∧ (lkc s p bad).2 = false ∧ s[lk s p]? = some c ∧ c ≠ 32 ∧ tsA s p = (tkw (s.drop (lk s p))).1 :: tsA s (lk s p + (tkw (s.drop (lk s p))).2) := by
  cases bad with
  | true => exact absurd h.symm hc
  | false =>
    rcases lk_cs s p with ⟨h1, h2⟩ | ⟨h1, h2, h3⟩ | ⟨c', h1, h2, h3, h4, h5⟩
    · rw [h1] at h; exact absurd h.symm hc
    · rw [h1] at h; exact absurd h.symm hc
    · rw [h1] at h
      have : c' = c := h
      subst this
      exact ⟨rfl, by rw [h1], h2, h3, h5⟩
theorem at_char {rg : Bool} {ts : List Tk} {ar : List Nd} (h : (hdT ts).k = 1) : AtF rg ts ar := at_bad (by omega) (by omega) (by omega) (by omega) (by omega)

set_option maxHeartbeats 4000000 in
theorem un_step {n : Nat} (hA : AtC n) (hU : ∀ m, n = m + 1 → UnC m) : UnC n := by
  intro w pb n0 s p ar bad rg h hn
  have hF : Fram (fre n0) w w := Fram.refl _ _
  have hlg := lk_ge s p
  have hn0 : n0 ≤ pb := by obtain ⟨V, er, at', M, _⟩ := h; exact M.lo
  refine ret_of Tryz.func203 rfl Tryz.ntmps203 rfl ?_
  refine c_seq (fun K1 hK1 => ?_)
  refine c_reg ?_ -- region 0 formm.go:232
  refine wl (ro_assign rfl) ?_
  refine wl_nil (x_then (hK1 _ _ ?_))
  clear hK1 K1
  refine c_seq (fun K2 hK2 => ?_)
  refine c_seq (fun K3 hK3 => ?_)
  refine c_reg ?_ -- region 1 formm.go:233
  refine wl (ro_move rfl) ?_
  refine wl_call rfl en_132 (lookM h) ?_
  rintro _ u1 ⟨rfl, M1, G1⟩
  replace hF := hF.transG G1 (by intro k hk h; simp only [one, none', fre] at h ⊢ <;> omega)
  refine wl (ro_cmp (r := decide ((lkc s p bad).1.toNat ≠ 45)) rfl rfl (congrArg some (bnec (lkc s p bad).1.toNat 45))) ?_
  refine wl_nil (x_then (hK3 _ _ ?_))
  clear hK3 K3
  refine wc_cond rfl (fun hc8 => ?_) (fun hc8 => ?_)
  · try simp only [decide_eq_true_eq, decide_eq_false_iff_not, Bool.not_eq_true', Bool.not_eq_false', Bool.not_eq_eq_eq_not, Bool.not_true, Bool.not_false, beq_iff_eq, bne_iff_ne, ne_eq, beq_eq_false_iff_ne, bne_eq_false_iff_eq, gt_iff_lt, ge_iff_le, Int.not_lt, Int.not_le] at hc8
    refine c_seq (fun K4 hK4 => ?_)
    refine c_reg ?_ -- region 2 formm.go:234
    refine wl (ro_move rfl) ?_
    refine wl (ro_move rfl) ?_
    refine wl_call rfl en_218 (hA (rg := rg) M1 (by omega) (by rw [lkc_again1]; exact fun hh ↦ hc8 (by rw [hh]; rfl))) ?_
    rintro _ u2 ⟨hG, G2⟩
    replace hF := hF.transG G2 (by intro k hk h; simp only [one, none', fre] at h ⊢ <;> omega)
    refine wl (ro_assign rfl) ?_
    refine wl_nil (x_then (hK4 _ _ ?_))
    clear hK4 K4
    refine c_ret (x_thenR ?_)
    refine bp_ret Tryz.results203 rfl ?_
    exact ⟨hG.look at_char, hF⟩
  · try simp only [decide_eq_true_eq, decide_eq_false_iff_not, Bool.not_eq_true', Bool.not_eq_false', Bool.not_eq_eq_eq_not, Bool.not_true, Bool.not_false, beq_iff_eq, bne_iff_ne, ne_eq, beq_eq_false_iff_ne, bne_eq_false_iff_eq, gt_iff_lt, ge_iff_le, Int.not_lt, Int.not_le] at hc8
    have hc45 : (lkc s p bad).1 = 45 := (u8_eq (n := 45) (by omega)).2 (by omega)
    obtain ⟨hb, hb2, hs45, hn32, hts⟩ := lk_sees hc45 (by decide)
    rw [tkw_sgn hs45 rfl rfl] at hts
    rw [hb2] at M1
    have hsl := (List.getElem?_eq_some_iff.1 hs45).1
    obtain ⟨V, er, at', M, hbad⟩ := M1
    have hB := M.blk
    have hsl4 := M.sl40
    obtain ⟨nm, rfl⟩ : ∃ m, n = m + 1 := ⟨n - 1, by omega⟩
    have hm : fre n0 pb := hn0
    refine c_skip (x_then (hK2 _ _ ?_))
    clear hK2 K2
    refine forget [(0, _)] ⟨rfl, trivial⟩ (fun e => ?_)
    refine c_seq (fun K5 hK5 => ?_)
    refine c_reg ?_ -- region 3 formm.go:236
    refine wl (ro_move rfl) ?_
    refine wl (ro_nilCheck rfl) ?_
    refine wl (ro_fieldAddr (k := 1) rfl fo_168_1) ?_
    refine wl (ro_loadB rfl sc_3 (hB) (rfl)) ?_
    refine wl (ro_arith (r := ((lk s p + 1 : Nat) : Int)) rfl rfl rfl (Go.IntWalk.i64_in _ (by omega))) ?_
    refine wl (ro_nilCheck rfl) ?_
    refine wl (ro_fieldAddr (k := 1) rfl fo_168_1) ?_
    refine wl_put rfl rfl rfl sz_3 hB ((by simp)) ((show _ = rdl s (lk s p + 1) V er at' from rfl)) (fun w1 hB F1 => ?_)
    replace hF := hF.thenDrew.thenO F1 (by first | exact .inr (by omega) | exact .inl rfl | exact .inl (by assumption))
    have M2 := M.look hB F1 (show lk s p + 1 ≤ s.length by omega)
    refine wl_nil (x_then (hK5 _ _ ?_))
    clear hK5 K5
    refine forget [(0, _)] ⟨rfl, trivial⟩ (fun e => ?_)
    refine c_seq (fun K6 hK6 => ?_)
    refine c_reg ?_ -- region 4 formm.go:237
    refine wl (ro_move rfl) ?_
    refine wl_call rfl en_203 (hU nm rfl (rg := false) (bad := false) ⟨V, er, at', M2, hbad⟩ (by omega)) ?_
    rintro _ u3 ⟨hG, G3⟩
    replace hF := hF.transG G3 (by intro k hk h; simp only [one, none', fre] at h ⊢ <;> omega)
    obtain ⟨p', ar', b, z, rfl, M3, hcs⟩ := hG.uni
    refine wl (ro_assign rfl) ?_
    refine wl_nil (x_then (hK6 _ _ ?_))
    clear hK6 K6
    refine forget [(0, _), (5, _)] ⟨rfl, rfl, trivial⟩ (fun e => ?_)
    refine c_seq (fun K7 hK7 => ?_)
    refine c_reg ?_ -- region 5 formm.go:238
    refine wl (ro_move rfl) ?_
    refine wl (ro_move rfl) ?_
    refine wl (ro_build rfl bld_143_0_2_3) ?_
    refine wl_call rfl en_175 (add175 (x := nNegI z) M3) ?_
    rintro _ u4 ⟨rfl, M4, G4⟩
    replace hF := hF.transG G4 (by intro k hk h; simp only [one, none', fre] at h ⊢ <;> omega)
    refine wl (ro_assign rfl) ?_
    refine wl_nil (x_then (hK7 _ _ ?_))
    clear hK7 K7
    refine c_ret ?_
    refine bp_ret Tryz.results203 rfl ?_
    refine ⟨?_, hF⟩
    rcases hcs with ⟨rfl, hf⟩ | ⟨rfl, -, rfl, hp3, hl3, ho3⟩
    · refine .inl ⟨_, _, _, rfl, M4, .inr ?_⟩
      rcases hf with hf | hf
      · cases hf
      · rw [hts]; exact at_negX rfl rfl hf
    · by_cases h24 : ar'.length < 24
      · rw [addX_lt h24] at M4 ⊢
        refine .inr ⟨p', _, hb, by rw [rt_app]; rfl, M4, by omega, by simp, ?_⟩
        rw [hts]
        exact at_negO rfl rfl ho3 h24
      · rw [addX_ge h24] at M4 ⊢
        refine .inl ⟨_, _, _, rfl, M4, .inr ?_⟩
        rw [hts]
        exact at_negF rfl rfl ho3 h24

end Go.Proofs.Qxb6500570aGreat
