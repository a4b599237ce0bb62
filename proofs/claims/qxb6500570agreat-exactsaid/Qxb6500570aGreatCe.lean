import Derived.Test.Qxb6500570aGreatCd
/- The model's reader: what a look tells of the tokens. -/
namespace Go.Proofs.Qxb6500570aGreat
set_option linter.unusedVariables false
set_option linter.unusedSimpArgs false

/-- The tokens from a place on. -/
abbrev tsA (s : List UInt8) (p : Nat) : List Tk := toks (s.drop p)
theorem tsA_lk (s : List UInt8) (p : Nat) : tsA s (lk s p) = tsA s p := lk_toks s _ p (Nat.le_refl _)
theorem tsA_end {s : List UInt8} {p : Nat} (h : s.length ≤ p) : tsA s p = [] := by unfold tsA; rw [List.drop_eq_nil_of_le h]; rfl
theorem tsA_cons {s : List UInt8} {q : Nat} {c : UInt8} (h : s[q]? = some c) (hc : c ≠ 32) : tsA s q = (tkw (s.drop q)).1 :: tsA s (q + (tkw (s.drop q)).2) := by
  unfold tsA
  have h1 := drop_get h
  rw [h1, toks_cons hc, ← h1, List.drop_drop]
theorem tkw_sgn {s : List UInt8} {q : Nat} {c : UInt8} (h : s[q]? = some c) (hd : dg c = false) (hw : wy c = false) : tkw (s.drop q) = sgnT c ((s.drop (q + 1)).headD 0) := by
  rw [drop_get h]
  unfold tkw
  simp only [hd, hw, Bool.false_eq_true, if_false]
theorem tkw_dg {s : List UInt8} {q : Nat} {c : UInt8} (h : s[q]? = some c) (hd : dg c = true) : tkw (s.drop q) = (numT ((s.drop q).takeWhile dg), ((s.drop q).takeWhile dg).length) := by
  rw [drop_get h]
  unfold tkw
  simp only [hd, if_true]
theorem tkw_wy {s : List UInt8} {q : Nat} {c : UInt8} (h : s[q]? = some c) (hd : dg c = false) (hw : wy c = true) : tkw (s.drop q) = (wordT ((s.drop q).takeWhile wy), ((s.drop q).takeWhile wy).length) := by
  rw [drop_get h]
  unfold tkw
  simp only [hd, hw, Bool.false_eq_true, if_false, if_true]
theorem numT_k (d : List UInt8) : (numT d).k = 2 ∨ (numT d).k = 3 := by
  unfold numT
  split
  · exact .inr rfl
  · exact .inl rfl
theorem wordT_k (d : List UInt8) : (wordT d).k = 2 ∨ (wordT d).k = 3 ∨ (wordT d).k = 4 ∨ (wordT d).k = 5 := by
  unfold wordT
  split
  · exact .inr (.inr (.inl rfl))
  · split
    · exact .inl rfl
    · split
      · exact .inl rfl
      · split
        · exact .inr (.inl rfl)
        · exact .inr (.inr (.inr rfl))

/-- The three sights: a byte that opens no token, the end, a token. -/
theorem lk_cs (s : List UInt8) (p : Nat) : (lkc s p false = (0, true) ∧ (hdT (tsA s p)).k = 1) ∨ (lkc s p false = (0, false) ∧ tsA s p = [] ∧ s.length ≤ lk s p)
    ∨ ∃ c, lkc s p false = (c, false) ∧ s[lk s p]? = some c ∧ c ≠ 32 ∧ knP c.toNat ∧ tsA s p = (tkw (s.drop (lk s p))).1 :: tsA s (lk s p + (tkw (s.drop (lk s p))).2) := by
  cases h : s[lk s p]? with
  | none =>
    right; left
    have hl := List.getElem?_eq_none_iff.1 h
    refine ⟨by unfold lkc; rw [if_neg (by decide), h], ?_, hl⟩
    rw [← tsA_lk]
    exact tsA_end hl
  | some c =>
    have hc := lk_stop h
    have ht : tsA s p = (tkw (s.drop (lk s p))).1 :: tsA s (lk s p + (tkw (s.drop (lk s p))).2) := by rw [← tsA_lk]; exact tsA_cons h hc
    by_cases hk : knP c.toNat
    · exact .inr (.inr ⟨c, by unfold lkc; rw [if_neg (by decide), h]; simp only; rw [if_pos hk], rfl, hc, hk, ht⟩)
    · left
      refine ⟨by unfold lkc; rw [if_neg (by decide), h]; simp only; rw [if_neg hk], ?_⟩
      rw [ht]
      show (tkw (s.drop (lk s p))).1.k = 1
      have hd : dg c = false := dg_not.2 (fun hh => hk (.inl hh))
      have hw : wy c = false := by
        rw [wy_not]
        intro hh
        apply hk
        unfold knP knS
        omega
      rw [tkw_sgn h hd hw]
      have hne : ∀ n : Nat, n < 256 → knS n → c ≠ UInt8.ofNat n := fun n hn hkn e => hk (.inr (.inr (by rw [(u8_eq hn).1 e]; exact hkn)))
      unfold sgnT
      rw [if_neg (fun hh => by
            rcases hh with hh | hh | hh | hh
            · exact hne 40 (by omega) (by unfold knS; omega) hh
            · exact hne 41 (by omega) (by unfold knS; omega) hh
            · exact hne 44 (by omega) (by unfold knS; omega) hh
            · exact hne 58 (by omega) (by unfold knS; omega) hh),
        if_neg (show ¬ c = 43 from fun hh => hne 43 (by omega) (by unfold knS; omega) hh), if_neg (show ¬ c = 45 from fun hh => hne 45 (by omega) (by unfold knS; omega) hh), if_neg (show ¬ c = 42 from fun hh => hne 42 (by omega) (by unfold knS; omega) hh),
        if_neg (show ¬ c = 47 from fun hh => hne 47 (by omega) (by unfold knS; omega) hh), if_neg (show ¬ c = 61 from fun hh => hne 61 (by omega) (by unfold knS; omega) hh), if_neg (show ¬ c = 60 from fun hh => hne 60 (by omega) (by unfold knS; omega) hh),
        if_neg (show ¬ c = 62 from fun hh => hne 62 (by omega) (by unfold knS; omega) hh), if_neg (show ¬ c = 35 from fun hh => hne 35 (by omega) (by unfold knS; omega) hh)]

/-- What the reader's functions leave. -/
def GO (F : List Tk → List Nd → Prop) (O : List Tk → List Nd → List Tk → List Nd → Prop) (w' : World) (pb n0 : Nat) (s : List UInt8) (p : Nat) (ar : List Nd) (bad : Bool) (v : Value) : Prop :=
  (∃ (p' : Nat) (ar' : List Nd) (z : Int), v = icv z ∧ MR w' pb n0 s p' ar' true ∧ (bad = true ∨ F (tsA s p) ar))
  ∨ (∃ (p' : Nat) (ar' : List Nd), bad = false ∧ v = i64c (rt ar') ∧ MR w' pb n0 s p' ar' false ∧ p < p' ∧ 1 ≤ ar'.length ∧ O (tsA s p) ar (tsA s p') ar')
def ExC (n : Nat) : Prop := ∀ {w : World} {pb n0 : Nat} {s : List UInt8} {p : Nat} {ar : List Nd} {bad rg : Bool}, MR w pb n0 s p ar bad → s.length - p ≤ n →
  Ret Tryz.prog 131 [ptr pb, .bool rg] w (fun v w' => GO (ExF rg) (ExO rg) w' pb n0 s p ar bad v ∧ Fram (fre n0) w w')
def UnC (n : Nat) : Prop := ∀ {w : World} {pb n0 : Nat} {s : List UInt8} {p : Nat} {ar : List Nd} {bad rg : Bool}, MR w pb n0 s p ar bad → s.length - p ≤ n →
  Ret Tryz.prog 203 [ptr pb, .bool rg] w (fun v w' => GO (AtF rg) (AtO rg) w' pb n0 s p ar bad v ∧ Fram (fre n0) w w')
def AtC (n : Nat) : Prop := ∀ {w : World} {pb n0 : Nat} {s : List UInt8} {p : Nat} {ar : List Nd} {bad rg : Bool}, MR w pb n0 s p ar bad → s.length - p ≤ n → (lkc s p bad).1 ≠ 45 →
  Ret Tryz.prog 218 [ptr pb, .bool rg] w (fun v w' => GO (AtF rg) (AtO rg) w' pb n0 s p ar bad v ∧ Fram (fre n0) w w')

end Go.Proofs.Qxb6500570aGreat
