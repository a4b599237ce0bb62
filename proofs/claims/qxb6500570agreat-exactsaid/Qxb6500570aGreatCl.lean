import Derived.Test.Qxb6500570aGreatCk
/- The model's reader: names. -/
namespace Go.Proofs.Qxb6500570aGreat
set_option linter.unusedVariables false
set_option linter.unusedSimpArgs false

theorem wordM {w : World} {pb n0 : Nat} {s : List UInt8} {p : Nat} {ar : List Nd} {bad : Bool} (h : MR w pb n0 s p ar bad) :
    Ret Tryz.prog 229 [ptr pb] w (fun v w' => v = S ((s.drop p).takeWhile wy) ∧ MR w' pb n0 s (p + ((s.drop p).takeWhile wy).length) ar bad ∧ Fram (one pb) w w') := by
  obtain ⟨V, er, at', M, rfl⟩ := h
  refine (word229 M.sl40 M.pl M.blk).mono ?_
  rintro v w' ⟨hv, hB, hF⟩
  have hl := tw_le wy (s.drop p)
  rw [List.length_drop] at hl
  have := M.pl
  exact ⟨hv, ⟨V, er, at', M.look hB hF (by omega), rfl⟩, hF⟩
theorem refOf_ndg {c : UInt8} {t : List UInt8} (h : dg c = true) : refOf (c :: t) = none := by
  have h1 := dg_iff.1 h
  have h2 : c ≠ 36 := by rintro rfl; revert h; decide
  have h3 : cp c = false := cp_not.2 (by omega)
  unfold refOf
  simp only [if_neg h2]
  exact refB_ncp h3 t
/-- A word that is a reference, and the token there. -/
theorem ref_tok {s : List UInt8} {q : Nat} (hq : lk s q = q) : (∀ r, refOf ((s.drop q).takeWhile wy) = some r → tsA s q = ⟨4, 0, 0, r⟩ :: tsA s (q + ((s.drop q).takeWhile wy).length)) ∧ (refOf ((s.drop q).takeWhile wy) = none → (hdT (tsA s q)).k ≠ 4) := by
  cases h : s[q]? with
  | none =>
    have hl := List.getElem?_eq_none_iff.1 h
    rw [List.drop_eq_nil_of_le hl, tsA_end hl]
    exact ⟨fun r hr => (by cases hr), fun _ => by decide⟩
  | some c =>
    have hc : c ≠ 32 := lk_stop (p := q) (by rw [hq]; exact h)
    have hts := tsA_cons h hc
    cases hd : dg c with
    | true =>
      have hw : wy c = true := wy_iff.2 (.inr (.inl (dg_iff.1 hd)))
      have hno : refOf ((s.drop q).takeWhile wy) = none := by rw [drop_get h, List.takeWhile_cons_of_pos hw]; exact refOf_ndg hd
      rw [hno, hts, tkw_dg h hd]
      refine ⟨fun r hr => (by cases hr), fun _ => ?_⟩
      show (numT ((s.drop q).takeWhile dg)).k ≠ 4
      rcases numT_k ((s.drop q).takeWhile dg) with h | h <;> omega
    | false =>
      cases hw : wy c with
      | true =>
        rw [hts, tkw_wy h hd hw]
        refine ⟨fun r hr => ?_, fun hr => ?_⟩
        · show wordT _ :: _ = _
          unfold wordT
          rw [hr]
        · show (wordT ((s.drop q).takeWhile wy)).k ≠ 4
          unfold wordT
          rw [hr]
          simp only
          split
          · decide
          · split
            · decide
            · split
              · decide
              · show (5 : Nat) ≠ 4; decide
      | false =>
        have hno : (s.drop q).takeWhile wy = [] := by rw [drop_get h, List.takeWhile_cons_of_neg (by simp [hw])]
        rw [hno, hts, tkw_sgn h hd hw]
        refine ⟨fun r hr => (by cases hr), fun _ => ?_⟩
        show (sgnT c _).1.k ≠ 4
        unfold sgnT
        split
        · rename_i h
          rcases h with rfl | rfl | rfl | rfl <;> decide
        · repeat' split
          all_goals decide

end Go.Proofs.Qxb6500570aGreat
