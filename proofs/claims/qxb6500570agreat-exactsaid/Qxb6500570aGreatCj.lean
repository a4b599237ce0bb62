import Derived.Test.Qxb6500570aGreatCi
/- The model's reader: calls. -/
namespace Go.Proofs.Qxb6500570aGreat
set_option linter.unusedVariables false
set_option linter.unusedSimpArgs false

/-- What a look tells of two kinds. -/
theorem lk_kind {s : List UInt8} {p : Nat} {c : UInt8} (hc : (lkc s p false).1 = c) (h : (lkc s p false).2 = false) :
    ((hdT (tsA s p)).k = 41 ↔ c = 41) ∧ ((hdT (tsA s p)).k = 44 ↔ c = 44) ∧ ((hdT (tsA s p)).k = 40 ↔ c = 40) ∧ ((hdT (tsA s p)).k = 58 ↔ c = 58) ∧ (hdT (tsA s p)).k ≠ 1 := by
  rcases lk_cs s p with ⟨h1, h2⟩ | ⟨h1, h2, h3⟩ | ⟨c', h1, h2, h3, h4, h5⟩
  · rw [h1] at h; cases h
  · rw [h1] at hc
    have : c = 0 := hc.symm
    subst this
    rw [h2]
    exact ⟨by decide, by decide, by decide, by decide, by decide⟩
  · rw [h1] at hc
    have : c' = c := hc
    subst this
    rw [h5]
    show ((tkw (s.drop (lk s p))).1.k = 41 ↔ c' = 41) ∧ ((tkw (s.drop (lk s p))).1.k = 44 ↔ c' = 44) ∧ ((tkw (s.drop (lk s p))).1.k = 40 ↔ c' = 40) ∧ ((tkw (s.drop (lk s p))).1.k = 58 ↔ c' = 58) ∧ (tkw (s.drop (lk s p))).1.k ≠ 1
    have hno : dg c' = true ∨ wy c' = true → c' ≠ 41 ∧ c' ≠ 44 ∧ c' ≠ 40 ∧ c' ≠ 58 := by
      intro hh
      refine ⟨?_, ?_, ?_, ?_⟩ <;> (rintro rfl; revert hh; decide)
    cases hd : dg c' with
    | true =>
      obtain ⟨e1, e2, e3, e4⟩ := hno (.inl hd)
      rw [tkw_dg h2 hd]
      have hk := numT_k ((s.drop (lk s p)).takeWhile dg)
      simp only [e1, e2, e3, e4, iff_false]
      omega
    | false =>
      cases hw : wy c' with
      | true =>
        obtain ⟨e1, e2, e3, e4⟩ := hno (.inr hw)
        rw [tkw_wy h2 hd hw]
        have hk := wordT_k ((s.drop (lk s p)).takeWhile wy)
        simp only [e1, e2, e3, e4, iff_false]
        omega
      | false =>
        rw [tkw_sgn h2 hd hw]
        generalize (s.drop (lk s p + 1)).headD 0 = d
        have hkn : c' = 40 ∨ c' = 41 ∨ c' = 44 ∨ c' = 58 ∨ c' = 43 ∨ c' = 45 ∨ c' = 42 ∨ c' = 47 ∨ c' = 61 ∨ c' = 60 ∨ c' = 62 ∨ c' = 35 := by
          have hq : c'.toNat = 40 ∨ c'.toNat = 41 ∨ c'.toNat = 44 ∨ c'.toNat = 58 ∨ c'.toNat = 43 ∨ c'.toNat = 45 ∨ c'.toNat = 42 ∨ c'.toNat = 47 ∨ c'.toNat = 61 ∨ c'.toNat = 60 ∨ c'.toNat = 62 ∨ c'.toNat = 35 := by
            rw [dg_not] at hd
            rw [wy_not] at hw
            unfold knP knS at h4
            omega
          rcases hq with q | q | q | q | q | q | q | q | q | q | q | q
          · exact .inl ((u8_eq (n := 40) (by omega)).2 q)
          · exact .inr (.inl ((u8_eq (n := 41) (by omega)).2 q))
          · exact .inr (.inr (.inl ((u8_eq (n := 44) (by omega)).2 q)))
          · exact .inr (.inr (.inr (.inl ((u8_eq (n := 58) (by omega)).2 q))))
          · exact .inr (.inr (.inr (.inr (.inl ((u8_eq (n := 43) (by omega)).2 q)))))
          · exact .inr (.inr (.inr (.inr (.inr (.inl ((u8_eq (n := 45) (by omega)).2 q))))))
          · exact .inr (.inr (.inr (.inr (.inr (.inr (.inl ((u8_eq (n := 42) (by omega)).2 q)))))))
          · exact .inr (.inr (.inr (.inr (.inr (.inr (.inr (.inl ((u8_eq (n := 47) (by omega)).2 q))))))))
          · exact .inr (.inr (.inr (.inr (.inr (.inr (.inr (.inr (.inl (u61 q)))))))))
          · exact .inr (.inr (.inr (.inr (.inr (.inr (.inr (.inr (.inr (.inl (u60 q))))))))))
          · exact .inr (.inr (.inr (.inr (.inr (.inr (.inr (.inr (.inr (.inr (.inl (u62 q)))))))))))
          · exact .inr (.inr (.inr (.inr (.inr (.inr (.inr (.inr (.inr (.inr (.inr ((u8_eq (n := 35) (by omega)).2 q)))))))))))
        rcases hkn with rfl | rfl | rfl | rfl | rfl | rfl | rfl | rfl | rfl | rfl | rfl | rfl
        · exact ⟨by simp [sgnT], by simp [sgnT], by simp [sgnT], by simp [sgnT], by simp [sgnT]⟩
        · exact ⟨by simp [sgnT], by simp [sgnT], by simp [sgnT], by simp [sgnT], by simp [sgnT]⟩
        · exact ⟨by simp [sgnT], by simp [sgnT], by simp [sgnT], by simp [sgnT], by simp [sgnT]⟩
        · exact ⟨by simp [sgnT], by simp [sgnT], by simp [sgnT], by simp [sgnT], by simp [sgnT]⟩
        · exact ⟨by simp [sgnT], by simp [sgnT], by simp [sgnT], by simp [sgnT], by simp [sgnT]⟩
        · exact ⟨by simp [sgnT], by simp [sgnT], by simp [sgnT], by simp [sgnT], by simp [sgnT]⟩
        · exact ⟨by simp [sgnT], by simp [sgnT], by simp [sgnT], by simp [sgnT], by simp [sgnT]⟩
        · exact ⟨by simp [sgnT], by simp [sgnT], by simp [sgnT], by simp [sgnT], by simp [sgnT]⟩
        · exact ⟨by simp [sgnT], by simp [sgnT], by simp [sgnT], by simp [sgnT], by simp [sgnT]⟩
        · rw [sgn60]; split; { exact ⟨by decide, by decide, by decide, by decide, by decide⟩ }; { split; { exact ⟨by decide, by decide, by decide, by decide, by decide⟩ }; { exact ⟨by decide, by decide, by decide, by decide, by decide⟩ } }
        · rw [sgn62]; split; { exact ⟨by decide, by decide, by decide, by decide, by decide⟩ }; { exact ⟨by decide, by decide, by decide, by decide, by decide⟩ }
        · have e35 : sgnT 35 d = if d = 35 then (⟨2, 5, 0, zR⟩, 2) else (⟨3, 0, 2, zR⟩, 1) := rfl
          rw [e35]; split; { exact ⟨by decide, by decide, by decide, by decide, by decide⟩ }; { exact ⟨by decide, by decide, by decide, by decide, by decide⟩ }

end Go.Proofs.Qxb6500570aGreat
