import Derived.Test.Qxb6500568aGreatDoorMe
import Derived.Test.Qxb6500568aGreatDoorBm
namespace Go.Proofs.Qxb6500568aGreatDoor
open Ieee
set_option linter.unusedVariables false
set_option linter.unusedSimpArgs false
set_option linter.unusedSectionVars false

/-! Operators and tables keep validity. -/

theorem fOp_nan {op : BinOp} (ho : arO op = true) {a b : Nat} (h : isNaNW (fOp op a b) = true) : fOp op a b = nanB := by
  cases hq : floatBits op .f64 a b with
  | none => exact fb_none ho hq
  | some r =>
    obtain ⟨h1, h2, h3⟩ := fb_some ho hq
    rw [← h1, h2] at h; cases h
theorem flr_nanB {z : Nat} (hz : W64 z) (h : isNaNW (fFlr z) = true) : fFlr z = nanB := by
  by_cases hn : isNaNW z = true
  · exact flr_nan hn
  · have hn' : ¬ infB < rgW z := by unfold isNaNW at hn; simpa using hn
    by_cases hi : rgW z = infB
    · rw [flr_inf hz hi] at h; exact absurd h hn
    · rw [flr_fin hz (by omega), nearest_noNaN] at h; cases h
theorem fAri_nan {op : Int} {a b : Nat} (ha : W64 a) (hb : W64 b) (h : isNaNW (fAri op a b) = true) : fAri op a b = nanB := by
  unfold fAri at h ⊢
  by_cases c1 : op = 1
  · rw [if_pos c1] at h ⊢; exact fOp_nan (op := .add) rfl h
  rw [if_neg c1] at h ⊢
  by_cases c2 : op = 2
  · rw [if_pos c2] at h ⊢; exact fOp_nan (op := .sub) rfl h
  rw [if_neg c2] at h ⊢
  by_cases c3 : op = 3
  · rw [if_pos c3] at h ⊢; exact fOp_nan (op := .mul) rfl h
  rw [if_neg c3] at h ⊢
  by_cases c4 : op = 4
  · rw [if_pos c4] at h ⊢; exact fOp_nan (op := .quo) rfl h
  rw [if_neg c4] at h ⊢
  by_cases c5 : op = 5
  · rw [if_pos c5] at h ⊢; exact flr_nanB (fDiv_lt a b) h
  rw [if_neg c5] at h ⊢
  by_cases c6 : op = 6
  · rw [if_pos c6] at h ⊢; exact fOp_nan (op := .sub) rfl h
  rw [if_neg c6]
theorem fNeg_nan {a : Nat} (ha : W64 a) (h : isNaNW (fNeg a) = true) : fNeg a = nanB := by
  unfold fNeg at h ⊢
  by_cases c : isNaNW a = true
  · rw [if_pos c]
  · rw [if_neg c] at h
    have : isNaNW (negW a) = true := h
    unfold isNaNW at this c
    rw [rg_negW ha] at this
    exact absurd this c
theorem fInt_nan {n : Nat} (h : isNaNW (fInt n) = true) : fInt n = nanB := by rw [show fInt n = double.nearest false n 0 from rfl, nearest_noNaN] at h; cases h

theorem magB_ok {s : Str} {z : Nat} (h : magB s = some z) : z < 9223372036854775808 ∧ isNaNW z = false := by
  rw [magB_eq] at h
  split at h
  · cases h
  · rename_i hd
    have hd0 : dgs s ≠ [] := fun q => hd (.inl q)
    have hd16 : (dgs s).length ≤ 16 := by have : ¬ 16 < (dgs s).length := fun q => hd (.inr q); omega
    have hA : AllD (dgs s) := dgs_all s
    have hv := dvl16 hA hd16
    split at h
    · split at h
      · cases h; exact ⟨nearest_pos _ _, nearest_noNaN _ _ _⟩
      · cases h
    · split at h
      · split at h
        · cases h
        · rename_i _ r _ _ hq
          have hk16 : (dgs r).length ≤ 16 := by have : ¬ 16 < (dgs s).length + (dgs r).length := fun q => hq (.inr (.inr (.inl q))); omega
          have hkA : AllD (dgs r) := dgs_all r
          have hdk : AllD (dgs s ++ dgs r) := by intro c hc; rcases List.mem_append.1 hc with h | h; exact hA c h; exact hkA c h
          have hv2 := dvl16 hdk (by rw [List.length_append]; have : ¬ 16 < (dgs s).length + (dgs r).length := fun q => hq (.inr (.inr (.inl q))); omega)
          have hK16 : 10 ^ (dgs r).length ≤ 10 ^ 16 := ge_pow hk16
          have hKp : 0 < 10 ^ (dgs r).length := Nat.pow_pos (by decide)
          cases h
          exact ⟨div_pos (nearest_pos _ _) (nearest_pos _ _) (nearest_fin _ (by omega)) (nearest_fin _ (by omega)) (nearest_nz (by omega) (by omega)), div_num (nearest_pos _ _) (nearest_pos _ _) (nearest_fin _ (by omega)) (nearest_fin _ (by omega)) (nearest_nz (by omega) (by omega))⟩
      · split at h
        · simp only at h
          repeat' (split at h)
          all_goals first
            | (cases h; done)
            | (cases h; exact ⟨nearest_pos _ _, nearest_noNaN _ _ _⟩)
        · cases h
theorem magN_ok {s : Str} {z : Nat} (h : magN s = some z) : z < 9223372036854775808 ∧ isNaNW z = false := by
  unfold magN at h
  split at h
  · cases h; exact ⟨by decide, by decide⟩
  · exact magB_ok h
theorem parN_ok {s : Str} {z : Nat} (h : parN s = some z) : W64 z ∧ (isNaNW z = true → z = nanB) := by
  unfold parN at h
  split at h
  · cases h
  · split at h
    · cases h; exact ⟨by decide, fun _ => rfl⟩
    · cases s with
      | nil => cases h
      | cons c r =>
        simp only [parB] at h
        split at h
        · cases hm : magN r with
          | none => rw [hm] at h; cases h
          | some m =>
            rw [hm] at h
            have h' : 9223372036854775808 + m = z := Option.some.inj h
            obtain ⟨q1, q2⟩ := magN_ok hm
            refine ⟨by unfold W64; omega, fun hn => ?_⟩
            unfold isNaNW at hn q2
            have : rgW z = rgW m := by rw [← h']; unfold rgW; omega
            rw [this] at hn; rw [hn] at q2; cases q2
        · obtain ⟨q1, q2⟩ := magN_ok h
          exact ⟨by unfold W64; omega, fun hn => by rw [q2] at hn; cases hn⟩

theorem tyName_len (v : PV) : (tyName v).length ≤ 8 := by
  unfold tyName
  repeat' split
  all_goals decide
theorem biName_len (b : Nat) : (biName b).length ≤ 8 := by
  unfold biName
  repeat' split
  all_goals decide
theorem stName_len (b : Nat) : (stName b).length ≤ 9 := by
  unfold stName
  repeat' split
  all_goals decide
theorem txV_len {c t h : Nat} {v : PV} (H : VV c t h v) : (txV v).length ≤ 40 := by
  unfold txV
  split
  · decide
  split
  · split <;> decide
  split
  · exact Nat.le_trans (fmtN_len H.w) (by decide)
  split
  · rename_i h3
    have := H.wf
    unfold wfV at this
    rw [if_pos h3] at this
    simp at this
    exact this.2
  split
  · have := biName_len v.N; simp; omega
  · have h1 := tyName_len v
    have h2 : (dgT v.N).length ≤ 20 := dgT_len (k := 19) (by omega) (by have := H.w; unfold W64 at this; omega)
    simp; omega

theorem binV_ok {c t h : Nat} {op : Nat} {a b r : PV} (ha : VV c t h a) (hb : VV c t h b) (hr : binV op a b = .ok r) : VV c t h r := by
  unfold binV at hr
  split at hr
  · split at hr
    · split at hr
      · cases hr
      · cases hr; exact VV.str _ _ _ (by simp; omega)
    · cases hr
  · split at hr
    · split at hr
      · cases hr; exact VV.bool _ _ _ _
      · cases hr
    · split at hr
      · cases hr; exact VV.num _ _ _ (fAri_lt _ _ _) (fun q => fAri_nan ha.w hb.w q)
      · cases hr
theorem unV_ok {c t h : Nat} {ts : List Tb} {op : Nat} {a r : PV} (ha : VV c t h a) (hr : unV ts op a = .ok r) : VV c t h r := by
  unfold unV at hr
  split at hr
  · cases hr; exact VV.bool _ _ _ _
  · split at hr
    · split at hr
      · cases hr; exact VV.num _ _ _ (fNeg_lt ha.w) (fun q => fNeg_nan ha.w q)
      · cases hr
    · split at hr
      · cases hr; exact VV.num _ _ _ (fInt_lt _) (fun q => fInt_nan q)
      · split at hr
        · cases hr; exact VV.num _ _ _ (fInt_lt _) (fun q => fInt_nan q)
        · cases hr

theorem nrmK_idem (k : PV) : nrmK (nrmK k) = nrmK k := by
  unfold nrmK
  split
  · rw [if_neg (by simp)]
  · rfl
theorem VV.nrm {c t h : Nat} {k : PV} (H : VV c t h k) : VV c t h (nrmK k) := by
  unfold nrmK
  split
  · rename_i hk
    have hw := H.wf
    unfold wfV at hw
    rw [if_neg (by omega)] at hw
    split at hw
    · rename_i h2
      refine ⟨?_, (show (0 : Nat) < 18446744073709551616 by decide), (fun q => by cases q), (fun q => by cases q), (fun q => by cases q), (fun _ q => absurd q (show ¬ isNaNW 0 = true by decide))⟩
      rw [h2.1]; decide
    · cases hw
  · exact H
theorem nrmK_T (k : PV) : (nrmK k).T = k.T := by
  unfold nrmK
  split
  · rename_i h; exact h.1.symm
  · rfl
theorem place_none_ne : ∀ {t : Tb} {k : PV}, place t k = none → ∀ (j : Nat) q, t[j]? = some q → q.1 ≠ k
  | p :: t, k, h, j, q, hq => by
    unfold place at h
    split at h
    · cases h
    · rename_i hp
      cases j with
      | zero => simp at hq; subst hq; exact hp
      | succ j => exact place_none_ne (by cases hx : place t k with | none => rfl | some z => rw [hx] at h; cases h) j q (by simpa using hq)
theorem tSet_ok {c n h : Nat} {t : Tb} {k v : PV} (hT : TOK t) (hV : ∀ q ∈ t, VV c n h q.1 ∧ VV c n h q.2) (hk : VV c n h k) (hv : VV c n h v) : TOK (tSet t k v).2 ∧ ∀ q ∈ (tSet t k v).2, VV c n h q.1 ∧ VV c n h q.2 := by
  unfold tSet
  split
  · exact ⟨hT, hV⟩
  rename_i h0
  split
  · exact ⟨hT, hV⟩
  rename_i hnan
  split
  · rename_i i hi
    have hget : ∀ (m : Nat) k' v', (t.modify i fun p => (p.1, v))[m]? = some (k', v') → ∃ u, t[m]? = some (k', u) ∧ (v' = u ∨ v' = v) := by
      intro m k' v' hm
      rw [List.getElem?_modify] at hm
      cases hq : t[m]? with
      | none => rw [hq] at hm; cases hm
      | some q =>
        rw [hq] at hm
        have hm := Option.some.inj hm
        obtain ⟨q1, q2⟩ := q
        split at hm
        · cases hm; exact ⟨_, rfl, .inr rfl⟩
        · cases hm; exact ⟨_, rfl, .inl rfl⟩
    refine ⟨⟨by simpa using hT.len, fun m k' v' hm => ?_, fun m m' k' u w h1 h2 => ?_⟩, fun q hq => ?_⟩
    · obtain ⟨u, hu, hv'⟩ := hget m k' v' hm
      obtain ⟨q1, q2, q3, q4, q5, q6⟩ := hT.key m k' u hu
      refine ⟨q1, ?_, q3, q4, q5, q6⟩
      rcases hv' with rfl | rfl
      · exact q2
      · exact hv.wf
    · obtain ⟨u', hu, -⟩ := hget m k' u h1
      obtain ⟨w', hw, -⟩ := hget m' k' w h2
      exact hT.one m m' k' u' w' hu hw
    · obtain ⟨m, hm⟩ := List.mem_iff_getElem?.1 hq
      obtain ⟨k', v'⟩ := q
      obtain ⟨u, hu, hv'⟩ := hget m k' v' hm
      have := hV _ (List.mem_of_getElem? hu)
      refine ⟨this.1, ?_⟩
      rcases hv' with rfl | rfl
      · exact this.2
      · exact hv
  · rename_i hn
    split
    · exact ⟨hT, hV⟩
    · split
      · exact ⟨hT, hV⟩
      · rename_i hl
        have hkn := hk.nrm
        have hne := place_none_ne hn
        refine ⟨⟨by simp; omega, fun m k' v' hm => ?_, fun m m' k' u w h1 h2 => ?_⟩, fun q hq => ?_⟩
        · by_cases hml : m < t.length
          · rw [List.getElem?_append_left hml] at hm; exact hT.key m k' v' hm
          · rw [List.getElem?_append_right (by omega)] at hm
            rcases hx : m - t.length with _ | z
            · rw [hx] at hm
              simp at hm
              obtain ⟨rfl, rfl⟩ := hm
              refine ⟨hkn.wf, hv.wf, by rw [nrmK_T]; exact h0, fun h2 => ?_, nrmK_idem k, hkn.w⟩
              unfold nrmK
              split
              · exact (show isNaNW 0 = false by decide)
              · rw [nrmK_T] at h2
                cases hq : isNaNW k.N with
                | false => rfl
                | true => exact absurd ⟨h2, hq⟩ hnan
            · rw [hx] at hm; simp at hm
        · have key : ∀ (m : Nat) u, (t ++ [(nrmK k, v)])[m]? = some (k', u) → (t[m]? = some (k', u)) ∨ (m = t.length ∧ k' = nrmK k) := by
            intro m u hm
            by_cases hml : m < t.length
            · rw [List.getElem?_append_left hml] at hm; exact .inl hm
            · rw [List.getElem?_append_right (by omega)] at hm
              rcases hx : m - t.length with _ | z
              · rw [hx] at hm; simp at hm; exact .inr ⟨by omega, hm.1.symm⟩
              · rw [hx] at hm; simp at hm
          rcases key m u h1 with q1 | ⟨q1, q2⟩ <;> rcases key m' w h2 with q3 | ⟨q3, q4⟩
          · exact hT.one m m' k' u w q1 q3
          · exact absurd q4 (hne m _ q1)
          · exact absurd q2 (hne m' _ q3)
          · omega
        · rcases List.mem_append.1 hq with hq | hq
          · exact hV q hq
          · rw [List.mem_singleton] at hq; subst hq; exact ⟨hkn, hv⟩

end Go.Proofs.Qxb6500568aGreatDoor
