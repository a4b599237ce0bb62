import Derived.Test.Qxb6500568aGreatDoorDh
import Derived.Test.Qxb6500568aGreatDoorGf
/- The real tables: Set. -/
namespace Go.Proofs.Qxb6500568aGreatDoor
open Ieee
set_option linter.unusedVariables false
set_option linter.unusedSimpArgs false

/-! the plain law -/
theorem nodup_bd : ∀ (n : Nat) (l : List Nat), l.Nodup → (∀ x ∈ l, x < n) → l.length ≤ n
  | 0, l, _, h => by
    cases l with
    | nil => simp
    | cons x l => have := h x (by simp); omega
  | n + 1, l, hn, h => by
    by_cases hm : n ∈ l
    · have h1 := nodup_bd n (l.erase n) (hn.erase n) (fun x hx => by
        have hne := (hn.mem_erase_iff).1 hx
        have := h x hne.2
        have := hne.1
        omega)
      rw [List.length_erase_of_mem hm] at h1
      omega
    · have := nodup_bd n l hn (fun x hx => by
        have h1 := h x hx
        have : x ≠ n := fun e => hm (by rw [← e]; exact hx)
        omega)
      omega
theorem TI.arr_le {t : RT} (h : TI t) : t.arr.length ≤ t.ord.length := by
  refine nodup_bd _ _ ?_ (fun p hp => ?_)
  · rw [List.Nodup, List.pairwise_iff_getElem]
    intro i j hi hj hij he
    obtain ⟨p, hp⟩ : ∃ p, t.arr[j]? = some p := ⟨_, List.getElem?_eq_getElem hj⟩
    replace he : t.arr[i]? = some p := by rw [List.getElem?_eq_getElem hi, he, ← List.getElem?_eq_getElem hj]; exact hp
    obtain ⟨u, hu⟩ := h.arrI i p he
    obtain ⟨v, hv⟩ := h.arrI j p hp
    rw [hu] at hv
    have := h.alen
    have e1 : fInt (i + 1) = fInt (j + 1) := by simp at hv; exact vNum_inj hv.1
    have := fInt_small (i + 1) (by omega) (j + 1) (by omega) e1
    omega
  · obtain ⟨i, hi⟩ := List.getElem?_of_mem hp
    obtain ⟨v, hv⟩ := h.arrI i p hi
    exact (List.getElem?_eq_some_iff.1 hv).1
theorem wf_2 {k : PV} (h : wfV k = true) (hT : k.T = 2) : k = vNum k.N := by
  unfold wfV at h
  rw [if_neg (by omega)] at h
  split at h
  · rename_i hs; exact pv_eq.2 ⟨hT, rfl, hs.1⟩
  · cases h
theorem wf_3 {k : PV} (h : wfV k = true) (hT : k.T = 3) : k = vStr k.S := by
  unfold wfV at h
  rw [if_pos hT] at h
  simp only [Bool.and_eq_true, decide_eq_true_eq] at h
  exact pv_eq.2 ⟨hT, h.1, rfl⟩
theorem fInt_nz : ∀ n, n < 40 → n ≠ 0 → fInt n ≠ 0 := by decide
theorem wf_pk {k : PV} (h : wfV k = true) (h2 : k.T ≠ 2) (h3 : k.T ≠ 3) : k.S = [] ∧ k.N < 4294967296 ∧ k.T ≤ 7 := by
  unfold wfV at h
  rw [if_neg h3] at h
  split at h
  · rename_i hs
    refine ⟨hs.1, ?_, hs.2⟩
    split at h
    · have : k.N = 0 := by simpa using h
      omega
    · split at h
      · have : k.N ≤ 1 := by simpa using h
        omega
      · split at h
        · simp only [Bool.and_eq_true, decide_eq_true_eq] at h; omega
        · split at h
          · simpa using h
          · rename_i a b c d; exfalso; omega
  · cases h
theorem place_no {t : Tb} {k : PV} (h : place t k = none) (hT : TOK t) (p : Nat) (v : PV) : t[p]? ≠ some (k, v) := fun he => by
  have := (place_iff hT k p).2 ⟨v, he⟩
  rw [h] at this; cases this
theorem nrm_wf {k : PV} (hk : wfV k = true) : wfV (nrmK k) = true := by
  unfold nrmK
  split
  · rename_i h
    have := wf_2 hk h.1
    rw [this]; rfl
  · exact hk
/-- A new key for the hash part. -/
theorem set_idx {R : RT} {k v : PV} (h : TI R) (hk : wfV k = true) (hN : W64 k.N) (h0 : k.T ≠ 0) (hv : v.T ≠ 0) (hp : place R.ord (nrmK k) = none) (hok : TOK (R.ord ++ [(nrmK k, v)])) (hi : whoK k ≠ R.arr.length + 1) : TI (idxV R (nrmK k) v) := by
  have hT := nrmK_T k
  have hw := nrm_wf hk
  refine h.idx hv hok (fun h2 => ⟨wf_2 hw h2, fun i hi' he => ?_⟩) (fun h3 => wf_3 hw h3) (by rw [hT]; exact h0) (fun k' v' p hq a2 a3 b2 b3 he => ?_)
  · have hal := h.alen
    rcases Nat.lt_or_ge i R.arr.length with hlt | hge
    · obtain ⟨p, hpp⟩ : ∃ p, R.arr[i]? = some p := ⟨_, List.getElem?_eq_getElem hlt⟩
      obtain ⟨u, hu⟩ := h.arrI i p hpp
      refine place_no hp h.ok p u ?_
      rw [hu, wf_2 hw h2, he]
    · have hie : i = R.arr.length := by omega
      subst hie
      apply hi
      have hkN : k.N = fInt (R.arr.length + 1) := by
        unfold nrmK at he
        split at he
        · exact absurd he.symm (fInt_nz _ (by omega) (by omega))
        · exact he
      unfold whoK
      rw [if_pos (by rw [← hT]; exact h2), hkN, toI_fInt _ (by omega)]
      simp
  · have w1 := wf_pk (h.ok.key p _ _ hq).1 a2 a3
    have w2 := wf_pk hw b2 b3
    refine place_no hp h.ok p v' ?_
    rw [hq]
    have e : k' = nrmK k := by
      unfold packV at he
      refine pv_eq.2 ⟨by omega, by omega, by rw [w1.1, w2.1]⟩
    rw [e]
/-- A new key for the array part. -/
theorem set_arr {R : RT} {k : PV} (h : TI R) (hk : wfV k = true) (hN : W64 k.N) (hi : whoK k = R.arr.length + 1) : nrmK k = vNum (fInt (R.arr.length + 1)) := by
  have h2 : k.T = 2 := by
    by_cases e : k.T = 2
    · exact e
    · unfold whoK at hi; rw [if_neg e] at hi; omega
  unfold whoK at hi
  rw [if_pos h2] at hi
  cases hq : toI k.N with
  | none => rw [hq] at hi; simp at hi; omega
  | some i =>
    rw [hq] at hi
    replace hi : i = R.arr.length + 1 := by simpa using hi
    have := toI_pos hN hq (by omega)
    rw [show i.toNat = R.arr.length + 1 by omega] at this
    have hal := h.alen
    rw [← nrm_fInt (n := R.arr.length + 1) (by omega), ← this, ← wf_2 hk h2]

end Go.Proofs.Qxb6500568aGreatDoor
