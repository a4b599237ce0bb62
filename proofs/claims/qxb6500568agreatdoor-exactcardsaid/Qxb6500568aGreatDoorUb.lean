import Derived.Test.Qxb6500568aGreatDoorUa
namespace Go.Proofs.Qxb6500568aGreatDoor
open Ieee
set_option linter.unusedVariables false
set_option linter.unusedSimpArgs false
set_option linter.unusedSectionVars false

/-! A real table: the list of places and the indexes. -/

structure RT where
  ord : Tb
  arr : List Nat
  nums : Nat → Option Nat
  strs : Str → Option Nat
  refs : Nat → Option Nat
  dead : Nat
def packV (k : PV) : Nat := k.T * 4294967296 + k.N
structure TI (t : RT) : Prop where
  ok : TOK t.ord
  alen : t.arr.length ≤ 32
  arrI : ∀ (i p : Nat), t.arr[i]? = some p → ∃ v, t.ord[p]? = some (vNum (fInt (i + 1)), v)
  gap : ∀ (p : Nat) v, t.ord[p]? ≠ some (vNum (fInt (t.arr.length + 1)), v)
  numI : ∀ b p, t.nums b = some p ↔ (∃ v, t.ord[p]? = some (vNum b, v)) ∧ ∀ i, i < t.arr.length → b ≠ fInt (i + 1)
  strI : ∀ s p, t.strs s = some p ↔ ∃ v, t.ord[p]? = some (vStr s, v)
  refI : ∀ u p, t.refs u = some p ↔ ∃ k v, t.ord[p]? = some (k, v) ∧ k.T ≠ 0 ∧ k.T ≠ 2 ∧ k.T ≠ 3 ∧ packV k = u
  deadI : t.dead = (t.ord.filter fun q => decide (q.2.T = 0)).length
/-- the whole number of a key. -/
def whoK (k : PV) : Int := if k.T = 2 then (toI k.N).getD 0 else 0
def findR (t : RT) (k : PV) (i : Int) : Option Nat :=
  if 1 ≤ i ∧ i ≤ t.arr.length then t.arr[(i - 1).toNat]? else if k.T = 2 then t.nums k.N else if k.T = 3 then t.strs k.S else t.refs (packV k)

theorem toI_zro {x : Nat} (hx : W64 x) (h : toI x = some 0) : x = 0 ∨ x = 9223372036854775808 := by
  unfold toI at h
  by_cases hc : rgW x ≤ 4845873199050653696 ∧ whoW x = true
  · rw [if_pos hc] at h
    injection h with h
    have ht : truW x = 0 := by
      unfold sgI at h
      split at h <;> omega
    have hw : pmW x * 2 ^ (peW x).toNat % 2 ^ (-peW x).toNat = 0 := by
      have := hc.2; unfold whoW at this; simpa using this
    have hz : pmW x * 2 ^ (peW x).toNat = 0 := by
      unfold truW at ht
      have := Nat.div_mul_cancel (Nat.dvd_of_mod_eq_zero hw)
      rw [ht, Nat.zero_mul] at this
      exact this.symm
    have hp : pmW x = 0 := by
      rcases Nat.mul_eq_zero.1 hz with h | h
      · exact h
      · exact absurd h (Nat.pos_iff_ne_zero.1 (Nat.two_pow_pos _))
    have hr : rgW x = 0 := by
      unfold pmW at hp
      split at hp
      · exact hp
      · omega
    have hx : x < 18446744073709551616 := hx
    unfold rgW at hr
    omega
  · rw [if_neg hc] at h; cases h

theorem vNum_inj {a b : Nat} (h : vNum a = vNum b) : a = b := by injection h
theorem place_iff {t : Tb} (h : TOK t) (k : PV) (p : Nat) : place t k = some p ↔ ∃ v, t[p]? = some (k, v) := by
  constructor
  · exact place_get
  · rintro ⟨v, hv⟩
    exact place_some hv fun j u hj => h.one j p k u v hj hv
theorem opt_ext {a b : Option Nat} (h : ∀ p, a = some p ↔ b = some p) : a = b := by
  rcases a with _ | a
  · rcases b with _ | b
    · rfl
    · exact absurd ((h b).2 rfl) (by simp)
  · exact ((h a).1 rfl).symm
/-- the index finds the key's place. -/
theorem find_ok {t : RT} (h : TI t) {k : PV} (hk : wfV k = true) (hw : W64 k.N) : findR t (nrmK k) (whoK k) = place t.ord (nrmK k) := by
  have hT := nrmK_T k
  have hS2 : k.T = 2 → k.S = [] := fun e => by
    unfold wfV at hk
    rw [if_neg (by omega)] at hk
    split at hk
    · rename_i h; exact h.1
    · cases hk
  unfold findR
  by_cases hr : 1 ≤ whoK k ∧ whoK k ≤ t.arr.length
  · rw [if_pos hr]
    have h2 : k.T = 2 := by
      by_cases h2 : k.T = 2
      · exact h2
      · unfold whoK at hr; rw [if_neg h2] at hr; omega
    have hwh : whoK k = (toI k.N).getD 0 := by unfold whoK; rw [if_pos h2]
    rcases hq : toI k.N with _ | i
    · rw [hwh, hq] at hr; exact absurd hr.1 (by decide)
    · rw [hwh, hq] at hr ⊢
      have hr : 1 ≤ i ∧ i ≤ t.arr.length := hr
      show t.arr[(i - 1).toNat]? = _
      have hx := toI_pos hw hq (by omega)
      have hne : k.N ≠ 9223372036854775808 := fun e => by rw [e] at hq; exact absurd hq (by
        intro q
        have : toI 9223372036854775808 = some 0 := (toI_zero (by decide)).2 (by decide)
        rw [this] at q; injection q with q; omega)
      have hnk : nrmK k = vNum (fInt i.toNat) := by
        unfold nrmK
        rw [if_neg (fun q => hne q.2)]
        have := hS2 h2
        cases k
        simp only at h2 hx this
        subst h2; subst this; rw [hx]; rfl
      have hl : (i - 1).toNat < t.arr.length := by omega
      have hg := List.getElem?_eq_getElem hl
      rw [hg]
      obtain ⟨v, hv⟩ := h.arrI _ _ hg
      rw [show (i - 1).toNat + 1 = i.toNat by omega] at hv
      rw [hnk]
      exact ((place_iff h.ok _ _).2 ⟨v, hv⟩).symm
  · rw [if_neg hr, hT]
    by_cases h2 : k.T = 2
    · rw [if_pos h2]
      obtain ⟨b, hb, hbn⟩ : ∃ b, nrmK k = vNum b ∧ (b = k.N ∨ b = 0) := by
        unfold nrmK
        have := hS2 h2
        split
        · exact ⟨0, by unfold vNum; rw [this], .inr rfl⟩
        · refine ⟨k.N, ?_, .inl rfl⟩
          cases k
          simp only at h2 this
          subst h2; subst this; rfl
      rw [hb]
      refine opt_ext fun p => ?_
      rw [place_iff h.ok]
      show t.nums b = some p ↔ _
      rw [h.numI]
      refine ⟨fun q => q.1, fun q => ⟨q, fun i hi e => ?_⟩⟩
      have hal := h.alen
      rcases hbn with hbn | hbn
      · have ht := toI_fInt (i + 1) (by omega)
        rw [← e, hbn] at ht
        apply hr
        unfold whoK
        rw [if_pos h2, ht]
        show 1 ≤ ((i + 1 : Nat) : Int) ∧ ((i + 1 : Nat) : Int) ≤ _
        omega
      · have : fInt 0 = 0 := by decide
        have := fInt_small 0 (by omega) (i + 1) (by omega) (by rw [this, ← hbn]; exact e)
        omega
    · rw [if_neg h2]
      have hnk : nrmK k = k := by unfold nrmK; rw [if_neg (fun q => h2 q.1)]
      rw [hnk]
      by_cases h3 : k.T = 3
      · rw [if_pos h3]
        have hN : k.N = 0 := by
          unfold wfV at hk
          rw [if_pos h3] at hk
          simp at hk; exact hk.1
        have hks : k = vStr k.S := by
          cases k
          simp only at h3 hN
          subst h3; subst hN; rfl
        refine opt_ext fun p => ?_
        rw [place_iff h.ok, h.strI, ← hks]
      · rw [if_neg h3]
        have hwf : ∀ u : PV, wfV u = true → u.T ≠ 2 → u.T ≠ 3 → u.S = [] ∧ u.N < 4294967296 := fun u hu n2 n3 => by
          unfold wfV at hu
          rw [if_neg n3] at hu
          split at hu
          · rename_i hS
            refine ⟨hS.1, ?_⟩
            split at hu
            · simp at hu; omega
            · split at hu
              · simp at hu; omega
              · split at hu
                · simp at hu; omega
                · split at hu
                  · simp at hu; omega
                  · omega
          · cases hu
        refine opt_ext fun p => ?_
        rw [place_iff h.ok, h.refI]
        constructor
        · rintro ⟨k', v, q1, q2, q3, q4, q5⟩
          have w1 := hwf k' (h.ok.key p k' v q1).1 q3 q4
          have w2 := hwf k hk h2 h3
          have : k' = k := by
            unfold packV at q5
            cases k; cases k'
            simp only at w1 w2 q5
            obtain ⟨rfl, w1⟩ := w1
            obtain ⟨rfl, w2⟩ := w2
            congr 1 <;> omega
          subst this
          exact ⟨v, q1⟩
        · rintro ⟨v, q1⟩
          exact ⟨k, v, q1, (h.ok.key p k v q1).2.2.1, h2, h3, rfl⟩

end Go.Proofs.Qxb6500568aGreatDoor
