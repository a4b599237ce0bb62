import Derived.Test.Qxb6500568aGreatDoorUg
/- A real table's indexes name every place once. -/
namespace Go.Proofs.Qxb6500568aGreatDoor
open Ieee
set_option linter.unusedVariables false
set_option linter.unusedSimpArgs false
set_option linter.unusedSectionVars false

theorem kNum {k : PV} (h : wfV k = true) (hT : k.T = 2) : k = vNum k.N := by
  unfold wfV at h
  rw [if_neg (by omega)] at h
  split at h
  · rename_i q
    obtain ⟨T, N, S⟩ := k
    simp only at hT q
    rw [hT, q.1]; rfl
  · cases h
theorem kStr {k : PV} (h : wfV k = true) (hT : k.T = 3) : k = vStr k.S := by
  unfold wfV at h
  rw [if_pos hT] at h
  simp at h
  obtain ⟨T, N, S⟩ := k
  simp only at hT h
  rw [hT, h.1]; rfl
section
variable {α : Type}
theorem snd_nodup {l : List (α × Nat)} (h : (l.map (·.1)).Nodup) (hj : ∀ a b p, (a, p) ∈ l → (b, p) ∈ l → a = b) : (l.map (·.2)).Nodup := by
  unfold List.Nodup at h ⊢
  rw [List.pairwise_map] at h ⊢
  refine h.imp_of_mem fun {x y} hx hy hne e => hne ?_
  obtain ⟨a, p⟩ := x
  obtain ⟨b, q⟩ := y
  simp only at e
  subst e
  exact hj a b p hx hy
end
section
variable {t : RT} {ln lr : List (Nat × Nat)} {ls : List (Str × Nat)}
/-- the places that the indexes name. -/
def plcs (t : RT) (ln : List (Nat × Nat)) (ls : List (Str × Nat)) (lr : List (Nat × Nat)) : List Nat := t.arr ++ (ln.map (·.2) ++ (ls.map (·.2) ++ lr.map (·.2)))
theorem TI.arr_nd (h : TI t) : t.arr.Nodup := by
  unfold List.Nodup
  rw [List.pairwise_iff_getElem]
  intro i j hi hj hij e
  obtain ⟨u, hu⟩ := h.arrI i _ (List.getElem?_eq_getElem hi)
  obtain ⟨v, hv⟩ := h.arrI j _ (List.getElem?_eq_getElem hj)
  rw [e, hv] at hu
  injection hu with hu
  injection hu with hu
  have := fInt_small _ (by have := h.alen; omega) _ (by have := h.alen; omega) (vNum_inj hu)
  omega
theorem packV_inj {k k' : PV} (h : wfV k = true) (h' : wfV k' = true) (hT : k.T ≠ 2 ∧ k.T ≠ 3) (hT' : k'.T ≠ 2 ∧ k'.T ≠ 3) (e : packV k = packV k') : k = k' := by
  have hb : ∀ {k : PV}, wfV k = true → k.T ≠ 2 ∧ k.T ≠ 3 → k.N < 4294967296 ∧ k.S = [] := fun {k} h hT => by
    unfold wfV at h
    rw [if_neg hT.2] at h
    split at h
    · rename_i q
      refine ⟨?_, q.1⟩
      split at h
      · simp at h; omega
      · split at h
        · simp at h; omega
        · split at h
          · simp at h; omega
          · split at h
            · simpa using h
            · omega
    · cases h
  obtain ⟨b1, b2⟩ := hb h hT
  obtain ⟨c1, c2⟩ := hb h' hT'
  unfold packV at e
  obtain ⟨T, N, S⟩ := k
  obtain ⟨T', N', S'⟩ := k'
  simp only at b1 b2 c1 c2 e
  have e1 : T = T' := by omega
  have e2 : N = N' := by omega
  rw [e1, e2, b2, c2]
theorem TI.nodup (h : TI t) (n1 : (ln.map (·.1)).Nodup) (n2 : ∀ a p, t.nums a = some p ↔ (a, p) ∈ ln) (s1 : (ls.map (·.1)).Nodup) (s2 : ∀ a p, t.strs a = some p ↔ (a, p) ∈ ls) (r1 : (lr.map (·.1)).Nodup) (r2 : ∀ a p, t.refs a = some p ↔ (a, p) ∈ lr) : (plcs t ln ls lr).Nodup := by
  have hn : ∀ p, p ∈ ln.map (·.2) → ∃ b v, t.ord[p]? = some (vNum b, v) ∧ ∀ i, i < t.arr.length → b ≠ fInt (i + 1) := fun p hp => by
    obtain ⟨⟨b, q⟩, h1, h2⟩ := List.mem_map.1 hp
    simp only at h2
    subst h2
    obtain ⟨⟨v, k1⟩, k2⟩ := (h.numI b q).1 ((n2 b q).2 h1)
    exact ⟨b, v, k1, k2⟩
  have hs : ∀ p, p ∈ ls.map (·.2) → ∃ s v, t.ord[p]? = some (vStr s, v) := fun p hp => by
    obtain ⟨⟨b, q⟩, h1, h2⟩ := List.mem_map.1 hp
    simp only at h2
    subst h2
    obtain ⟨v, k1⟩ := (h.strI b q).1 ((s2 b q).2 h1)
    exact ⟨b, v, k1⟩
  have hr : ∀ p, p ∈ lr.map (·.2) → ∃ k v, t.ord[p]? = some (k, v) ∧ k.T ≠ 2 ∧ k.T ≠ 3 := fun p hp => by
    obtain ⟨⟨b, q⟩, h1, h2⟩ := List.mem_map.1 hp
    simp only at h2
    subst h2
    obtain ⟨k, v, k1, k2, k3, k4, k5⟩ := (h.refI b q).1 ((r2 b q).2 h1)
    exact ⟨k, v, k1, k3, k4⟩
  have ha : ∀ p, p ∈ t.arr → ∃ i v, i < t.arr.length ∧ t.ord[p]? = some (vNum (fInt (i + 1)), v) := fun p hp => by
    obtain ⟨i, hi, e⟩ := List.getElem_of_mem hp
    obtain ⟨v, hv⟩ := h.arrI i p (by rw [List.getElem?_eq_getElem hi, e])
    exact ⟨i, v, hi, hv⟩
  unfold plcs
  rw [List.nodup_append, List.nodup_append, List.nodup_append]
  refine ⟨h.arr_nd, ⟨?_, ⟨?_, ?_, ?_⟩, ?_⟩, ?_⟩
  · refine snd_nodup n1 fun a b p x y => ?_
    obtain ⟨⟨v, k1⟩, -⟩ := (h.numI a p).1 ((n2 a p).2 x)
    obtain ⟨⟨u, k2⟩, -⟩ := (h.numI b p).1 ((n2 b p).2 y)
    rw [k1] at k2
    injection k2 with k2
    injection k2 with k2
    exact vNum_inj k2
  · refine snd_nodup s1 fun a b p x y => ?_
    obtain ⟨v, k1⟩ := (h.strI a p).1 ((s2 a p).2 x)
    obtain ⟨u, k2⟩ := (h.strI b p).1 ((s2 b p).2 y)
    rw [k1] at k2
    injection k2 with k2
    injection k2 with k2
    injection k2
  · refine snd_nodup r1 fun a b p x y => ?_
    obtain ⟨k, v, k1, -, -, -, k5⟩ := (h.refI a p).1 ((r2 a p).2 x)
    obtain ⟨k', v', k1', -, -, -, k5'⟩ := (h.refI b p).1 ((r2 b p).2 y)
    rw [k1] at k1'
    injection k1' with k1'
    injection k1' with k1'
    rw [← k5, ← k5', k1']
  · intro p hp q hq e
    subst e
    obtain ⟨s, v, k1⟩ := hs p hp
    obtain ⟨k, u, k2, k3, k4⟩ := hr p hq
    rw [k1] at k2
    injection k2 with k2
    injection k2 with k2
    rw [← k2] at k4
    exact k4 rfl
  · intro p hp q hq e
    subst e
    obtain ⟨b, v, k1, -⟩ := hn p hp
    rcases List.mem_append.1 hq with hq | hq
    · obtain ⟨s, u, k2⟩ := hs p hq
      rw [k1] at k2
      injection k2 with k2
      injection k2 with k2
      injection k2 with k2
      cases k2
    · obtain ⟨k, u, k2, k3, k4⟩ := hr p hq
      rw [k1] at k2
      injection k2 with k2
      injection k2 with k2
      rw [← k2] at k3
      exact k3 rfl
  · intro p hp q hq e
    subst e
    obtain ⟨i, v, hi, k1⟩ := ha p hp
    rcases List.mem_append.1 hq with hq | hq
    · obtain ⟨b, u, k2, k3⟩ := hn p hq
      rw [k1] at k2
      injection k2 with k2
      injection k2 with k2
      exact k3 i hi (vNum_inj k2).symm
    · rcases List.mem_append.1 hq with hq | hq
      · obtain ⟨s, u, k2⟩ := hs p hq
        rw [k1] at k2
        injection k2 with k2
        injection k2 with k2
        injection k2 with k2
        cases k2
      · obtain ⟨k, u, k2, k3, k4⟩ := hr p hq
        rw [k1] at k2
        injection k2 with k2
        injection k2 with k2
        rw [← k2] at k3
        exact k3 rfl
theorem TI.cover (h : TI t) (n2 : ∀ a p, t.nums a = some p ↔ (a, p) ∈ ln) (s2 : ∀ a p, t.strs a = some p ↔ (a, p) ∈ ls) (r2 : ∀ a p, t.refs a = some p ↔ (a, p) ∈ lr) (p : Nat) : p ∈ plcs t ln ls lr ↔ p < t.ord.length := by
  unfold plcs
  rw [List.mem_append, List.mem_append, List.mem_append]
  constructor
  · rintro (hp | hp | hp | hp)
    · obtain ⟨i, hi, e⟩ := List.getElem_of_mem hp
      obtain ⟨v, hv⟩ := h.arrI i p (by rw [List.getElem?_eq_getElem hi, e])
      exact (List.getElem?_eq_some_iff.1 hv).1
    · obtain ⟨⟨b, q⟩, h1, h2⟩ := List.mem_map.1 hp
      simp only at h2
      subst h2
      obtain ⟨⟨v, k1⟩, k2⟩ := (h.numI b q).1 ((n2 b q).2 h1)
      exact (List.getElem?_eq_some_iff.1 k1).1
    · obtain ⟨⟨b, q⟩, h1, h2⟩ := List.mem_map.1 hp
      simp only at h2
      subst h2
      obtain ⟨v, k1⟩ := (h.strI b q).1 ((s2 b q).2 h1)
      exact (List.getElem?_eq_some_iff.1 k1).1
    · obtain ⟨⟨b, q⟩, h1, h2⟩ := List.mem_map.1 hp
      simp only at h2
      subst h2
      obtain ⟨k, v, k1, k2, k3, k4, k5⟩ := (h.refI b q).1 ((r2 b q).2 h1)
      exact (List.getElem?_eq_some_iff.1 k1).1
  · intro hp
    have hg : t.ord[p]? = some (t.ord[p].1, t.ord[p].2) := List.getElem?_eq_getElem hp
    generalize t.ord[p].1 = k at hg
    generalize t.ord[p].2 = v at hg
    obtain ⟨w1, w2, w3, w4, w5, w6⟩ := h.ok.key p k v hg
    by_cases h2 : k.T = 2
    · have hk := kNum w1 h2
      rw [hk] at hg
      by_cases ha : ∃ i, i < t.arr.length ∧ k.N = fInt (i + 1)
      · obtain ⟨i, hi, e⟩ := ha
        left
        obtain ⟨u, hu⟩ := h.arrI i _ (List.getElem?_eq_getElem hi)
        rw [← e] at hu
        rw [h.ok.one p _ _ _ _ hg hu]
        exact List.getElem_mem hi
      · right; left
        have : t.nums k.N = some p := (h.numI k.N p).2 ⟨⟨v, hg⟩, fun i hi e => ha ⟨i, hi, e⟩⟩
        exact List.mem_map.2 ⟨(k.N, p), (n2 _ _).1 this, rfl⟩
    · by_cases h3 : k.T = 3
      · have hk := kStr w1 h3
        rw [hk] at hg
        right; right; left
        have : t.strs k.S = some p := (h.strI k.S p).2 ⟨v, hg⟩
        exact List.mem_map.2 ⟨(k.S, p), (s2 _ _).1 this, rfl⟩
      · right; right; right
        have : t.refs (packV k) = some p := (h.refI _ p).2 ⟨k, v, hg, w3, h2, h3, rfl⟩
        exact List.mem_map.2 ⟨(packV k, p), (r2 _ _).1 this, rfl⟩
theorem TI.count (h : TI t) (n1 : (ln.map (·.1)).Nodup) (n2 : ∀ a p, t.nums a = some p ↔ (a, p) ∈ ln) (s1 : (ls.map (·.1)).Nodup) (s2 : ∀ a p, t.strs a = some p ↔ (a, p) ∈ ls) (r1 : (lr.map (·.1)).Nodup) (r2 : ∀ a p, t.refs a = some p ↔ (a, p) ∈ lr) : t.arr.length + ln.length + ls.length + lr.length = t.ord.length := by
  have hp : (plcs t ln ls lr).Perm (List.range t.ord.length) := (List.perm_ext_iff_of_nodup (h.nodup n1 n2 s1 s2 r1 r2) List.nodup_range).2 fun p => by rw [h.cover n2 s2 r2, List.mem_range]
  have := hp.length_eq
  unfold plcs at this
  simp at this
  omega
end
end Go.Proofs.Qxb6500568aGreatDoor
