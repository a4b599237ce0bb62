import Derived.Test.Qxb6500568aGreatDoorRe
/- Places seen, over the entries of a map that have come. -/
namespace Go.Proofs.Qxb6500568aGreatDoor
set_option linter.unusedVariables false
set_option linter.unusedSimpArgs false
set_option linter.unusedSectionVars false

/-- G tells the places of base and of the entries that have come. -/
def GI (base ps bs : List Nat) (seen : Array Nat) (G : Nat → Bool) : Prop := ∀ p, G p = true ↔ p ∈ base ∨ ∃ (j b : Nat), ps[j]? = some p ∧ bs[j]? = some b ∧ b ∈ seen
def Gup (G : Nat → Bool) (p : Nat) (x : Nat) : Bool := if x = p then true else G x
theorem nd_inj {l : List Nat} (h : l.Nodup) {i j : Nat} (hi : i < l.length) (hj : j < l.length) (e : l[i] = l[j]) : i = j := by
  unfold List.Nodup at h
  rw [List.pairwise_iff_getElem] at h
  rcases Nat.lt_trichotomy i j with q | q | q
  · exact absurd e (h i j hi hj q)
  · exact q
  · exact absurd e.symm (h j i hj hi q)
section
variable {base ps bs : List Nat} {seen : Array Nat} {G : Nat → Bool}
theorem GI.start (h : ∀ p, G p = true ↔ p ∈ base) : GI base ps bs #[] G := fun p => by
  rw [h p]
  constructor
  · exact .inl
  · rintro (q | ⟨j, b, -, -, q⟩)
    · exact q
    · simp at q
theorem GI.no (h : GI base ps bs seen G) (hn : (base ++ ps).Nodup) (hb : bs.Nodup) {j b p : Nat} (hj : bs[j]? = some b) (hs : b ∉ seen) (hp : ps[j]? = some p) : G p = false := by
  rw [List.nodup_append] at hn
  cases hg : G p with
  | false => rfl
  | true =>
    exfalso
    rcases (h p).1 hg with q | ⟨j', b', q1, q2, q3⟩
    · exact hn.2.2 p q p (List.mem_of_getElem? hp) rfl
    · have : j' = j := by
        have h1 := (List.getElem?_eq_some_iff.1 q1)
        have h2 := (List.getElem?_eq_some_iff.1 hp)
        obtain ⟨l1, e1⟩ := h1
        obtain ⟨l2, e2⟩ := h2
        exact nd_inj hn.2.1 l1 l2 (e1.trans e2.symm)
      subst this
      rw [hj] at q2
      injection q2 with q2
      exact hs (q2 ▸ q3)
theorem GI.step (h : GI base ps bs seen G) (hb : bs.Nodup) {j b p : Nat} (hj : bs[j]? = some b) (hp : ps[j]? = some p) : GI base ps bs (seen.push b) (Gup G p) := fun x => by
  unfold Gup
  by_cases hx : x = p
  · rw [if_pos hx, hx]
    refine ⟨fun _ => .inr ⟨j, b, hp, hj, by simp⟩, fun _ => rfl⟩
  · rw [if_neg hx, h x]
    constructor
    · rintro (q | ⟨j', b', q1, q2, q3⟩)
      · exact .inl q
      · exact .inr ⟨j', b', q1, q2, by simp [q3]⟩
    · rintro (q | ⟨j', b', q1, q2, q3⟩)
      · exact .inl q
      · rcases Array.mem_push.1 q3 with q3 | q3
        · exact .inr ⟨j', b', q1, q2, q3⟩
        · exfalso
          obtain ⟨l1, e1⟩ := List.getElem?_eq_some_iff.1 q2
          obtain ⟨l2, e2⟩ := List.getElem?_eq_some_iff.1 hj
          have : j' = j := nd_inj hb l1 l2 ((e1.trans q3).trans e2.symm)
          subst this
          rw [hp] at q1
          injection q1 with q1
          exact hx q1.symm
theorem GI.done (h : GI base ps bs seen G) (hl : bs.length = ps.length) (ha : ∀ b ∈ bs, b ∈ seen) (p : Nat) : G p = true ↔ p ∈ base ++ ps := by
  rw [h p, List.mem_append]
  constructor
  · rintro (q | ⟨j, b, q1, q2, q3⟩)
    · exact .inl q
    · exact .inr (List.mem_of_getElem? q1)
  · rintro (q | q)
    · exact .inl q
    · obtain ⟨j, hj⟩ := List.getElem?_of_mem q
      have hl' := (List.getElem?_eq_some_iff.1 hj).1
      exact .inr ⟨j, bs[j], hj, List.getElem?_eq_getElem (by omega), ha _ (List.getElem_mem (by omega))⟩
end
end Go.Proofs.Qxb6500568aGreatDoor
