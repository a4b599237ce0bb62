import Derived.Test.Qxb6500568aGreatDoorMm
namespace Go.Proofs.Qxb6500568aGreatDoor
open Ieee
set_option linter.unusedVariables false
set_option linter.unusedSimpArgs false
set_option linter.unusedSectionVars false

/-! The start of a run. -/

section
variable {G : Arena} {root : Nat} {Ps : List Proto} {Fs : Nat → FI}

theorem start_sim (hF : FnD G root Ps Fs 0 0) (h0 : Fs 0 = ⟨[], []⟩) (fuel : Nat) : ∃ ρ, Sim G root Ps Fs (istart G root fuel) (astart Ps fuel) ρ := by
  have S : Sim0 G root Ps Fs ⟨[], [(0, 0)], [⟨4, 0, 0, [], []⟩], [], 0, fuel, 0, [], glob, false, ⟨0, 0, 0, [], []⟩⟩ ⟨[], [(0, [])], [⟨4, 0, []⟩], [], 0, fuel, 0, [], glob, false, ⟨0, 0, 0, [], []⟩⟩ [] := by
    refine ⟨rfl, rfl, rfl, rfl, rfl, rfl, rfl, rfl, rfl, List.nodup_nil, fun k x h => by simp at h, List.nodup_nil, fun s h => by simp [slotsOf] at h, rfl, fun c n e h => ?_, rfl, fun t x y h1 h2 => ?_, (show 0 < 1 by decide), fun c h => by simp at h, List.nodup_nil, rfl⟩
    · cases c with
      | zero =>
        simp at h
        obtain ⟨rfl, rfl⟩ := h
        exact ⟨0, [], [], rfl, ⟨by rw [h0]; rfl, (by rw [h0]), fun u p h => by rw [h0] at h; simp at h⟩, ⟨[], rfl, rfl⟩, hF⟩
      | succ c => simp at h
    · cases t with
      | zero =>
        simp at h1 h2
        subst h1; subst h2
        exact ⟨rfl, rfl, rfl, FrL.nil, (fun h => by rcases h with h | h <;> cases h), fun _ => rfl, (fun h => by cases h), by decide⟩
      | succ t => simp at h1
  have h := enter_sim (x := ⟨4, 0, 0, [], []⟩) (y := ⟨4, 0, []⟩) S rfl rfl (by simp) rfl (F := []) (T := []) (V := []) FrL.nil (List.Sublist.refl _) (c := 0) (n := 0) (e := 0) rfl [] (p := 0) (by omega) (fun _ => rfl)
  exact h

theorem glob_ok : ∀ t ∈ glob, TOK t ∧ ∀ q ∈ t, VV 1 1 1 q.1 ∧ VV 1 1 1 q.2 := by
  have hb : ∀ b, b < 11 → (biName (b + 1)).length ≤ 40 := by decide
  have hi : ∀ i, i < 11 → ∀ j, j < 11 → biName (i + 1) = biName (j + 1) → i = j := by decide
  have hv1 : ∀ b, b < 11 → VV 1 1 1 (vStr (biName (b + 1))) := fun b h => VV.str _ _ _ (hb b h)
  have hv2 : ∀ b, b < 11 → VV 1 1 1 (vBi (b + 1)) := fun b h => ⟨by unfold wfV vBi; simp; omega, by show b + 1 < _; omega, (fun q => by cases q), (fun q => by cases q), (fun q => by cases q), (fun q => by cases q)⟩
  intro t ht
  simp only [glob, List.mem_singleton] at ht
  subst ht
  have hg : ∀ (i : Nat) k v, ((List.range 11).map fun b => (vStr (biName (b + 1)), vBi (b + 1)))[i]? = some (k, v) → i < 11 ∧ k = vStr (biName (i + 1)) ∧ v = vBi (i + 1) := by
    intro i k v h
    have hl := (List.getElem?_eq_some_iff.1 h).1
    simp at hl
    rw [List.getElem?_map, List.getElem?_range hl] at h
    simp at h
    exact ⟨hl, h.1.symm, h.2.symm⟩
  refine ⟨⟨by simp, fun i k v h => ?_, fun i j k u v h1 h2 => ?_⟩, fun q hq => ?_⟩
  · obtain ⟨h1, rfl, rfl⟩ := hg i k v h
    exact ⟨(hv1 i h1).wf, (hv2 i h1).wf, (show (3 : Nat) ≠ 0 by decide), (fun q => by cases q), rfl, (hv1 i h1).w⟩
  · obtain ⟨h3, rfl, -⟩ := hg i k u h1
    obtain ⟨h4, h5, -⟩ := hg j _ v h2
    exact hi i h3 j h4 (by injection h5)
  · obtain ⟨b, hb, rfl⟩ := List.mem_map.1 hq
    have := List.mem_range.1 hb
    exact ⟨hv1 b this, hv2 b this⟩

theorem start_iok (fuel : Nat) : IOK (istart G root fuel) := by
  unfold istart
  refine IOK.enter (s := ⟨[], [(0, 0)], [⟨4, 0, 0, [], []⟩], [], 0, fuel, 0, [], glob, false, ⟨0, 0, 0, [], []⟩⟩) ⟨fun z h => by simp at h, fun t ht v hv => ?_, glob_ok, (show 1 ≤ 24 by decide), (show 1 ≤ 5 by decide), (show 1 ≤ 12 by decide)⟩ (fun v h => by simp at h)
  simp at ht
  subst ht
  simp at hv

/-- the interpreter and the variable machine end with one answer. -/
theorem start_ends (hA : AOK G) (hF : FnD G root Ps Fs 0 0) (h0 : Fs 0 = ⟨[], []⟩) (fuel : Nat) : Ends G root Ps (istart G root fuel) (astart Ps fuel) := by
  obtain ⟨ρ, S⟩ := start_sim hF h0 fuel
  obtain ⟨w, hw⟩ := S.toSim0.wt
  exact run_sim hA _ w S (start_iok fuel) rfl hw.w
end

end Go.Proofs.Qxb6500568aGreatDoor
