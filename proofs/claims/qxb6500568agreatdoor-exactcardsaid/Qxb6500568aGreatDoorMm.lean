import Derived.Test.Qxb6500568aGreatDoorMl
namespace Go.Proofs.Qxb6500568aGreatDoor
open Ieee
set_option linter.unusedVariables false
set_option linter.unusedSimpArgs false
set_option linter.unusedSectionVars false

/-! The interpreter's run ends, and the variable machine's with the same answer. -/

/-- the interpreter's run: steps to the run's end, at most n. -/
def itN (G : Arena) (root : Nat) : Nat → IS → IS
  | 0, s => s
  | n + 1, s => if s.done = true then s else itN G root n (istep G root s)

section
variable {G : Arena} {root : Nat} {Ps : List Proto} {Fs : Nat → FI} {i s : IS} {a : AS} {ρ : List Nat}

theorem itN_succ (n : Nat) (s : IS) : itN G root (n + 1) s = if s.done = true then s else itN G root n (istep G root s) := rfl
theorem stepN_def (n : Nat) (s : IS) : stepN G root (n + 1) s = if s.done = true then s else stepC G root n (istep G root s) := rfl
theorem itN_done (h : s.done = true) : ∀ n, itN G root n s = s
  | 0 => rfl
  | n + 1 => by unfold itN; rw [if_pos h]
theorem itN_add : ∀ (m n : Nat) (s : IS), itN G root n (itN G root m s) = itN G root (m + n) s
  | 0, n, s => by rw [Nat.zero_add]; rfl
  | m + 1, n, s => by
    rw [show m + 1 + n = (m + n) + 1 by omega, itN_succ, itN_succ]
    by_cases h : s.done = true
    · rw [if_pos h, if_pos h]; exact itN_done h n
    · rw [if_neg h, if_neg h]; exact itN_add m n _
theorem stepC_it : ∀ (n : Nat) (s : IS), ∃ k, stepC G root n s = itN G root k s
  | 0, s => ⟨0, rfl⟩
  | n + 1, s => by
    unfold stepC
    by_cases h : s.done = true ∨ h17 s = true
    · rw [if_pos h]; exact ⟨0, rfl⟩
    · rw [if_neg h]
      obtain ⟨k, hk⟩ := stepC_it n (istep G root s)
      refine ⟨k + 1, ?_⟩
      rw [hk, itN_succ]
      rw [if_neg (fun q => h (.inl q))]
theorem stepN_it (n : Nat) (s : IS) : ∃ k, stepN G root n s = itN G root k s := by
  cases n with
  | zero => exact ⟨0, rfl⟩
  | succ n =>
    rw [stepN_def]
    by_cases h : s.done = true
    · rw [if_pos h]; exact ⟨0, rfl⟩
    · rw [if_neg h]
      obtain ⟨k, hk⟩ := stepC_it n (istep G root s)
      refine ⟨k + 1, ?_⟩
      rw [hk, itN_succ]
      rw [if_neg h]

theorem Sim.numAt (S : Sim G root Ps Fs i a ρ) : NumAt i := by
  intro t r ht hk
  obtain ⟨x, y0, f0, fs, seg, ts, vs, vals, p, V⟩ := S.view
  obtain ⟨j, ids, od, L0, hid0, lc0, fl0, h1, h2, h3, h4, h5⟩ := V.fr
  have H0 : Hd G root Ps Fs i a ρ x y0 f0 fs seg ts vs vals p j ids od L0 hid0 fl0 := ⟨S, V, h1, h2, h4, by simpa using h5⟩
  obtain ⟨a', y, f, L, hid, lc, fl, g, H, hK⟩ := settle _ H0 (by simpa using h3) (Nat.le_refl _)
  have hth : i.th = x := getD_of V.hx
  have e1 : seg ++ ⟨3, p, vals.length, 0⟩ :: ts = t :: r := by rw [← ht, hth, V.ht]
  have e2 : i.top 2 = (vs ++ vals).getD 2 vNil := by unfold IS.top; rw [hth, V.hv]
  clear h3 h4 H0 g
  unfold KK at hK
  generalize hm : f.ops.length = m at hK
  generalize hpc : f.pc = pc at hK
  generalize hq : true = q at hK
  cases hK using K.elim with
  | fback F hB k =>
    have ho : f.ops = [] := List.eq_nil_of_length_eq_zero hm
    have hF := (H.D.f _ (List.mem_cons_self)).1
    unfold FlD at hF
    rw [if_pos rfl] at hF
    rw [e2, H.vv, ho]
    exact (hF 0 (by omega)).1
  | _ =>
    first
    | (cases hq; done)
    | (simp only [List.cons_append, List.nil_append, List.cons.injEq] at e1
       rw [← e1.1] at hk
       simp at hk)

theorem IOK.stepC (hA : AOK G) : ∀ (n : Nat) {s : IS}, IOK s → IOK (stepC G root n s)
  | 0, s, h => h
  | n + 1, s, h => by
    unfold Go.Proofs.Qxb6500568aGreatDoor.stepC
    by_cases q : s.done = true ∨ h17 s = true
    · rw [if_pos q]; exact h
    · rw [if_neg q]
      refine IOK.stepC hA n (h.step hA (fun t r ht hk => ?_))
      exfalso
      refine q (.inr ?_)
      unfold h17; rw [ht]; simp [hk]
theorem IOK.stepN (hA : AOK G) (n : Nat) (h : IOK s) (hN : NumAt s) : IOK (stepN G root n s) := by
  cases n with
  | zero => exact h
  | succ n =>
    rw [stepN_def]
    by_cases q : s.done = true
    · rw [if_pos q]; exact h
    · rw [if_neg q]; exact IOK.stepC hA n (h.step hA hN)

theorem dn_le {b : Nat} (h : ThsW G s.ths b) : (istep G root s).done = true ∨ (istep G root s).fuel < s.fuel ∨ ∃ b', b' ≤ b ∧ ThsW G (istep G root s).ths b' := by
  cases ht : s.th.tasks with
  | nil =>
    have e : istep G root s = s := by unfold istep; rw [ht]
    rw [e]; exact .inr (.inr ⟨b, Nat.le_refl _, h⟩)
  | cons t r =>
    have hc : s.cur < s.ths.length := by
      refine Classical.byContradiction fun q => ?_
      have e : s.th = ITh.zero := by unfold IS.th; rw [List.getD_eq_getElem?_getD, List.getElem?_eq_none (by omega)]; rfl
      rw [e] at ht; cases ht
    rcases dn_step (root := root) ⟨hc, h⟩ ht with q | q | ⟨b', q1, q2⟩
    · exact .inl q
    · exact .inr (.inl q)
    · exact .inr (.inr ⟨b', by omega, q2⟩)
theorem Dn.stepC {f m : Nat} : ∀ (n : Nat) {s : IS}, Dn G f m s → s.fuel ≤ f → Dn G f m (stepC G root n s)
  | 0, s, h, hf => h
  | n + 1, s, h, hf => by
    unfold Go.Proofs.Qxb6500568aGreatDoor.stepC
    by_cases q : s.done = true ∨ h17 s = true
    · rw [if_pos q]; exact h
    · rw [if_neg q]
      have hl := istep_fuel (G := G) (root := root) s
      refine Dn.stepC n ?_ (by omega)
      rcases h with h | h | ⟨b, h1, h2⟩
      · exact absurd (.inl h) q
      · exact .inr (.inl (by omega))
      · rcases dn_le (root := root) h2 with k | k | ⟨b', k1, k2⟩
        · exact .inl k
        · exact .inr (.inl (by omega))
        · exact .inr (.inr ⟨b', by omega, k2⟩)
theorem stepC_fuel : ∀ (n : Nat) (s : IS), (stepC G root n s).fuel ≤ s.fuel
  | 0, s => Nat.le_refl _
  | n + 1, s => by
    unfold Go.Proofs.Qxb6500568aGreatDoor.stepC
    by_cases q : s.done = true ∨ h17 s = true
    · rw [if_pos q]; exact Nat.le_refl _
    · rw [if_neg q]; exact Nat.le_trans (stepC_fuel n _) (istep_fuel s)

/-- both runs end, with one answer. -/
def Ends (G : Arena) (root : Nat) (Ps : List Proto) (i : IS) (a : AS) : Prop :=
  ∃ n a', Go Ps a a' ∧ (itN G root n i).done = true ∧ a'.done = true ∧ (itN G root n i).ans = a'.ans

theorem run_sim (hA : AOK G) : ∀ (fu w : Nat) {i : IS} {a : AS} {ρ : List Nat}, Sim G root Ps Fs i a ρ → IOK i → i.fuel = fu → ThsW G i.ths w → Ends G root Ps i a := by
  intro fu
  induction fu using Nat.strongRecOn with
  | ind fu ihf =>
    intro w
    induction w using Nat.strongRecOn with
    | ind w ihw =>
      intro i a ρ S I hfu hW
      obtain ⟨n, a', g, r⟩ := sim_step S I.valOK
      have I' := IOK.stepN (root := root) hA (n + 1) I S.numAt
      have hs := stepN_succ (G := G) (root := root) S.di n
      obtain ⟨k, hk⟩ := stepN_it (G := G) (root := root) (n + 1) i
      rcases r with ⟨ρ', S'⟩ | ⟨d1, d2, d3⟩
      · have key : Ends G root Ps (stepN G root (n + 1) i) a' := by
          have ht : ∃ t r, i.th.tasks = t :: r := by
            obtain ⟨x, y0, f0, fs, seg, ts, vs, vals, p, V⟩ := S.view
            have hth : i.th = x := getD_of V.hx
            rw [hth, V.ht]
            cases seg with
            | nil => exact ⟨_, _, rfl⟩
            | cons t seg => exact ⟨_, _, rfl⟩
          obtain ⟨t, r, ht⟩ := ht
          have h1 := dn_step (root := root) ⟨S.curlt, hW⟩ ht
          have h2 := Dn.stepC (root := root) n h1 (istep_fuel i)
          have h3 : (stepN G root (n + 1) i).fuel ≤ i.fuel := by rw [hs]; exact Nat.le_trans (stepC_fuel n _) (istep_fuel i)
          rw [← hs] at h2
          rcases h2 with h2 | h2 | ⟨b, h2, h4⟩
          · exact absurd h2 (by rw [S'.di]; decide)
          · obtain ⟨w', hw'⟩ := S'.toSim0.wt
            exact ihf _ (by omega) w' S' I' rfl hw'.w
          · by_cases he : (stepN G root (n + 1) i).fuel = fu
            · exact ihw b h2 S' I' he h4
            · exact ihf _ (by omega) b S' I' rfl h4
        obtain ⟨m, a2, g2, e1, e2, e3⟩ := key
        rw [hk, itN_add] at e1 e3
        exact ⟨k + m, a2, g.trans g2, e1, e2, e3⟩
      · rw [hk] at d1 d3
        exact ⟨k, a', g, d1, d2, d3⟩
end

end Go.Proofs.Qxb6500568aGreatDoor
