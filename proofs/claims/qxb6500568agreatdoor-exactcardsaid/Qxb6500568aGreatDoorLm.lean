import Derived.Test.Qxb6500568aGreatDoorLl
namespace Go.Proofs.Qxb6500568aGreatDoor
open Ieee
set_option linter.unusedVariables false
set_option linter.unusedSimpArgs false
set_option linter.unusedSectionVars false

/-! The silent steps; the tasks that only turn the stacks. -/

section
variable {G : Arena} {root : Nat} {Ps : List Proto} {Fs : Nat → FI} {i : IS} {a : AS} {ρ : List Nat} {x : ITh} {y : ATh} {f : AFr} {fs : List AFr} {seg ts : List Tk} {vs vals : List PV} {p j : Nat} {ids : List Nat} {od : List (Str × Nat)} {L : List Str} {hid : List Nat} {lc : List (Nat × Nat)} {fl : List (Nat × Nat)}

abbrev KK (G : Arena) (Ps : List Proto) (Fs : Nat → FI) (i : IS) (ρ : List Nat) (f : AFr) (od : List (Str × Nat)) (vals : List PV) (j : Nat) (q : Bool) (pc : Nat) (seg : List Tk) (m : Nat) (L : List Str) (hid : List Nat) (lc : List (Nat × Nat)) (fl : List (Nat × Nat)) : Prop :=
  K G Ps Fs (Bd i.envs ρ) f.slots od vals.length j q pc seg m L hid lc fl

theorem cod_lt {pc : Nat} {z : Nat × Nat} (h : cod Ps j pc = some z) : pc < (pr Ps j).code.length := (List.getElem?_eq_some_iff.1 h).1

theorem settle : ∀ (n : Nat) {a : AS} {y : ATh} {f : AFr} {L : List Str} {hid : List Nat} {lc : List (Nat × Nat)} {fl : List (Nat × Nat)}, Hd G root Ps Fs i a ρ x y f fs seg ts vs vals p j ids od L hid fl → KK G Ps Fs i ρ f od vals j false f.pc seg f.ops.length L hid lc fl → (pr Ps j).code.length - f.pc ≤ n →
    ∃ a' y' f' L' hid' lc' fl', Go Ps a a' ∧ Hd G root Ps Fs i a' ρ x y' f' fs seg ts vs vals p j ids od L' hid' fl' ∧ KK G Ps Fs i ρ f' od vals j true f'.pc seg f'.ops.length L' hid' lc' fl' := by
  intro n
  induction n with
  | zero =>
    intro a y f L hid lc fl H hK hn
    obtain ⟨z, hz⟩ := hK.code
    have := cod_lt hz
    omega
  | succ n ih =>
    intro a y f L hid lc fl H hK hn
    unfold KK at hK
    generalize hpc : f.pc = pc at hK
    generalize hm : f.ops.length = m at hK
    generalize hq : false = q at hK
    cases hK using K.elim with
    | set k => subst hpc; subst hm; exact ⟨a, y, f, L, hid, lc, fl, .refl, H, k⟩
    | jmp h1 h2 k =>
      subst hpc; subst hm
      have hA := go_jmp (y := y) (fs := fs) (vars := a.vars) H.hac H.S.da H.hk h1 h2 k.code H.o
      rw [H.ai] at hA
      have H' := H.re (ops' := f.ops) k (H.D.re (OpSame.refl _ _)) H.o H.V.nr
      have e1 : (f.ops ++ hid.map fun s => a.vars.getD (f.slots.getD s 0) vNil) = vs := H.D.v.symm
      rw [e1, xeta H, H.ii] at H'
      obtain ⟨a', y', f', L', hid', lc', fl', g1, g2, g3⟩ := ih H' k (by have := cod_lt h1; show _ - _ ≤ n; simp only; omega)
      exact ⟨a', y', f', L', hid', lc', fl', hA.trans g1, g2, g3⟩
    | @close pc0 nn ts0 L0 hid0 lc0 fl0 h1 h2 h3 k =>
      subst hpc
      have ho : f.ops = [] := List.eq_nil_of_length_eq_zero hm
      have hA := go_close (y := y) (fs := fs) (vars := a.vars) H.hac H.S.da H.hk h1 (by omega) H.o
      rw [H.ai] at hA
      have H' := H.close ho (by omega) (List.suffix_refl _) k H.V.nr
      have e1 : hvs a.vars f.slots hid = vs := by rw [H.D.v, ho]; rfl
      rw [e1, xeta H, H.ii] at H'
      have k' := k.mono (sl' := f.slots.take nn ++ (List.range (f.slots.length - nn)).map (a.vars.length + ·)) (fun _ _ h => h) (fun s nm q1 q2 => by
        have := (List.getElem?_eq_some_iff.1 q1).1
        rw [new_get (by rw [H.D.n]; omega), if_pos (by simp at this; omega)])
      obtain ⟨a', y', f', L', hid', lc', fl', g1, g2, g3⟩ := ih H' (by unfold KK; simp only [ho]; exact k') (by have := cod_lt h1; simp only; omega)
      exact ⟨a', y', f', L', hid', lc', fl', hA.trans g1, g2, g3⟩
    | stash h1 h2 h3 k =>
      subst hpc
      obtain ⟨v, hv⟩ : ∃ v, f.ops = [v] := by
        match hops : f.ops, hm with
        | [v], _ => exact ⟨v, rfl⟩
      have hA := go_setl (y := y) (fs := fs) (vars := a.vars) H.hac H.S.da H.hk hv h1 h3 H.o
      rw [H.ai] at hA
      have H' := H.stash hv h2 h3 k
      obtain ⟨a', y', f', L', hid', lc', fl', g1, g2, g3⟩ := ih H' k (by have := cod_lt h1; simp only; omega)
      exact ⟨a', y', f', L', hid', lc', fl', hA.trans g1, g2, g3⟩
    | _ => cases hq

/-- the interpreter's step, its first task in hand. -/
theorem Hd.is {t : Tk} (H : Hd G root Ps Fs i a ρ x y f fs (t :: seg) ts vs vals p j ids od L hid fl) : istep G root i = istep1 G root t i (mkI i x (seg ++ ⟨3, p, vals.length, 0⟩ :: ts) (vs ++ vals)) := by
  have h := istep_mk (i := i) (x := x) (T := seg ++ ⟨3, p, vals.length, 0⟩ :: ts) (V := vs ++ vals) H.hic G root t
  have e : mkI i x (t :: (seg ++ ⟨3, p, vals.length, 0⟩ :: ts)) (vs ++ vals) = i := H.ii
  rw [e] at h
  exact h

/-- the stack of the interpreter: operands, hidden values, the rest. -/
theorem Hd.vv (H : Hd G root Ps Fs i a ρ x y f fs seg ts vs vals p j ids od L hid fl) : vs = f.ops ++ hvs a.vars f.slots hid := H.D.v

theorem nr_tl {t : Tk} {seg : List Tk} (h : ∀ u ∈ t :: seg, u.k ≠ 3) : ∀ u ∈ seg, u.k ≠ 3 := fun u hu => h u (by simp [hu])

/-- tasks are pushed; the machine stands still. -/
theorem Hd.same {t : Tk} {m : Nat} (H : Hd G root Ps Fs i a ρ x y f fs (t :: seg) ts vs vals p j ids od L hid fl) {seg' : List Tk} (hI : istep1 G root t i (mkI i x (seg ++ ⟨3, p, vals.length, 0⟩ :: ts) (vs ++ vals)) = mkI i x (seg' ++ ⟨3, p, vals.length, 0⟩ :: ts) (vs ++ vals))
    (hm : m = f.ops.length) (hK : KK G Ps Fs i ρ f od vals j false f.pc seg' m L hid lc fl) (nr : ∀ t ∈ seg', t.k ≠ 3) : Adv G root Ps Fs i a := by
  subst hm
  refine H.adv0 (ops' := f.ops) (pc' := f.pc) ?_ ?_ hK (H.D.re (OpSame.refl _ _)) H.o nr
  · rw [H.is, hI]
    congr 2
    exact H.D.v
  · have : mkA a y fs { f with ops := f.ops, pc := f.pc } a.vars = a := H.ai
    rw [this]
    exact .refl
/-- a value is pushed by both. -/
theorem Hd.push {t : Tk} {v : PV} (H : Hd G root Ps Fs i a ρ x y f fs (t :: seg) ts vs vals p j ids od L hid fl) (hI : istep1 G root t i (mkI i x (seg ++ ⟨3, p, vals.length, 0⟩ :: ts) (vs ++ vals)) = mkI i x (seg ++ ⟨3, p, vals.length, 0⟩ :: ts) (v :: (vs ++ vals)))
    (hA : Go Ps (mkA a y fs f a.vars) (mkA a y fs { f with ops := v :: f.ops, pc := f.pc + 1 } a.vars)) (hl : f.ops.length + 1 ≤ 128) (hop : OpLt f.ops.length fl) (hK : KK G Ps Fs i ρ f od vals j false (f.pc + 1) seg (f.ops.length + 1) L hid lc fl) : Adv G root Ps Fs i a := by
  rw [H.ai] at hA
  refine H.adv0 (ops' := v :: f.ops) (pc' := f.pc + 1) ?_ hA hK (H.D.re (OpSame.of hop [] [v])) (by simpa using hl) (nr_tl H.V.nr)
  rw [H.is, hI]
  congr 1
  rw [H.D.v]
  rfl
/-- the operands l are left behind, v on top. -/
theorem Hd.to {t : Tk} {l' : List PV} {seg' : List Tk} {pc' : Nat} (H : Hd G root Ps Fs i a ρ x y f fs (t :: seg) ts vs vals p j ids od L hid fl) (hI : istep1 G root t i (mkI i x (seg ++ ⟨3, p, vals.length, 0⟩ :: ts) (vs ++ vals)) = mkI i x (seg' ++ ⟨3, p, vals.length, 0⟩ :: ts) (l' ++ hvs a.vars f.slots hid ++ vals))
    (hA : Go Ps (mkA a y fs f a.vars) (mkA a y fs { f with ops := l', pc := pc' } a.vars)) (hl : l'.length ≤ 128) (hop : OpSame fl f.ops l') (hK : KK G Ps Fs i ρ f od vals j false pc' seg' l'.length L hid lc fl) (nr : ∀ t ∈ seg', t.k ≠ 3) : Adv G root Ps Fs i a := by
  rw [H.ai] at hA
  refine H.adv0 (ops' := l') (pc' := pc') ?_ hA hK (H.D.re hop) hl nr
  rw [H.is, hI]
  rfl

/-! the scope -/

theorem Hd.nsl (H : Hd G root Ps Fs i a ρ x y f fs seg ts vs vals p j ids od L hid fl) : L.length ≤ f.slots.length := by rw [H.D.n]; exact H.D.l

theorem look_vis (sl : List Nat) (od : List (Str × Nat)) (L : List Str) (nm : Str) : lookA (Dy sl od L) nm = match lookA (vis L) nm with | some s => some (sl.getD s 0) | none => lookA od nm := by
  unfold Dy
  rw [lookA_app, lookA_map (vis L) (fun s => sl.getD s 0)]
  cases lookA (vis L) nm <;> rfl
theorem lookA_mem : ∀ {l : List (Str × Nat)} {nm : Str} {s : Nat}, lookA l nm = some s → (nm, s) ∈ l
  | q :: l, nm, s, h => by
    simp only [lookA] at h
    split at h
    · rename_i hq; cases h; subst hq; simp
    · exact List.mem_cons_of_mem _ (lookA_mem h)

/-- a variable's one instruction, read: both push the same. -/
theorem Hd.name {n e : Nat} {s : Str} (H : Hd G root Ps Fs i a ρ x y f fs (⟨2, n, 0, e⟩ :: seg) ts vs vals p j ids od L hid fl) (hN : IsE G n (.name s)) (hB : Bd i.envs ρ e (Dy f.slots od L)) (hC : CV Ps Fs j L s f.pc 5 7 9) (hl : f.ops.length + 1 ≤ 128) (hop : OpLt f.ops.length fl)
    (hK : KK G Ps Fs i ρ f od vals j false (f.pc + 1) seg (f.ops.length + 1) L hid lc fl) : Adv G root Ps Fs i a := by
  simp only [IsE] at hN
  obtain ⟨hn0, hn1, hn2⟩ := hN
  have hI0 : istep1 G root ⟨2, n, 0, e⟩ i (mkI i x (seg ++ ⟨3, p, vals.length, 0⟩ :: ts) (vs ++ vals)) = (if i.find e s ≠ 0 then mkI i x (seg ++ ⟨3, p, vals.length, 0⟩ :: ts) (i.var (i.find e s) :: (vs ++ vals)) else mkI i x (seg ++ ⟨3, p, vals.length, 0⟩ :: ts) (tGet (i.tabs.getD 0 []) (vStr s) :: (vs ++ vals))) := by
    simp only [istep1, ieval]
    simp [hn0, hn1, hn2, mkI_push H.hic]
    rfl
  have hlk := look_vis f.slots od L s
  rcases find_bd hB s with ⟨h1, h2⟩ | ⟨k, z, h1, h2, h3⟩
  · rw [h2] at hlk
    unfold CV at hC
    cases hv : lookA (vis L) s with
    | some t => rw [hv] at hlk; cases hlk
    | none =>
      rw [hv] at hlk hC
      simp only at hlk hC
      rw [lookA_posN, H.U.1] at hlk
      cases hp : posN (Fs j).outer s with
      | some q =>
        exfalso
        rw [hp] at hlk
        have := posN_get hp
        rw [← H.U.1, List.getElem?_map] at this
        cases ho : od[q]? with
        | none => rw [ho] at this; cases this
        | some w => simp [ho] at hlk
      | none =>
        rw [hp] at hC
        obtain ⟨k, hc1, hc2⟩ := hC
        refine H.push (v := tGet (i.tabs.getD 0 []) (vStr s)) ?_ ?_ hl hop hK
        · rw [hI0, if_neg (by simp [h1])]
        · rw [H.S.tabs]
          exact go_getg H.hac H.S.da H.hk hc1 hc2 (by omega)
  · rw [h3] at hlk
    have hval : i.var (i.find e s) = a.vars.getD (ρ.getD k 0) vNil := by
      unfold IS.var
      rw [h1, Nat.add_sub_cancel, h2]
      exact ((H.S.rval k z h2).1).symm
    unfold CV at hC
    cases hv : lookA (vis L) s with
    | some t =>
      rw [hv] at hlk hC
      simp only [Option.some.injEq] at hlk hC
      have htl : t < f.slots.length := Nat.lt_of_lt_of_le (List.getElem?_eq_some_iff.1 (vis_mem (lookA_mem hv)).1).1 H.nsl
      refine H.push (v := a.vars.getD (f.slots.getD t 0) vNil) ?_ ?_ hl hop hK
      · rw [hI0, if_pos (by omega), hval, hlk]
      · exact go_getl H.hac H.S.da H.hk hC (by rw [← H.D.n]; exact htl) (by omega)
    | none =>
      rw [hv] at hlk hC
      simp only at hlk hC
      rw [lookA_posN, H.U.1] at hlk
      cases hp : posN (Fs j).outer s with
      | none => rw [hp] at hlk; cases hlk
      | some q =>
        rw [hp] at hlk hC
        obtain ⟨u, hc1, hc2⟩ := hC
        obtain ⟨w, nm, hu1, hu2⟩ := H.U.2.2 u q hc2
        simp only [Option.bind_some, hu2, Option.map_some, Option.some.injEq] at hlk
        refine H.push (v := a.vars.getD (ids.getD u 0) vNil) ?_ ?_ hl hop hK
        · rw [hI0, if_pos (by omega), hval, hlk]
          congr 2
          rw [List.getD_eq_getElem?_getD, List.getD_eq_getElem?_getD, List.getD_eq_getElem?_getD, hu1]
          rfl
        · exact go_getu H.hac H.S.da H.hk hc1 (List.getElem?_eq_some_iff.1 hu1).1 (by omega)
end

end Go.Proofs.Qxb6500568aGreatDoor
