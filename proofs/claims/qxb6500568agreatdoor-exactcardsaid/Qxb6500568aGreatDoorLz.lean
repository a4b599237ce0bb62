import Derived.Test.Qxb6500568aGreatDoorLy
namespace Go.Proofs.Qxb6500568aGreatDoor
open Ieee
set_option linter.unusedVariables false
set_option linter.unusedSimpArgs false
set_option linter.unusedSectionVars false

/-! Branches and loops of 'while'. -/

section
variable {G : Arena} {root : Nat} {Ps : List Proto} {Fs : Nat → FI} {i : IS} {a : AS} {ρ : List Nat} {x : ITh} {y : ATh} {f : AFr} {fs : List AFr} {seg ts : List Tk} {vs vals : List PV} {p j : Nat} {ids : List Nat} {od : List (Str × Nat)} {L : List Str} {hid : List Nat} {lc : List (Nat × Nat)} {fl : List (Nat × Nat)} {t : Tk}

theorem Hd.iffT {n e q b : Nat} {s g : StL} (H : Hd G root Ps Fs i a ρ x y f fs (⟨11, n, 0, e⟩ :: seg) ts vs vals p j ids od L hid fl) (h1 : IsSL G (nd G n).B s) (h2 : IsSL G (nd G n).C g) (hB : Bd i.envs ρ e (Dy f.slots od L)) (hl : L.length ≤ (pr Ps j).ns) (c1 : cod Ps j f.pc = some (22, q + 1)) (c2 : f.pc < q + 1) (c3 : CB Ps Fs j L L lc s (f.pc + 1) q) (c4 : cod Ps j q = some (21, b)) (c5 : q < b) (c6 : CB Ps Fs j L L lc g (q + 1) b)
    (hbk : BK G Ps Fs (Bd i.envs ρ) f.slots od vals.length j lc seg L hid fl) (hK : KK G Ps Fs i ρ f od vals j false b seg 0 L hid lc fl) (hm : f.ops.length = 1) : Adv G root Ps Fs i a := by
  obtain ⟨v, r, ho, hr⟩ := one_op (m := 0) hm
  have hr0 : r = [] := List.eq_nil_of_length_eq_zero hr
  subst hr0
  have hop : OpLt 0 fl := hK.oplt
  have hcq : ∃ z, cod Ps j (q + 1) = some z := by
    rcases CB_cod h2 c6 with h | h
    · exact h
    · rw [← h]; exact hK.code
  have hg := go_jf (y := y) (fs := fs) (vars := a.vars) H.hac H.S.da H.hk ho c1 c2 hcq H.o
  have hkt : KK G Ps Fs i ρ f od vals j false (f.pc + 1) (⟨1, (nd G n).B, 0, e⟩ :: seg) 0 L hid lc fl := .set (.block h1 hB c3 (List.prefix_refl _) hl hbk (.jmp c4 c5 hK))
  have hkf : KK G Ps Fs i ρ f od vals j false (q + 1) (⟨1, (nd G n).C, 0, e⟩ :: seg) 0 L hid lc fl := .set (.block h2 hB c6 (List.prefix_refl _) hl hbk hK)
  refine H.to (lc := lc) (l' := []) (seg' := ⟨1, if trV v then (nd G n).B else (nd G n).C, 0, e⟩ :: seg) (pc' := if trV v then f.pc + 1 else q + 1) ?_ hg (by simp) (fun u hu h2 => absurd (hop u hu h2) (by omega)) ?_ (nr_cons (by simp) (nr_tl H.V.nr))
  · simp only [istep1]
    simp [mkI_top H.hic, mkI_drop H.hic, mkI_do H.hic, H.vv, ho]
  · cases trV v
    · exact hkf
    · exact hkt
theorem Hd.loopT {z : Nat} (H : Hd G root Ps Fs i a ρ x y f fs (⟨4, 0, z, 0⟩ :: seg) ts vs vals p j ids od L hid fl) (hK : KK G Ps Fs i ρ f od vals j false f.pc seg 0 L hid lc fl) (hm : f.ops.length = 0) : Adv G root Ps Fs i a :=
  H.same (lc := lc) (m := 0) (by simp [istep1]) hm.symm hK (nr_tl H.V.nr)
theorem Hd.whileT {n e top m q : Nat} {c : Ex} {bd : StL} (H : Hd G root Ps Fs i a ρ x y f fs (⟨12, n, 0, e⟩ :: ⟨4, 0, vals.length + hid.length, 0⟩ :: seg) ts vs vals p j ids od L hid fl) (W : WhD G Ps Fs j n c bd L lc top m q) (ht : f.pc = top) (hB : Bd i.envs ρ e (Dy f.slots od L)) (hl : L.length ≤ (pr Ps j).ns) (hK : KK G Ps Fs i ρ f od vals j false (q + 1) seg 0 L hid lc fl) (hm : f.ops.length = 0) : Adv G root Ps Fs i a := by
  subst ht
  exact H.same (lc := lc) (m := 0) (seg' := ⟨2, (nd G n).A, 0, e⟩ :: ⟨13, n, 0, e⟩ :: ⟨4, 0, vals.length + hid.length, 0⟩ :: seg) (by simp only [istep1]; simp [mkI_do H.hic]) hm.symm (.set (.evl W.hc hB W.ce (by have := W.d; omega) hK.oplt (.set (.wtest W hB hl hK)))) (nr_cons (by simp) (nr_cons (by simp) (nr_tl H.V.nr)))
theorem Hd.wtestT {n e top m q : Nat} {c : Ex} {bd : StL} (H : Hd G root Ps Fs i a ρ x y f fs (⟨13, n, 0, e⟩ :: ⟨4, 0, vals.length + hid.length, 0⟩ :: seg) ts vs vals p j ids od L hid fl) (W : WhD G Ps Fs j n c bd L lc top m q) (ht : f.pc = m) (hB : Bd i.envs ρ e (Dy f.slots od L)) (hl : L.length ≤ (pr Ps j).ns) (hK : KK G Ps Fs i ρ f od vals j false (q + 1) seg 0 L hid lc fl) (hm : f.ops.length = 1) : Adv G root Ps Fs i a := by
  subst ht
  obtain ⟨v, r, ho, hr⟩ := one_op (m := 0) hm
  have hr0 : r = [] := List.eq_nil_of_length_eq_zero hr
  subst hr0
  have hop : OpLt 0 fl := hK.oplt
  have hg := go_jf (y := y) (fs := fs) (vars := a.vars) H.hac H.S.da H.hk ho W.i1 W.l1 hK.code H.o
  have hI : istep1 G root ⟨13, n, 0, e⟩ i (mkI i x (⟨4, 0, vals.length + hid.length, 0⟩ :: seg ++ ⟨3, p, vals.length, 0⟩ :: ts) (vs ++ vals)) = if trV v then mkI i x (⟨1, (nd G n).B, 0, e⟩ :: ⟨14, n, 0, e⟩ :: ⟨4, 0, vals.length + hid.length, 0⟩ :: seg ++ ⟨3, p, vals.length, 0⟩ :: ts) ([] ++ hvs a.vars f.slots hid ++ vals) else mkI i x (⟨4, 0, vals.length + hid.length, 0⟩ :: seg ++ ⟨3, p, vals.length, 0⟩ :: ts) ([] ++ hvs a.vars f.slots hid ++ vals) := by
    simp only [istep1]
    simp [mkI_top H.hic, mkI_drop H.hic, mkI_do H.hic, H.vv, ho]
  by_cases hv : trV v = true
  · rw [if_pos hv] at hg hI
    refine H.to (lc := (L.length, q + 1) :: lc) (l' := []) (seg' := ⟨1, (nd G n).B, 0, e⟩ :: ⟨14, n, 0, e⟩ :: ⟨4, 0, vals.length + hid.length, 0⟩ :: seg) (pc' := f.pc + 1) hI hg (by simp) (fun u hu h2 => absurd (hop u hu h2) (by omega)) ?_ (nr_cons (by simp) (nr_cons (by simp) (nr_tl H.V.nr)))
    exact .set (.block W.hbd hB W.cb (List.prefix_refl _) hl (.some (ts' := seg) (hid0 := hid) rfl (List.suffix_refl _) (List.suffix_refl _) (Nat.le_refl _) (by rw [List.take_length]; exact hK)) (.set (.wback W hB hl hK)))
  · rw [if_neg hv] at hg hI
    exact H.to (lc := lc) (l' := []) (seg' := ⟨4, 0, vals.length + hid.length, 0⟩ :: seg) (pc' := q + 1) hI hg (by simp) (fun u hu h2 => absurd (hop u hu h2) (by omega)) (.set (.loop hK)) (nr_tl H.V.nr)

theorem Sim.fuelE (S : Sim G root Ps Fs i a ρ) (n : Nat) : Sim G root Ps Fs { i with fuel := n } { a with fuel := n } ρ := by
  have := S.toSim0.flds n i.first i.out
  have e : ({ a with fuel := n, first := i.first, out := i.out } : AS) = { a with fuel := n } := by rw [S.first, S.out]
  rw [e] at this
  exact ⟨this, S.curst, S.curne⟩

/-- a round's end: one fuel, and back. -/
theorem Hd.back {k n e k2 top : Nat} {vars' vs' : List PV} {f' : AFr} {seg' : List Tk} {L' : List Str} {hid' : List Nat} {lc' fl' : List (Nat × Nat)} {es' : List Env} {ρ' : List Nat}
    (H : Hd G root Ps Fs i a ρ x y f fs (t :: seg) ts vs vals p j ids od L hid fl) (hI : istep1 G root t i (mkI i x (seg ++ ⟨3, p, vals.length, 0⟩ :: ts) (vs ++ vals)) = (let s1 := iburn (mkI i x (seg ++ ⟨3, p, vals.length, 0⟩ :: ts) (vs' ++ vals)); if s1.done then s1 else ido k2 n 0 e s1))
    (hA : Go Ps a (mkA a y fs f' vars')) (hS : Sim G root Ps Fs (mkI i x (⟨k2, n, 0, e⟩ :: seg ++ ⟨3, p, vals.length, 0⟩ :: ts) (vs' ++ vals)) (mkA a y fs { f' with pc := top } vars') ρ') (hcl : f'.clo = f.clo) (hc : cod Ps j f'.pc = some (21, top)) (hle : top ≤ f'.pc) (hq : ∃ z, cod Ps j top = some z) (ho : f'.ops.length ≤ 128) : Adv G root Ps Fs i a := by
  have hg := go_back (Ps := Ps) (y := y) (fs := fs) (f := f') (vars := vars') H.hac H.S.da (by rw [hcl]; exact H.hk) hc hle hq ho
  refine ⟨0, _, hA.trans hg, ?_⟩
  rw [stepN_one H.S.di, H.is, hI]
  unfold iburn
  have hf : (mkI i x (seg ++ ⟨3, p, vals.length, 0⟩ :: ts) (vs' ++ vals)).fuel = a.fuel := H.S.fuel
  simp only [hf]
  by_cases h0 : a.fuel = 0
  · rw [if_pos h0, if_pos h0]
    simp only [ifin, if_true]
    exact fin_rel (s := mkI i x (seg ++ ⟨3, p, vals.length, 0⟩ :: ts) (vs' ++ vals)) (t := mkA a y fs f' vars') H.S.fuel H.S.first H.S.out 9 [45]
  · rw [if_neg h0, if_neg h0]
    have hd : ({ mkI i x (seg ++ ⟨3, p, vals.length, 0⟩ :: ts) (vs' ++ vals) with fuel := a.fuel - 1 } : IS).done = false := H.S.di
    rw [if_neg (by rw [hd]; simp)]
    left
    refine ⟨ρ', ?_⟩
    have e1 : ({ mkI i x (seg ++ ⟨3, p, vals.length, 0⟩ :: ts) (vs' ++ vals) with fuel := a.fuel - 1 } : IS) = mkI { i with fuel := a.fuel - 1 } x (seg ++ ⟨3, p, vals.length, 0⟩ :: ts) (vs' ++ vals) := rfl
    rw [e1, mkI_do (i := { i with fuel := a.fuel - 1 }) H.hic]
    exact hS.fuelE (a.fuel - 1)
theorem Hd.wbackT {n e top m q : Nat} {c : Ex} {bd : StL} (H : Hd G root Ps Fs i a ρ x y f fs (⟨14, n, 0, e⟩ :: ⟨4, 0, vals.length + hid.length, 0⟩ :: seg) ts vs vals p j ids od L hid fl) (W : WhD G Ps Fs j n c bd L lc top m q) (ht : f.pc = q) (hB : Bd i.envs ρ e (Dy f.slots od L)) (hl : L.length ≤ (pr Ps j).ns) (hK : KK G Ps Fs i ρ f od vals j false (q + 1) seg 0 L hid lc fl) (hm : f.ops.length = 0) : Adv G root Ps Fs i a := by
  subst ht
  have ho : f.ops = [] := List.eq_nil_of_length_eq_zero hm
  have H' := H.re (ops' := []) (pc' := top) (seg' := ⟨12, n, 0, e⟩ :: ⟨4, 0, vals.length + hid.length, 0⟩ :: seg) (K.set (K.whl W hB hl hK)) (H.D.re (by rw [ho]; exact OpSame.refl _ _)) (by simp) (nr_cons (by simp) (nr_tl H.V.nr))
  refine H.back (k := 0) (k2 := 12) (n := n) (e := e) (top := top) (vs' := vs) (f' := f) (vars' := a.vars) (ρ' := ρ) (lc' := lc) (fl' := fl) (hid' := hid) (L' := L) (seg' := seg) (es' := []) ?_ ?_ ?_ rfl W.i2 W.l2 (CE_cod' W.hc W.ce) H.o
  · simp [istep1]
  · rw [H.ai]; exact .refl
  · have e1 : vs = [] ++ hvs a.vars f.slots hid := by rw [H.vv, ho]
    rw [e1]
    have e2 : ({ f with pc := top } : AFr) = { f with ops := [], pc := top } := by rw [← ho]
    rw [e2]
    exact H'.S
end

end Go.Proofs.Qxb6500568aGreatDoor
