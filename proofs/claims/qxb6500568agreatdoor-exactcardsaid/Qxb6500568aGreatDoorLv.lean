import Derived.Test.Qxb6500568aGreatDoorLu
namespace Go.Proofs.Qxb6500568aGreatDoor
open Ieee
set_option linter.unusedVariables false
set_option linter.unusedSimpArgs false
set_option linter.unusedSectionVars false

/-! Names stored, names bound; the block's end; the frame's end. -/

section
variable {G : Arena} {root : Nat} {Ps : List Proto} {Fs : Nat → FI} {i : IS} {a : AS} {ρ : List Nat} {x : ITh} {y : ATh} {f : AFr} {fs : List AFr} {seg ts : List Tk} {vs vals : List PV} {p j : Nat} {ids : List Nat} {od : List (Str × Nat)} {L : List Str} {hid : List Nat} {lc : List (Nat × Nat)} {fl : List (Nat × Nat)} {t : Tk}

theorem Hd.storeN {n e : Nat} (H : Hd G root Ps Fs i a ρ x y f fs (⟨9, n, 0, e⟩ :: seg) ts vs vals p j ids od L hid fl) (hC : CV Ps Fs j L (nd G n).S f.pc 6 8 10) (hB : Bd i.envs ρ e (Dy f.slots od L)) (hm : f.ops.length = 1) (hK : KK G Ps Fs i ρ f od vals j false (f.pc + 1) seg 0 L hid lc fl) : Adv G root Ps Fs i a := by
  obtain ⟨v, r, ho, hr⟩ := one_op (m := 0) hm
  have hr0 : r = [] := List.eq_nil_of_length_eq_zero hr
  subst hr0
  obtain ⟨s, hs⟩ : ∃ s, (nd G n).S = s := ⟨_, rfl⟩
  rw [hs] at hC
  have hov := H.o
  have hI0 : istep1 G root ⟨9, n, 0, e⟩ i (mkI i x (seg ++ ⟨3, p, vals.length, 0⟩ :: ts) (vs ++ vals)) = (if i.find e s ≠ 0 then setE (i.find e s) v (mkI i x (seg ++ ⟨3, p, vals.length, 0⟩ :: ts) (([] ++ hvs a.vars f.slots hid) ++ vals)) else iset (vTab 0) (vStr s) v (mkI i x (seg ++ ⟨3, p, vals.length, 0⟩ :: ts) (([] ++ hvs a.vars f.slots hid) ++ vals))) := by
    simp only [istep1]
    simp [mkI_top H.hic, mkI_drop H.hic, H.vv, ho, hs]
    rfl
  have hlk := look_vis f.slots od L s
  have key : ∀ (k : Nat) (z : Env), i.find e s = k + 1 → i.envs[k]? = some z → Go Ps (mkA a y fs f a.vars) (mkA a y fs { f with ops := [], pc := f.pc + 1 } (a.vars.set (ρ.getD k 0) v)) → Adv G root Ps Fs i a := by
    intro k z h1 h2 hg
    rw [H.ai] at hg
    obtain ⟨ρ', S'⟩ := H.setVar h2 v (d := [v]) (l := []) ho (pc' := f.pc + 1) (seg' := seg) (by simp) hK.oplt hK.hidden hK (nr_tl H.V.nr)
    refine ⟨0, _, hg, .inl ⟨ρ', ?_⟩⟩
    rw [stepN_one H.S.di, H.is, hI0, if_pos (by omega), h1]
    exact S'
  rcases find_bd hB s with ⟨h1, h2⟩ | ⟨k, z, h1, h2, h3⟩
  · rw [h2] at hlk
    unfold CV at hC
    cases hv : lookA (vis L) s with
    | some t => rw [hv] at hlk; cases hlk
    | none =>
      rw [hv] at hlk hC
      simp only at hlk hC
      rw [lookA_posN, H.U.1] at hlk
      cases hp : posN (Fs j).outer s with
      | some q =>
        exfalso
        rw [hp] at hlk
        have := posN_get hp
        rw [← H.U.1, List.getElem?_map] at this
        cases ho : od[q]? with
        | none => rw [ho] at this; cases this
        | some w => simp [ho] at hlk
      | none =>
        rw [hp] at hC
        obtain ⟨k, hc1, hc2⟩ := hC
        refine H.store (op := 10) (z := k) (tv := vTab 0) (k := vStr s) (v := v) (d := [v]) (l := []) ho (H.sound hc1 (rng9 (.inr rfl) (by rw [H.pro]; exact hc2)) (by simp [needO, hm]) (by simp [growsO]) (by simp)) ?_ ?_ (by simp) hK.oplt hK
        · rw [hI0, if_neg (by simp [h1])]
        · rw [H.plain hc1 (by omega) (by omega) (by omega) (by omega) (by omega) (by omega), ← H.stk]
          have hpp := mk_pro2 (y := y) (fs := fs) (vars := a.vars) H.hk
          have hx' : (Ps.getD j Proto.zero).ks.getD k vNil = vStr s := getD_of (by unfold con at hc2; exact hc2)
          unfold aplain
          simp only [mk_fr H.hac, ho, hpp, hx', Nat.reduceEqDiff, if_false, if_true]
          rfl
  · rw [h3] at hlk
    unfold CV at hC
    cases hv : lookA (vis L) s with
    | some t =>
      rw [hv] at hlk hC
      simp only [Option.some.injEq] at hlk hC
      have htl : t < f.slots.length := Nat.lt_of_lt_of_le (List.getElem?_eq_some_iff.1 (vis_mem (lookA_mem hv)).1).1 H.nsl
      refine key k z h1 h2 ?_
      rw [hlk]
      exact go_setl H.hac H.S.da H.hk ho hC (by rw [← H.D.n]; exact htl) (by omega)
    | none =>
      rw [hv] at hlk hC
      simp only at hlk hC
      rw [lookA_posN, H.U.1] at hlk
      cases hp : posN (Fs j).outer s with
      | none => rw [hp] at hlk; cases hlk
      | some q =>
        rw [hp] at hlk hC
        obtain ⟨u, hc1, hc2⟩ := hC
        obtain ⟨w, nm, hu1, hu2⟩ := H.U.2.2 u q hc2
        simp only [Option.bind_some, hu2, Option.map_some, Option.some.injEq] at hlk
        refine key k z h1 h2 ?_
        rw [hlk, ← getD_of (d := 0) hu1]
        exact go_setu H.hac H.S.da H.hk ho hc1 (List.getElem?_eq_some_iff.1 hu1).1 (by omega)

theorem Dy_new (sl : List Nat) (od : List (Str × Nat)) (L : List Str) {s : Str} (h : s ≠ []) : Dy sl od (L ++ [s]) = (s, sl.getD L.length 0) :: Dy sl od L := by unfold Dy; rw [vis_new L h]; rfl
theorem Dy_hid (sl : List Nat) (od : List (Str × Nat)) (L : List Str) : Dy sl od (L ++ [[]]) = Dy sl od L := by unfold Dy; rw [vis_hid]
theorem Dy_h2 (sl : List Nat) (od : List (Str × Nat)) (L : List Str) : Dy sl od (L ++ [[], []]) = Dy sl od L := by unfold Dy; rw [vis_h2]
theorem Dy_h3 (sl : List Nat) (od : List (Str × Nat)) (L : List Str) : Dy sl od (L ++ [[], [], []]) = Dy sl od L := by unfold Dy; rw [vis_h3]

/-- the environment with new variables, the scope with it. -/
theorem Hd.mono (H : Hd G root Ps Fs i a ρ x y f fs seg ts vs vals p j ids od L hid fl) (news : List Env) (r : List Nat) {e : Nat} {D : List (Str × Nat)} (h : Bd i.envs ρ e D) : Bd (i.envs ++ news) (ρ ++ r) e D :=
  h.mono (EnvExt.app _ _) (fun k hk => by simp only [List.getD_eq_getElem?_getD]; rw [List.getElem?_append_left (by rw [H.S.rlen]; exact hk)])
theorem getElem_app_some {α : Type} {l r : List α} {s : Nat} {z : α} (h : l[s]? = some z) : (l ++ r)[s]? = some z := by rw [List.getElem?_append_left (List.getElem?_eq_some_iff.1 h).1]; exact h

/-- one variable is bound to the first free slot: what holds behind it. -/
theorem Hd.bind1 (H : Hd G root Ps Fs i a ρ x y f fs seg ts vs vals p j ids od L hid fl) {e : Nat} {nm : Str} {v : PV} (hnm : nm ≠ []) (hn : L.length < (pr Ps j).ns) (hh : HidOK L hid fl) (h0 : OpLt 0 fl) (hB : Bd i.envs ρ e (Dy f.slots od L)) {n pc' pc2 : Nat} {l : StL} {L0 : List Str} {seg' : List Tk} (hE : IsSL G n l) (hC : CB Ps Fs j L0 (L ++ [nm]) lc l pc' pc2) (hp : L0 <+: L ++ [nm])
    (hbk : BK G Ps Fs (Bd i.envs ρ) f.slots od vals.length j lc seg' L0 hid fl) (hK : KK G Ps Fs i ρ f od vals j false pc2 seg' 0 L0 hid lc fl) (nr : ∀ t ∈ seg', t.k ≠ 3) :
    ∃ ρ', Sim G root Ps Fs { mkI i x (⟨1, n, 0, i.envs.length + 1⟩ :: seg' ++ ⟨3, p, vals.length, 0⟩ :: ts) (hvs a.vars f.slots hid ++ vals) with envs := i.envs ++ [⟨nm, v, e⟩] } (mkA a y fs { f with ops := [], pc := pc' } (a.vars.set (f.slots.getD L.length 0) v)) ρ' ∧ Bd (i.envs ++ [⟨nm, v, e⟩]) ρ' (i.envs.length + 1) (Dy f.slots od (L ++ [nm])) := by
  have hn' : L.length < f.slots.length := by rw [H.D.n]; exact hn
  have hlt : ∀ {s : Nat}, L[s]? = some [] → s < f.slots.length ∧ s ≠ L.length := fun {s} h => by have := (List.getElem?_eq_some_iff.1 h).1; omega
  have hfree := H.free hn' (fun nm h => by rw [List.getElem?_eq_none (Nat.le_refl _)] at h; cases h)
  have hagv : ∀ (M : List Str), AgV M f.slots f.slots := fun _ _ _ _ _ => rfl
  refine ⟨_, (H.bindL (ns := [L.length]) (news := [⟨nm, v, e⟩]) (vars' := a.vars.set (f.slots.getD L.length 0) v) (ops' := []) (vs' := hvs a.vars f.slots hid) (pc' := pc') (seg' := ⟨1, n, 0, i.envs.length + 1⟩ :: seg') (L' := L ++ [nm]) (hid' := hid) (lc' := lc) (fl' := fl)
    rfl (by simp) (by simpa using hn') (by simp) (by simp) (fun s hs => getD_set_ne (fun he => by subst he; rcases hs with hs | hs; exact hs (getD_mem hn'); exact hfree hs) v) ?_ (fun s nm' h1 h2 => ⟨nm', getElem_app_some h1, h2⟩) (by simpa using hnm) (by simp; omega) (fun q hq => ?_)
    (by rw [H.hvs_set hn' (fun s hs => hlt (hh.1 s hs))]; rfl) ?_ (by simp) (nr_cons (by simp) nr)).S, ?_⟩
  · intro k m z h1 h2
    cases k with
    | zero =>
      simp at h1 h2
      subst h1; subst h2
      exact getD_set_self (H.slt _ (getD_mem hn')) v
    | succ k => simp at h1
  · have h1 := H.D.f q hq
    exact ⟨(h1.1.ops (ops' := []) (fun h2 => absurd (h0 q hq h2) (by omega))).set h1.2 (fun k hk he => (hlt (hh.2 q hq k hk)).2 (slot_inj H.snd (hlt (hh.2 q hq k hk)).1 hn' he.symm)), h1.2⟩
  · refine .set (.block hE ?_ hC hp (by simp; omega) (hbk.mono (fun e D h => H.mono _ _ h) (hagv _)) (hK.mono (fun e D h => H.mono _ _ h) (hagv _)))
    rw [Dy_new _ _ _ hnm]
    exact Bd.new hB H.S.rlen
  · rw [Dy_new _ _ _ hnm]
    exact Bd.new hB H.S.rlen

theorem Hd.bindT {n e : Nat} {pc2 : Nat} {l : StL} {L0 : List Str} (H : Hd G root Ps Fs i a ρ x y f fs (⟨6, n, 0, e⟩ :: seg) ts vs vals p j ids od L hid fl) (hnm : (nd G n).S ≠ []) (hE : IsSL G (nd G n).Nx l) (hc : cod Ps j f.pc = some (6, L.length)) (hn : L.length < (pr Ps j).ns) (hB : Bd i.envs ρ e (Dy f.slots od L)) (hC : CB Ps Fs j L0 (L ++ [(nd G n).S]) lc l (f.pc + 1) pc2) (hp : L0 <+: L)
    (hbk : BK G Ps Fs (Bd i.envs ρ) f.slots od vals.length j lc seg L0 hid fl) (hK : KK G Ps Fs i ρ f od vals j false pc2 seg 0 L0 hid lc fl) (hm : f.ops.length = 1) : Adv G root Ps Fs i a := by
  obtain ⟨v, r, ho, hr⟩ := one_op (m := 0) hm
  have hr0 : r = [] := List.eq_nil_of_length_eq_zero hr
  subst hr0
  obtain ⟨ρ', S', -⟩ := H.bind1 (v := v) (pc' := f.pc + 1) (seg' := seg) hnm hn (hK.hidden.pre hp) hK.oplt hB hE hC (hp.trans (List.prefix_append _ _)) hbk hK (nr_tl H.V.nr)
  have hg := go_setl (y := y) (fs := fs) (vars := a.vars) H.hac H.S.da H.hk ho hc hn H.o
  rw [H.ai] at hg
  refine ⟨0, _, hg, .inl ⟨ρ', ?_⟩⟩
  rw [stepN_one H.S.di, H.is]
  have hI : istep1 G root ⟨6, n, 0, e⟩ i (mkI i x (seg ++ ⟨3, p, vals.length, 0⟩ :: ts) (vs ++ vals)) = { mkI i x (⟨1, (nd G n).Nx, 0, i.envs.length + 1⟩ :: seg ++ ⟨3, p, vals.length, 0⟩ :: ts) (hvs a.vars f.slots hid ++ vals) with envs := i.envs ++ [⟨(nd G n).S, v, e⟩] } := by
    simp only [istep1]
    simp only [mkI_top H.hic, mkI_drop H.hic, H.vv, ho]
    simp only [inew, IS.last]
    have e1 : ({ mkI i x (seg ++ ⟨3, p, vals.length, 0⟩ :: ts) (([v] ++ hvs a.vars f.slots hid ++ vals).drop 1) with envs := (mkI i x (seg ++ ⟨3, p, vals.length, 0⟩ :: ts) (([v] ++ hvs a.vars f.slots hid ++ vals).drop 1)).envs ++ [⟨(nd G n).S, ([v] ++ hvs a.vars f.slots hid ++ vals).getD 0 vNil, e⟩] } : IS) = mkI { i with envs := i.envs ++ [⟨(nd G n).S, v, e⟩] } x (seg ++ ⟨3, p, vals.length, 0⟩ :: ts) (hvs a.vars f.slots hid ++ vals) := rfl
    simp only [Nat.reduceEqDiff, if_false, if_true]
    rw [e1, mkI_do (i := { i with envs := i.envs ++ [⟨(nd G n).S, v, e⟩] }) H.hic]
    simp [mkI]
  rw [hI]
  exact S'

/-- a frame's end: its last instructions. -/
theorem Hd.foot (H : Hd G root Ps Fs i a ρ x y f fs [] ts vs vals p j ids od L [] fl) (h0 : cod Ps j f.pc = some (2, 0)) (h1 : cod Ps j (f.pc + 1) = some (2, 0)) (h2 : cod Ps j (f.pc + 2) = some (27, 0)) (hm : f.ops.length = 0) : Adv G root Ps Fs i a := by
  have ho : f.ops = [] := List.eq_nil_of_length_eq_zero hm
  have g1 := go_push (y := y) (fs := fs) (vars := a.vars) H.hac H.S.da H.hk h0 (.inl ⟨rfl, rfl⟩) (by omega)
  have g2 := go_push (Ps := Ps) (y := y) (fs := fs) (f := { f with ops := vNil :: f.ops, pc := f.pc + 1 }) (vars := a.vars) H.hac H.S.da H.hk h1 (.inl ⟨rfl, rfl⟩) (by simp [ho])
  have hs : Snd Ps (mkA a y fs { f with ops := [vNil, vNil], pc := f.pc + 2 } a.vars) 27 0 := snd_mk (f := { f with ops := [vNil, vNil], pc := f.pc + 2 }) H.hac H.S.da H.hk h2 (rng_none (by simp)) (by simp [needO]) (by simp) (by simp [growsO]) (by simp)
  have hstep : astep Ps (mkA a y fs { f with ops := [vNil, vNil], pc := f.pc + 2 } a.vars) = aret vNil vNil (mkA a y fs { f with ops := [vNil, vNil], pc := f.pc + 2 } a.vars) := by
    have h1' : (Ps.getD j Proto.zero).code[f.pc + 2]? = some (27, 0) := h2
    have hp := mk_pro2 (y := y) (fs := fs) (f := { f with ops := [vNil, vNil], pc := f.pc + 2 }) (vars := a.vars) H.hk
    unfold astep
    simp only [mk_fr H.hac]
    simp only at hp
    rw [hp, h1']
    rfl
  rw [H.ai] at g1
  rw [ho] at g1 g2
  refine ⟨0, _, (g1.trans g2).trans (.step hs .refl), ?_⟩
  rw [hstep, stepN_one H.S.di]
  have e1 : istep G root i = istep1 G root ⟨3, p, vals.length, 0⟩ i (mkI i x ts (vs ++ vals)) := by
    have h := istep_mk (i := i) (x := x) (T := ts) (V := vs ++ vals) H.hic G root ⟨3, p, vals.length, 0⟩
    have e : mkI i x (⟨3, p, vals.length, 0⟩ :: ts) (vs ++ vals) = i := H.ii
    rw [e] at h
    exact h
  have e2 : istep1 G root ⟨3, p, vals.length, 0⟩ i (mkI i x ts (vs ++ vals)) = iret vNil vNil i := by simp [istep1]
  rw [e1, e2]
  have hr := ret_sim (f' := { f with ops := [vNil, vNil], pc := f.pc + 2 }) H.S.toSim0 H.V.hx H.V.hy H.V.st H.V.fn H.V.fl (by rw [H.V.hf]; simp [frSl]) H.V.pr H.V.p1 H.V.p0 vNil vNil (pre := vs) (seg' := []) (fun t h => by cases h)
  rw [← H.V.dp] at hr
  have e3 : ({ i with ths := i.ths.set i.cur { x with tasks := [] ++ ⟨3, p, vals.length, 0⟩ :: ts, depth := x.depth, vals := vs ++ vals } } : IS) = i := H.ii
  rw [e3] at hr
  exact hr

theorem Hd.retT {n z e : Nat} (H : Hd G root Ps Fs i a ρ x y f fs (⟨21, n, z, e⟩ :: seg) ts vs vals p j ids od L hid fl) (hc : cod Ps j f.pc = some (27, 0)) (hm : f.ops.length = 2) : Adv G root Ps Fs i a := by
  obtain ⟨u, v, r, ho, hr⟩ := two_ops (m := 0) hm
  have hr0 : r = [] := List.eq_nil_of_length_eq_zero hr
  subst hr0
  have hs := H.sound hc (rng_none (by simp)) (by simp [needO, hm]) (by simp [growsO]) (by simp)
  refine ⟨0, _, .one hs, ?_⟩
  have hfr : a.fr = f := by rw [← H.ai]; exact mk_fr H.hac
  have hstep : astep Ps a = aret v u a := by
    have h1' : (Ps.getD j Proto.zero).code[f.pc]? = some (27, 0) := hc
    have hp := mk_pro2 (y := y) (fs := fs) (vars := a.vars) H.hk
    rw [H.ai] at hp
    unfold astep
    simp only [hfr, hp, h1', ho]
    rfl
  rw [hstep, stepN_one H.S.di, H.is]
  have hI : istep1 G root ⟨21, n, z, e⟩ i (mkI i x (seg ++ ⟨3, p, vals.length, 0⟩ :: ts) (vs ++ vals)) = iret v u (mkI i x (seg ++ ⟨3, p, vals.length, 0⟩ :: ts) (hvs a.vars f.slots hid ++ vals)) := by
    simp only [istep1]
    simp [mkI_top H.hic, mkI_drop H.hic, H.vv, ho]
  rw [hI]
  have hr := ret_sim (f' := f) H.S.toSim0 H.V.hx H.V.hy H.V.st H.V.fn H.V.fl (by rw [H.V.hf]; exact List.Sublist.refl _) H.V.pr H.V.p1 H.V.p0 v u (pre := hvs a.vars f.slots hid) (seg' := seg) (nr_tl H.V.nr)
  rw [← H.V.dp] at hr
  have e3 : ({ a with ths := a.ths.set a.cur { y with frs := f :: fs } } : AS) = a := H.ai
  rw [e3] at hr
  exact hr
end

end Go.Proofs.Qxb6500568aGreatDoor
