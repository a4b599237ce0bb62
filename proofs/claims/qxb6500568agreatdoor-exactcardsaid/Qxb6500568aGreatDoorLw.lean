import Derived.Test.Qxb6500568aGreatDoorLv
namespace Go.Proofs.Qxb6500568aGreatDoor
open Ieee
set_option linter.unusedVariables false
set_option linter.unusedSimpArgs false
set_option linter.unusedSectionVars false

/-! Statements. -/

section
variable {G : Arena} {root : Nat} {Ps : List Proto} {Fs : Nat → FI} {i : IS} {a : AS} {ρ : List Nat} {x : ITh} {y : ATh} {f : AFr} {fs : List AFr} {seg ts : List Tk} {vs vals : List PV} {p j : Nat} {ids : List Nat} {od : List (Str × Nat)} {L : List Str} {hid : List Nat} {lc : List (Nat × Nat)} {fl : List (Nat × Nat)} {t : Tk}

/-- two variables are bound to the first free slots. -/
theorem Hd.bind2g (H : Hd G root Ps Fs i a ρ x y f fs seg ts vs vals p j ids od L hid fl) {e : Nat} {s t : Str} {v1 v0 : PV} {vars' vs' : List PV} {hid' : List Nat} {fl' : List (Nat × Nat)} (hs : s ≠ []) (ht : t ≠ []) (hn : L.length + 1 < (pr Ps j).ns) (hB : Bd i.envs ρ e (Dy f.slots od L))
    (hvl : vars'.length = a.vars.length) (hvo : ∀ s, (s ∉ f.slots ∨ s ∈ ρ) → vars'.getD s vNil = a.vars.getD s vNil) (h1 : vars'.getD (f.slots.getD L.length 0) vNil = v1) (h2 : vars'.getD (f.slots.getD (L.length + 1) 0) vNil = v0)
    (hvs' : vs' = hvs vars' f.slots hid') (hfl : ∀ q ∈ fl', FlD vars' a.tabs f.slots [] q ∧ q.2 ≤ 2)
    {n pc' pc2 : Nat} {l : StL} {L0 : List Str} {seg' : List Tk} (hE : IsSL G n l) (hC : CB Ps Fs j L0 (L ++ [s, t]) lc l pc' pc2) (hp : L0 <+: L ++ [s, t]) (hbk : BK G Ps Fs (Bd i.envs ρ) f.slots od vals.length j lc seg' L0 hid' fl') (hK : KK G Ps Fs i ρ f od vals j false pc2 seg' 0 L0 hid' lc fl') (nr : ∀ t ∈ seg', t.k ≠ 3) :
    ∃ ρ', Sim G root Ps Fs { mkI i x (⟨1, n, 0, i.envs.length + 2⟩ :: seg' ++ ⟨3, p, vals.length, 0⟩ :: ts) (vs' ++ vals) with envs := i.envs ++ [⟨s, v1, e⟩, ⟨t, v0, i.envs.length + 1⟩] } (mkA a y fs { f with ops := [], pc := pc' } vars') ρ' := by
  have hn' : L.length + 1 < f.slots.length := by rw [H.D.n]; exact hn
  have hagv : ∀ (M : List Str), AgV M f.slots f.slots := fun _ _ _ _ _ => rfl
  refine ⟨_, (H.bindL (ns := [L.length, L.length + 1]) (news := [⟨s, v1, e⟩, ⟨t, v0, i.envs.length + 1⟩]) (vars' := vars') (ops' := []) (vs' := vs') (pc' := pc') (seg' := ⟨1, n, 0, i.envs.length + 2⟩ :: seg') (L' := L ++ [s, t]) (hid' := hid') (lc' := lc) (fl' := fl')
    rfl (by simp) (by simp; omega) (by intro q hq nm h; simp at hq; rcases hq with rfl | rfl <;> rw [List.getElem?_eq_none (by omega)] at h <;> cases h) hvl hvo ?_ (fun s nm' h1 h2 => ⟨nm', getElem_app_some h1, h2⟩) ?_ (by simp; omega) hfl (by rw [hvs']; rfl) ?_ (by simp) (nr_cons (by simp) nr)).S⟩
  · intro k m z k1 k2
    match k, k1, k2 with
    | 0, k1, k2 => simp at k1 k2; subst k1; subst k2; exact h1
    | 1, k1, k2 => simp at k1 k2; subst k1; subst k2; exact h2
    | k + 2, k1, k2 => simp at k1
  · intro q hq
    simp at hq
    rcases hq with rfl | rfl
    · exact ⟨s, by simp, hs⟩
    · exact ⟨t, by rw [List.getElem?_append_right (by omega)]; simp, ht⟩
  · refine .set (.block hE ?_ hC hp (by simp; omega) (hbk.mono (fun e D h => H.mono _ _ h) (hagv _)) (hK.mono (fun e D h => H.mono _ _ h) (hagv _)))
    rw [app2, Dy_new _ _ _ ht, Dy_new _ _ _ hs]
    have b1 := Bd.new (nm := s) (v := v1) (id := f.slots.getD L.length 0) hB H.S.rlen
    have b2 := Bd.new (nm := t) (v := v0) (id := f.slots.getD (L.length + 1) 0) b1 (by simp [H.S.rlen])
    simp only [List.length_append, List.length_singleton, List.append_assoc, List.singleton_append] at b2
    simpa using b2

theorem Hd.bind2T {n e : Nat} {pc2 : Nat} {l : StL} {s t : Str} {L0 : List Str} (H : Hd G root Ps Fs i a ρ x y f fs (⟨7, n, 0, e⟩ :: seg) ts vs vals p j ids od L hid fl) (hN : IsNm G (nd G n).A [s, t]) (hs : s ≠ []) (ht : t ≠ []) (hE : IsSL G (nd G n).Nx l) (hc : cod Ps j f.pc = some (6, L.length + 1)) (hc2 : cod Ps j (f.pc + 1) = some (6, L.length)) (hn : L.length + 1 < (pr Ps j).ns) (hB : Bd i.envs ρ e (Dy f.slots od L))
    (hC : CB Ps Fs j L0 (L ++ [s, t]) lc l (f.pc + 2) pc2) (hp : L0 <+: L) (hbk : BK G Ps Fs (Bd i.envs ρ) f.slots od vals.length j lc seg L0 hid fl) (hK : KK G Ps Fs i ρ f od vals j false pc2 seg 0 L0 hid lc fl) (hm : f.ops.length = 2) : Adv G root Ps Fs i a := by
  obtain ⟨v0, v1, r, ho, hr⟩ := two_ops (m := 0) hm
  have hr0 : r = [] := List.eq_nil_of_length_eq_zero hr
  subst hr0
  have hn' : L.length + 1 < f.slots.length := by rw [H.D.n]; exact hn
  have hn0 : L.length < f.slots.length := by omega
  have hh := hK.hidden.pre hp
  have hlt : ∀ {s : Nat}, L[s]? = some [] → s < f.slots.length ∧ s ≠ L.length ∧ s ≠ L.length + 1 := fun {s} h => by have := (List.getElem?_eq_some_iff.1 h).1; omega
  have hne : f.slots.getD L.length 0 ≠ f.slots.getD (L.length + 1) 0 := fun he => by have := slot_inj H.snd hn0 hn' he; omega
  have hf0 := H.free hn0 (fun nm h => by rw [List.getElem?_eq_none (Nat.le_refl _)] at h; cases h)
  have hf1 := H.free hn' (fun nm h => by rw [List.getElem?_eq_none (by omega)] at h; cases h)
  have hval : ∀ {s : Nat}, L[s]? = some [] → ((a.vars.set (f.slots.getD (L.length + 1) 0) v0).set (f.slots.getD L.length 0) v1).getD (f.slots.getD s 0) vNil = a.vars.getD (f.slots.getD s 0) vNil := fun {s} h => by
    obtain ⟨q1, q2, q3⟩ := hlt h
    rw [getD_set_ne (fun he => q2 (slot_inj H.snd q1 hn0 he.symm)), getD_set_ne (fun he => q3 (slot_inj H.snd q1 hn' he.symm))]
  have hvs2 : hvs ((a.vars.set (f.slots.getD (L.length + 1) 0) v0).set (f.slots.getD L.length 0) v1) f.slots hid = hvs a.vars f.slots hid := hvs_congr (fun s hs => hval (hh.1 s hs))
  have hvo' : ∀ q, (q ∉ f.slots ∨ q ∈ ρ) → ((a.vars.set (f.slots.getD (L.length + 1) 0) v0).set (f.slots.getD L.length 0) v1).getD q vNil = a.vars.getD q vNil := fun q hq => by
    have q1 : f.slots.getD L.length 0 ≠ q := fun he => by subst he; rcases hq with hq | hq; exact hq (getD_mem hn0); exact hf0 hq
    have q2 : f.slots.getD (L.length + 1) 0 ≠ q := fun he => by subst he; rcases hq with hq | hq; exact hq (getD_mem hn'); exact hf1 hq
    rw [getD_set_ne q1, getD_set_ne q2]
  have hva : ((a.vars.set (f.slots.getD (L.length + 1) 0) v0).set (f.slots.getD L.length 0) v1).getD (f.slots.getD L.length 0) vNil = v1 := getD_set_self (by rw [List.length_set]; exact H.slt _ (getD_mem hn0)) v1
  have hvb : ((a.vars.set (f.slots.getD (L.length + 1) 0) v0).set (f.slots.getD L.length 0) v1).getD (f.slots.getD (L.length + 1) 0) vNil = v0 := by rw [getD_set_ne hne]; exact getD_set_self (H.slt _ (getD_mem hn')) v0
  have hfl2 : ∀ q ∈ fl, FlD ((a.vars.set (f.slots.getD (L.length + 1) 0) v0).set (f.slots.getD L.length 0) v1) a.tabs f.slots [] q ∧ q.2 ≤ 2 := fun q hq => by
    have h1 := H.D.f q hq
    exact ⟨((h1.1.ops (ops' := []) (fun h2 => absurd (hK.oplt q hq h2) (by omega))).ext (es := i.envs) (ρ := []) (clos := a.clos) (es' := i.envs) (ρ' := []) (clos' := a.clos) (M := fun _ => True) ⟨EnvExt.refl _, fun _ _ => rfl, fun _ h => .inl h, fun _ _ _ h => absurd trivial h, fun _ _ h => h, TabExt.refl _⟩ h1.2 (fun k hk => hval (hh.2 q hq k hk))), h1.2⟩
  obtain ⟨ρ', S'⟩ := H.bind2g (v1 := v1) (v0 := v0) (vars' := (a.vars.set (f.slots.getD (L.length + 1) 0) v0).set (f.slots.getD L.length 0) v1) (vs' := hvs a.vars f.slots hid) (hid' := hid) (fl' := fl) (pc' := f.pc + 2) (seg' := seg) hs ht hn hB (by simp) hvo' hva hvb hvs2.symm hfl2 hE hC (hp.trans (List.prefix_append _ _)) hbk hK (nr_tl H.V.nr)
  have g1 := go_setl (y := y) (fs := fs) (vars := a.vars) H.hac H.S.da H.hk ho hc hn H.o
  have g2 := go_setl (Ps := Ps) (y := y) (fs := fs) (f := { f with ops := [v1], pc := f.pc + 1 }) (vars := a.vars.set (f.slots.getD (L.length + 1) 0) v0) H.hac H.S.da H.hk rfl hc2 (by omega) (by simp)
  rw [H.ai] at g1
  refine ⟨0, _, g1.trans g2, .inl ⟨ρ', ?_⟩⟩
  rw [stepN_one H.S.di, H.is]
  simp only [IsNm] at hN
  obtain ⟨m1, m2, m3, m4, m5, m6, m7⟩ := hN
  have hI : istep1 G root ⟨7, n, 0, e⟩ i (mkI i x (seg ++ ⟨3, p, vals.length, 0⟩ :: ts) (vs ++ vals)) = { mkI i x (⟨1, (nd G n).Nx, 0, i.envs.length + 2⟩ :: seg ++ ⟨3, p, vals.length, 0⟩ :: ts) (hvs a.vars f.slots hid ++ vals) with envs := i.envs ++ [⟨s, v1, e⟩, ⟨t, v0, i.envs.length + 1⟩] } := by
    simp only [istep1]
    simp only [mkI_top H.hic, mkI_drop H.hic, H.vv, ho, m3, m6]
    simp only [inew, IS.last, Nat.reduceEqDiff, if_false, if_true]
    have e1 : ∀ (E : List Env) (V : List PV), ({ mkI i x (seg ++ ⟨3, p, vals.length, 0⟩ :: ts) V with envs := E } : IS) = mkI { i with envs := E } x (seg ++ ⟨3, p, vals.length, 0⟩ :: ts) V := fun _ _ => rfl
    simp only [e1]
    simp [mkI]
    exact mkI_do (i := { i with envs := i.envs ++ [⟨s, v1, e⟩, ⟨t, v0, i.envs.length + 1⟩] }) (x := x) (T := seg ++ ⟨3, p, vals.length, 0⟩ :: ts) (V := hvs a.vars f.slots hid ++ vals) H.hic 1 (nd G n).Nx 0 (i.envs.length + 2)
  rw [hI]
  exact S'

theorem brk_skip {B : Nat → List (Str × Nat) → Prop} {sl : List Nat} {hb : Nat} {L0 : List Str} {t0 : Tk} (h : BK G Ps Fs B sl od hb j lc seg L0 hid fl) (ht : t0.k ≠ 4) : BK G Ps Fs B sl od hb j lc (t0 :: seg) L0 hid fl := by
  rcases h.inv with rfl | ⟨n, z, r, ts', hid0, fl0, rfl, h1, h2, h3, h4, h5⟩
  · exact .none
  · exact .some (by simp only [brkL, if_neg ht]; exact h1) h2 h3 h4 h5
/-- a break's target from a scope further in. -/
theorem BK.pre {B : Nat → List (Str × Nat) → Prop} {sl : List Nat} {hb : Nat} {L0 L1 : List Str} (h : BK G Ps Fs B sl od hb j lc seg L0 hid fl) (hp : L0 <+: L1) : BK G Ps Fs B sl od hb j lc seg L1 hid fl := by
  rcases h.inv with rfl | ⟨n, z, r', ts', hid0, fl0, rfl, h1, h2, h3, h4, h5⟩
  · exact .none
  · obtain ⟨r, rfl⟩ := hp
    exact .some h1 h2 h3 (by simp; omega) (by rw [List.take_append_of_le_length h4]; exact h5)

/-- the statement behind this one. -/
theorem next_K {B : Nat → List (Str × Nat) → Prop} {sl : List Nat} {hb n e m b : Nat} {l : StL} {L0 : List Str} (hE : IsSL G n l) (hB : B e (Dy sl od L)) (hC : CB Ps Fs j L0 L lc l m b) (hp : L0 <+: L) (hl : L.length ≤ (pr Ps j).ns) (hbk : BK G Ps Fs B sl od hb j lc seg L0 hid fl) (hK : K G Ps Fs B sl od hb j false b seg 0 L0 hid lc fl) :
    K G Ps Fs B sl od hb j false m (⟨1, n, 0, e⟩ :: seg) 0 L hid lc fl := .set (.block hE hB hC hp hl hbk hK)

/-- the end of a block. -/
theorem Hd.blockNil {e b : Nat} {L0 : List Str} (H : Hd G root Ps Fs i a ρ x y f fs (⟨1, 0, 0, e⟩ :: seg) ts vs vals p j ids od L hid fl) (hC : CB Ps Fs j L0 L lc .nil f.pc b) (hp : L0 <+: L) (hK : KK G Ps Fs i ρ f od vals j false b seg 0 L0 hid lc fl) (hm : f.ops.length = 0) : Adv G root Ps Fs i a := by
  have ho : f.ops = [] := List.eq_nil_of_length_eq_zero hm
  have hI : istep1 G root ⟨1, 0, 0, e⟩ i (mkI i x (seg ++ ⟨3, p, vals.length, 0⟩ :: ts) (vs ++ vals)) = mkI i x (seg ++ ⟨3, p, vals.length, 0⟩ :: ts) (vs ++ vals) := by simp [istep1]
  simp only [CB_nil, CB_cons] at hC
  by_cases hl : L0.length < L.length
  · rw [if_pos hl] at hC
    obtain ⟨hc, rfl⟩ := hC
    have hlen := H.D.l
    have ht : L.take L0.length = L0 := by obtain ⟨r, rfl⟩ := hp; simp
    have H' := H.close (n := L0.length) ho (by omega) (List.suffix_refl _) (pc' := f.pc + 1) (seg' := seg) (hid' := hid) (lc' := lc) (by rw [ht]; exact hK) (nr_tl H.V.nr)
    have hg := go_close (y := y) (fs := fs) (vars := a.vars) H.hac H.S.da H.hk hc (by omega) H.o
    rw [H.ai] at hg
    refine ⟨0, _, hg, .inl ⟨ρ, ?_⟩⟩
    rw [stepN_one H.S.di, H.is, hI]
    have e1 : vs = hvs a.vars f.slots hid := by rw [H.vv, ho]; rfl
    rw [e1]
    exact H'.S
  · rw [if_neg hl] at hC
    subst hC
    have he : L0 = L := by obtain ⟨r, rfl⟩ := hp; simp at hl; have : r = [] := List.eq_nil_of_length_eq_zero (by simpa using hl); simp [this]
    subst he
    exact H.same (lc := lc) hI hm.symm hK (nr_tl H.V.nr)
end

end Go.Proofs.Qxb6500568aGreatDoor
