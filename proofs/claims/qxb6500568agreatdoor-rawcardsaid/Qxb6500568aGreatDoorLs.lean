import Derived.Test.Qxb6500568aGreatDoorLr
namespace Go.Proofs.Qxb6500568aGreatDoor
open Ieee
set_option linter.unusedVariables false
set_option linter.unusedSimpArgs false
set_option linter.unusedSectionVars false

/-! Expressions, tables, closures, stores. -/

theorem dE_pos : ∀ (e : Ex), 1 ≤ dE e
  | ⟨c, _, _, _, _, []⟩ => by show 1 ≤ (if c = 12 ∧ (0 : Nat) ≠ 0 then 0 else 1); simp
  | ⟨c, _, _, _, _, [a]⟩ => by
    have h : 1 ≤ dT 0 a := dE_pos a
    show 1 ≤ (if c = 7 then 1 + dT 2 a else if c = 9 then dT 0 a else 1)
    split
    · omega
    · split <;> omega
  | ⟨c, _, _, _, _, [a, b]⟩ => by
    have h : 1 ≤ dT 0 a := dE_pos a
    show 1 ≤ (if c = 4 then max (dT 0 a) (1 + dT 0 b) else if c = 5 then max 2 (max (dT 0 a) (1 + dT 1 b)) else if c = 8 then max (dT 0 a) (1 + dT 0 b)
      else if c = 10 then max (dT 0 a) (dT 0 b) else if c = 11 then max (dT 0 a) (dT 0 b) else if c = 13 then (if (0 : Nat) = 1 then max (dT 0 a) (1 + dT 1 b) else max (dT 0 a) (dT 2 b)) else 1)
    repeat' split
    all_goals omega
  | ⟨c, _, _, _, _, _ :: _ :: _ :: _⟩ => by show 1 ≤ (if c = 12 ∧ (0 : Nat) ≠ 0 then 0 else 1); simp

section
variable {G : Arena} {root : Nat} {Ps : List Proto} {Fs : Nat → FI} {i : IS} {a : AS} {ρ : List Nat} {x : ITh} {y : ATh} {f : AFr} {fs : List AFr} {seg ts : List Tk} {vs vals : List PV} {p j : Nat} {ids : List Nat} {od : List (Str × Nat)} {L : List Str} {hid : List Nat} {lc : List (Nat × Nat)} {fl : List (Nat × Nat)} {t : Tk}

theorem Sim.tabsE (S : Sim G root Ps Fs i a ρ) {t' : List Tb} (h : TabExt a.tabs t') : Sim G root Ps Fs { i with tabs := t' } { a with tabs := t' } ρ := ⟨S.toSim0.tabsE h, S.curst, S.curne⟩
theorem Sim.closE (S : Sim G root Ps Fs i a ρ) {n e j' : Nat} {ids' : List Nat} {od' : List (Str × Nat)} (hU : UpD Fs j' ids' od') (hB : Bd i.envs ρ e od') (hF : FnD G root Ps Fs n j') : Sim G root Ps Fs { i with clos := i.clos ++ [(n, e)] } { a with clos := a.clos ++ [(j', ids')] } ρ := by
  have hc : ∀ (k : Nat) z, a.clos[k]? = some z → (a.clos ++ [(j', ids')])[k]? = some z := fun k z h => by rw [List.getElem?_append_left (List.getElem?_eq_some_iff.1 h).1]; exact h
  have S0 := S.toSim0
  refine ⟨⟨S0.cur, S0.stack, S0.fuel, S0.first, S0.out, S0.tabs, S0.di, S0.da, S0.rlen, S0.rnd, S0.rval, S0.sn, S0.sl, by simp [S0.clen], fun c m g h => ?_, S0.tlen, fun t x y h1 h2 => ?_, S0.curlt, S0.stk, S0.stn, S0.bot⟩, S.curst, S.curne⟩
  · by_cases hcl : c < i.clos.length
    · simp only [List.getElem?_append_left hcl] at h
      obtain ⟨j1, ids1, od1, k1, k2, k3, k4⟩ := S0.clos c m g h
      exact ⟨j1, ids1, od1, hc _ _ k1, k2, k3, k4⟩
    · have hl := (List.getElem?_eq_some_iff.1 h).1
      have he : c = i.clos.length := by simp at hl; omega
      subst he
      simp only [List.getElem?_concat_length, Option.some.injEq, Prod.mk.injEq] at h
      obtain ⟨rfl, rfl⟩ := h
      exact ⟨j', ids', od', by rw [S0.clen]; simp, hU, hB, hF⟩
  · exact (S0.ths t x y h1 h2).ext (M := fun s => a.vars.length ≤ s) ⟨EnvExt.refl _, fun _ _ => rfl, fun _ h => .inl h, fun _ _ _ _ => rfl, hc, TabExt.refl _⟩ (fun g hg s hs => by have := S0.sl s (mem_slots h2 hg hs); omega)

/-- the tasks of a table's items from node n on. -/
def itT2 (n k e : Nat) : List Tk := if n = 0 then [] else [⟨2, n, 0, e⟩, ⟨23, n, k, e⟩]
theorem items_K {B : Nat → List (Str × Nat) → Prop} {sl : List Nat} {hb n k e pc b m : Nat} {zs : ExL} (hE : IsEL G n zs) (hC : CI Ps Fs j L zs k pc b) (hd : m + 1 + dI zs ≤ 128) (hB : B e (Dy sl od L)) (hop : OpLt m fl) (hK : K G Ps Fs B sl od hb j false b seg (m + 1) L hid lc fl) :
    ∃ fl', (zs = .nil → fl' = fl) ∧ (zs ≠ .nil → fl' = (m, 2) :: fl) ∧ K G Ps Fs B sl od hb j false pc (itT2 n k e ++ seg) (m + 1) L hid lc fl' := by
  rcases hE.inv with rfl | ⟨ex, l, rfl⟩
  · simp only [IsEL_nil, IsEL_cons] at hE
    simp only [CI_nil, CI_cons] at hC
    subst hE; subst hC
    exact ⟨fl, fun _ => rfl, fun h => absurd rfl h, hK⟩
  · simp only [IsEL_nil, IsEL_cons] at hE
    simp only [CI_nil, CI_cons] at hC
    obtain ⟨q, h1, h2, h3⟩ := hC
    simp only [dI_nil, dI_cons] at hd
    refine ⟨(m, 2) :: fl, (fun h => by injection h with h; cases h), fun _ => rfl, ?_⟩
    unfold itT2
    rw [if_neg hE.1]
    exact .set (.evl hE.2.1 hB h1 (by omega) ((hop.le (by omega)).cons (fun _ => by omega)) (.set (.item h2 hB hE.2.2 h3 (by omega) hop hK)))
theorem mkI_items (hic : i.cur < i.ths.length) (n k e : Nat) (T : List Tk) (V : List PV) : iitems n k e (mkI i x T V) = mkI i x (itT2 n k e ++ T) V := by
  unfold iitems itT2
  split
  · rfl
  · rw [mkI_do hic, mkI_do hic]; rfl
theorem nr_items {n k e : Nat} (h : ∀ t ∈ seg, t.k ≠ 3) : ∀ t ∈ itT2 n k e ++ seg, t.k ≠ 3 := fun t ht => by
  rcases List.mem_append.1 ht with h' | h'
  · unfold itT2 at h'
    split at h'
    · cases h'
    · simp only [List.mem_cons, List.not_mem_nil, or_false] at h'
      rcases h' with rfl | rfl
      · show 2 ≠ 3; decide
      · show 23 ≠ 3; decide
  · exact h t h'

/-- a fresh table. -/
theorem Hd.table {n e b : Nat} {zs : ExL} (H : Hd G root Ps Fs i a ρ x y f fs (⟨2, n, 0, e⟩ :: seg) ts vs vals p j ids od L hid fl) (hE : IsE G n (.table zs)) (hB : Bd i.envs ρ e (Dy f.slots od L)) (hC : CE Ps Fs j L (.table zs) f.pc b) (hd : f.ops.length + dE (.table zs) ≤ 128) (hop : OpLt f.ops.length fl)
    (hK : KK G Ps Fs i ρ f od vals j false b seg (f.ops.length + 1) L hid lc fl) : Adv G root Ps Fs i a := by
  simp only [IsE_lit, IsE_num, IsE_str, IsE_name, IsE_index, IsE_call, IsE_func, IsE_table, IsE_bin, IsE_un, IsE_land, IsE_lor] at hE
  simp only [CE_lit, CE_num, CE_str, CE_name, CE_index, CE_call, CE_func, CE_table, CE_bin, CE_un, CE_land, CE_lor] at hC
  simp only [dE_lit, dE_num, dE_str, dE_name, dE_index, dE_call, dE_func, dE_table, dE_bin, dE_un, dE_land, dE_lor] at hd
  obtain ⟨hn0, hn1, hn2⟩ := hE
  have hlt : f.ops.length < 128 := by omega
  have hs := H.sound hC.1 (rng_none (by simp)) (by simp [needO]) (fun _ => hlt) (by simp)
  have ht : (mkA a y fs f a.vars).tabs = a.tabs := rfl
  refine ⟨0, astep Ps a, .one hs, ?_⟩
  rw [stepN_one H.S.di, H.is, H.plain hC.1 (by omega) (by omega) (by omega) (by omega) (by omega) (by omega)]
  have hA : aplain Ps 14 0 (mkA a y fs f a.vars) = if 12 ≤ a.tabs.length then afin 8 [45] (mkA a y fs f a.vars) else { mkA a y fs { f with ops := vTab a.tabs.length :: f.ops, pc := f.pc + 1 } a.vars with tabs := a.tabs ++ [[]] } := by
    unfold aplain
    simp only [mk_fr H.hac, ht]
    simp only [Nat.reduceEqDiff, if_false, if_true]
    split
    · rfl
    · have e1 : ({ mkA a y fs f a.vars with tabs := a.tabs ++ [[]] } : AS) = mkA { a with tabs := a.tabs ++ [[]] } y fs f a.vars := rfl
      rw [e1, mk_fr (a := { a with tabs := a.tabs ++ [[]] }) H.hac, mk_ops (a := { a with tabs := a.tabs ++ [[]] }) H.hac, mk_pc (a := { a with tabs := a.tabs ++ [[]] }) H.hac]
      rfl
  have hI : istep1 G root ⟨2, n, 0, e⟩ i (mkI i x (seg ++ ⟨3, p, vals.length, 0⟩ :: ts) (vs ++ vals)) = if 12 ≤ a.tabs.length then ifin 8 [45] (mkI i x (seg ++ ⟨3, p, vals.length, 0⟩ :: ts) (vs ++ vals)) else { mkI i x ((itT2 (nd G n).A 1 e ++ seg) ++ ⟨3, p, vals.length, 0⟩ :: ts) (vTab a.tabs.length :: (vs ++ vals)) with tabs := a.tabs ++ [[]] } := by
    have ht2 : (mkI i x (seg ++ ⟨3, p, vals.length, 0⟩ :: ts) (vs ++ vals)).tabs = a.tabs := H.S.tabs
    simp only [istep1, ieval]
    simp [hn0, hn1, ht2]
    split
    · rfl
    · have e1 : ({ mkI i x (seg ++ ⟨3, p, vals.length, 0⟩ :: ts) (vs ++ vals) with tabs := a.tabs ++ [[]] } : IS) = mkI { i with tabs := a.tabs ++ [[]] } x (seg ++ ⟨3, p, vals.length, 0⟩ :: ts) (vs ++ vals) := rfl
      rw [e1, mkI_push (i := { i with tabs := a.tabs ++ [[]] }) H.hic, mkI_items (i := { i with tabs := a.tabs ++ [[]] }) H.hic]
      rfl
  rw [hA, hI]
  by_cases hf : 12 ≤ a.tabs.length
  · rw [if_pos hf, if_pos hf]
    exact fin_rel (s := mkI i x (seg ++ ⟨3, p, vals.length, 0⟩ :: ts) (vs ++ vals)) (t := mkA a y fs f a.vars) H.S.fuel H.S.first H.S.out _ _
  · rw [if_neg hf, if_neg hf]
    obtain ⟨fl', hf1, hf2, hK'⟩ := items_K (e := e) hn2 hC.2 (m := f.ops.length) (by omega) hB hop hK
    have hD : FrD Ps a.vars a.tabs ρ f.slots j L hid fl' (vTab a.tabs.length :: f.ops) ((vTab a.tabs.length :: f.ops) ++ hvs a.vars f.slots hid) := by
      have hre := H.D.re (OpSame.of hop [] [vTab a.tabs.length])
      by_cases hz : zs = .nil
      · rw [hf1 hz]; exact hre
      · rw [hf2 hz]
        refine ⟨rfl, fun q hq => ?_, hre.n, hre.l, hre.r⟩
        rcases List.mem_cons.1 hq with rfl | hq
        · refine ⟨?_, Nat.le_refl _⟩
          unfold FlD
          simp [vTab]
        · exact hre.f q hq
    have H' := H.re (ops' := vTab a.tabs.length :: f.ops) (pc' := f.pc + 1) (seg' := itT2 (nd G n).A 1 e ++ seg) hK' hD (by simp; omega) (nr_items (nr_tl H.V.nr))
    have S' := H'.S.tabsE (t' := a.tabs ++ [[]]) (TabExt.app _ _)
    left
    refine ⟨ρ, ?_⟩
    rw [H.vv]
    exact S'

/-- a closure. -/
theorem Hd.clos {n e k : Nat} {ps : List Str} {bd : StL} (H : Hd G root Ps Fs i a ρ x y f fs (⟨2, n, 0, e⟩ :: seg) ts vs vals p j ids od L hid fl) (hE : IsE G n (.func k ps bd)) (hB : Bd i.envs ρ e (Dy f.slots od L)) (hc : cod Ps j f.pc = some (28, k)) (hC : CF Ps Fs j L k ps (fun z => CB Ps Fs k ps ps [] bd 0 z)) (hd : f.ops.length + 1 ≤ 128) (hop : OpLt f.ops.length fl)
    (hK : KK G Ps Fs i ρ f od vals j false (f.pc + 1) seg (f.ops.length + 1) L hid lc fl) : Adv G root Ps Fs i a := by
  simp only [IsE_lit, IsE_num, IsE_str, IsE_name, IsE_index, IsE_call, IsE_func, IsE_table, IsE_bin, IsE_un, IsE_land, IsE_lor] at hE
  obtain ⟨hn0, hn1, hn2, hn3, hn4⟩ := hE
  obtain ⟨ho, hup, hk1, hk0, hnp, hns, hne, hp3, z, hz, hz0, hz1, hz2, -⟩ := hC
  have hs := H.sound hc (rng28 ⟨hk1, fun d hd => by
    obtain ⟨u, hu⟩ := List.mem_iff_getElem?.1 hd
    obtain ⟨k', x'⟩ := d
    rcases hup.2 u k' x' hu with ⟨h1, q, nm, h2, h3⟩ | ⟨h1, q, h2, h3⟩
    · left
      refine ⟨h1, ?_⟩
      have := (vis_mem (List.mem_of_getElem? h2)).1
      have h4 := (List.getElem?_eq_some_iff.1 this).1
      have h5 := H.D.l
      rw [H.pro]; show x' < _; simp only at h4; omega
    · right
      refine ⟨h1, ?_⟩
      have h4 := (List.getElem?_eq_some_iff.1 h2).1
      rw [H.idse, H.U.2.1]; exact h4⟩) (by simp [needO]) (fun _ => by omega) (by simp)
  have hU : UpD Fs k (aups (mkA a y fs f a.vars) (pr Ps k).ups) (Dy f.slots od L) := by
    refine ⟨?_, ?_, fun u q hq => ?_⟩
    · rw [ho]; unfold Dy; rw [List.map_append, List.map_map, H.U.1]; rfl
    · unfold aups; rw [List.length_map]; exact hup.1
    · have hul : u < (pr Ps k).ups.length := by rw [hup.1]; exact (List.getElem?_eq_some_iff.1 hq).1
      obtain ⟨⟨k', x'⟩, hd⟩ : ∃ d, (pr Ps k).ups[u]? = some d := ⟨_, List.getElem?_eq_getElem hul⟩
      have hget : (aups (mkA a y fs f a.vars) (pr Ps k).ups)[u]? = some (if k' = 1 then f.slots.getD x' 0 else ids.getD x' 0) := by
        unfold aups; rw [List.getElem?_map, hd]; simp only [Option.map_some, mk_slot H.hac, mk_up H.hac H.hk]
      rw [hget]
      rcases hup.2 u k' x' hd with ⟨h1, q', nm, h2, h3⟩ | ⟨h1, q', h2, h3⟩
      · rw [h3] at hq
        have he := Option.some.inj hq
        subst he
        refine ⟨_, nm, rfl, ?_⟩
        unfold Dy
        rw [List.getElem?_append_left (by rw [List.length_map]; exact (List.getElem?_eq_some_iff.1 h2).1), List.getElem?_map, h2]
        simp [h1]
      · rw [h3] at hq
        have he := Option.some.inj hq
        subst he
        obtain ⟨v, nm, h4, h5⟩ := H.U.2.2 x' q' h2
        refine ⟨_, nm, rfl, ?_⟩
        unfold Dy
        rw [List.getElem?_append_right (by rw [List.length_map]; omega), List.length_map, Nat.add_sub_cancel_left, h5]
        simp only [h1, Nat.zero_ne_one, if_false]
        rw [getD_of h4]
  refine ⟨0, astep Ps a, .one hs, ?_⟩
  rw [stepN_one H.S.di, H.is, H.plain hc (by omega) (by omega) (by omega) (by omega) (by omega) (by omega)]
  have hcl : (mkA a y fs f a.vars).clos = a.clos := rfl
  have hA : aplain Ps 28 k (mkA a y fs f a.vars) = if 24 ≤ a.clos.length then afin 8 [45] (mkA a y fs f a.vars) else { mkA a y fs { f with ops := vFun a.clos.length :: f.ops, pc := f.pc + 1 } a.vars with clos := a.clos ++ [(k, aups (mkA a y fs f a.vars) (pr Ps k).ups)] } := by
    unfold aplain
    simp only [mk_fr H.hac, hcl, Nat.reduceEqDiff, if_false, if_true]
    split
    · rfl
    · have e1 : ({ mkA a y fs f a.vars with clos := a.clos ++ [(k, aups (mkA a y fs f a.vars) (Ps.getD k Proto.zero).ups)] } : AS) = mkA { a with clos := a.clos ++ [(k, aups (mkA a y fs f a.vars) (Ps.getD k Proto.zero).ups)] } y fs f a.vars := rfl
      rw [e1, mk_fr (a := { a with clos := a.clos ++ [(k, aups (mkA a y fs f a.vars) (Ps.getD k Proto.zero).ups)] }) H.hac, mk_ops (a := { a with clos := a.clos ++ [(k, aups (mkA a y fs f a.vars) (Ps.getD k Proto.zero).ups)] }) H.hac, mk_pc (a := { a with clos := a.clos ++ [(k, aups (mkA a y fs f a.vars) (Ps.getD k Proto.zero).ups)] }) H.hac]
      rfl
  have hI : istep1 G root ⟨2, n, 0, e⟩ i (mkI i x (seg ++ ⟨3, p, vals.length, 0⟩ :: ts) (vs ++ vals)) = if 24 ≤ a.clos.length then ifin 8 [45] (mkI i x (seg ++ ⟨3, p, vals.length, 0⟩ :: ts) (vs ++ vals)) else { mkI i x (seg ++ ⟨3, p, vals.length, 0⟩ :: ts) (vFun a.clos.length :: (vs ++ vals)) with clos := i.clos ++ [(n, e)] } := by
    have hc2 : (mkI i x (seg ++ ⟨3, p, vals.length, 0⟩ :: ts) (vs ++ vals)).clos = i.clos := rfl
    simp only [istep1, ieval]
    simp [hn0, hn1, hc2, H.S.clen]
    split
    · rfl
    · have e1 : ({ mkI i x (seg ++ ⟨3, p, vals.length, 0⟩ :: ts) (vs ++ vals) with clos := i.clos ++ [(n, e)] } : IS) = mkI { i with clos := i.clos ++ [(n, e)] } x (seg ++ ⟨3, p, vals.length, 0⟩ :: ts) (vs ++ vals) := rfl
      rw [e1, mkI_push (i := { i with clos := i.clos ++ [(n, e)] }) H.hic]
      rfl
  rw [hA, hI]
  by_cases hf : 24 ≤ a.clos.length
  · rw [if_pos hf, if_pos hf]
    exact fin_rel (s := mkI i x (seg ++ ⟨3, p, vals.length, 0⟩ :: ts) (vs ++ vals)) (t := mkA a y fs f a.vars) H.S.fuel H.S.first H.S.out _ _
  · rw [if_neg hf, if_neg hf]
    have H' := H.re (ops' := vFun a.clos.length :: f.ops) (pc' := f.pc + 1) (seg' := seg) hK (H.D.re (OpSame.of hop [] [_])) (by simpa using hd) (nr_tl H.V.nr)
    have S' := H'.S.closE (n := n) (e := e) hU hB ⟨ps, bd, z, hn3, by rw [if_neg hn0]; exact hn4, hnp, hns, hne, hp3, hz, hz0, hz1, hz2⟩
    left
    refine ⟨ρ, ?_⟩
    rw [H.vv]
    exact S'
end

end Go.Proofs.Qxb6500568aGreatDoor
