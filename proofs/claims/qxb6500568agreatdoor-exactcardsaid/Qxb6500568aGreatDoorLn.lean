import Derived.Test.Qxb6500568aGreatDoorLm
namespace Go.Proofs.Qxb6500568aGreatDoor
open Ieee
set_option linter.unusedVariables false
set_option linter.unusedSimpArgs false
set_option linter.unusedSectionVars false

/-! Threads that turn: errors, returns, resumers. -/

section
variable {G : Arena} {root : Nat} {Ps : List Proto} {Fs : Nat → FI} {i : IS} {a : AS} {ρ : List Nat} {x : ITh} {y : ATh} {f : AFr} {fs : List AFr} {seg ts : List Tk} {vs vals : List PV} {p j : Nat} {ids : List Nat} {od : List (Str × Nat)} {L : List Str} {hid : List Nat} {lc : List (Nat × Nat)} {fl : List (Nat × Nat)}

theorem Sim0.thr (S : Sim0 G root Ps Fs i a ρ) {t : Nat} {x' : ITh} {y' : ATh} (hx : i.ths[t]? = some x) (hy : a.ths[t]? = some y) (hT : TR G Ps Fs i.envs ρ a.vars a.clos a.tabs x' y') (hs : (frSl y'.frs).Sublist (frSl y.frs)) (hk : t ∈ i.stack → x'.st = 3) :
    Sim0 G root Ps Fs { i with ths := i.ths.set t x' } { a with ths := a.ths.set t y' } ρ := by
  have hit : t < i.ths.length := (List.getElem?_eq_some_iff.1 hx).1
  have hat : t < a.ths.length := (List.getElem?_eq_some_iff.1 hy).1
  have hp := slots_self hy
  have hp' := slots_set hat y'
  have hsub : (frSl y'.frs ++ rstSl a.ths t).Sublist (frSl y.frs ++ rstSl a.ths t) := hs.append (List.Sublist.refl _)
  refine ⟨S.cur, S.stack, S.fuel, S.first, S.out, S.tabs, S.di, S.da, S.rlen, S.rnd, S.rval, ?_, ?_, S.clen, S.clos, by simp [S.tlen], ?_, by simpa using S.curlt, ?_, S.stn, S.bot⟩
  · exact hp'.nodup_iff.2 (hsub.nodup (hp.nodup_iff.1 S.sn))
  · intro s h
    exact S.sl s (hp.mem_iff.2 (hsub.subset (hp'.mem_iff.1 h)))
  · intro u x1 y1 h1 h2
    by_cases hu : t = u
    · subst hu
      simp only [List.getElem?_set_self hit, List.getElem?_set_self hat, Option.some.injEq] at h1 h2
      subst h1; subst h2; exact hT
    · simp only [List.getElem?_set_ne hu] at h1 h2
      exact S.ths u x1 y1 h1 h2
  · intro c hc
    have h1 := S.stk c hc
    refine ⟨by simpa using h1.1, ?_⟩
    by_cases hu : t = c
    · subst hu
      simp only [List.getD_eq_getElem?_getD, List.getElem?_set_self hit]
      exact hk hc
    · have := h1.2
      simp only [List.getD_eq_getElem?_getD, List.getElem?_set_ne hu] at this ⊢
      exact this
theorem Sim0.move (S : Sim0 G root Ps Fs i a ρ) {c : Nat} {stk : List Nat} (hc : c < i.ths.length) (hk : ∀ d ∈ stk, d < i.ths.length ∧ (i.ths.getD d ITh.zero).st = 3) (hn : stk.Nodup) (hb : (c :: stk).getLast? = some 0) : Sim0 G root Ps Fs { i with cur := c, stack := stk } { a with cur := c, stack := stk } ρ :=
  ⟨rfl, rfl, S.fuel, S.first, S.out, S.tabs, S.di, S.da, S.rlen, S.rnd, S.rval, S.sn, S.sl, S.clen, S.clos, S.tlen, S.ths, hc, hk, hn, hb⟩
theorem Sim0.flds (S : Sim0 G root Ps Fs i a ρ) (fu fi : Nat) (ou : Str) : Sim0 G root Ps Fs { i with fuel := fu, first := fi, out := ou } { a with fuel := fu, first := fi, out := ou } ρ :=
  ⟨S.cur, S.stack, rfl, rfl, rfl, S.tabs, S.di, S.da, S.rlen, S.rnd, S.rval, S.sn, S.sl, S.clen, S.clos, S.tlen, S.ths, S.curlt, S.stk, S.stn, S.bot⟩
theorem Sim0.tabsE (S : Sim0 G root Ps Fs i a ρ) {t' : List Tb} (h : TabExt a.tabs t') : Sim0 G root Ps Fs { i with tabs := t' } { a with tabs := t' } ρ := by
  refine ⟨S.cur, S.stack, S.fuel, S.first, S.out, rfl, S.di, S.da, S.rlen, S.rnd, S.rval, S.sn, S.sl, S.clen, S.clos, S.tlen, fun t x y h1 h2 => ?_, S.curlt, S.stk, S.stn, S.bot⟩
  exact (S.ths t x y h1 h2).ext (M := fun s => a.vars.length ≤ s) ⟨EnvExt.refl _, fun _ _ => rfl, fun _ h => .inl h, fun _ _ _ _ => rfl, fun _ _ h => h, h⟩ (fun g hg s hs => by have := S.sl s (mem_slots h2 hg hs); omega)
theorem Sim0.newT (S : Sim0 G root Ps Fs i a ρ) {n : Nat} (hn : n < a.clos.length) : Sim0 G root Ps Fs { i with ths := i.ths ++ [⟨1, n, 0, [], []⟩] } { a with ths := a.ths ++ [⟨1, n, []⟩] } ρ := by
  have hsl : slotsOf (a.ths ++ [⟨1, n, []⟩]) = slotsOf a.ths := by simp [slotsOf]
  refine ⟨S.cur, S.stack, S.fuel, S.first, S.out, S.tabs, S.di, S.da, S.rlen, S.rnd, S.rval, by rw [hsl]; exact S.sn, by rw [hsl]; exact S.sl, S.clen, S.clos, by simp [S.tlen], fun t x y h1 h2 => ?_, by have := S.curlt; simp; omega, fun c hc => ?_, S.stn, S.bot⟩
  · by_cases ht : t < i.ths.length
    · simp only [List.getElem?_append_left ht] at h1
      simp only [List.getElem?_append_left (show t < a.ths.length by rw [← S.tlen]; exact ht)] at h2
      exact S.ths t x y h1 h2
    · have hl := (List.getElem?_eq_some_iff.1 h1).1
      have he : t = i.ths.length := by simp at hl; omega
      subst he
      simp only [List.getElem?_concat_length, Option.some.injEq] at h1
      simp only [S.tlen, List.getElem?_concat_length, Option.some.injEq] at h2
      subst h1; subst h2
      exact ⟨rfl, rfl, rfl, .nil, (fun h => by rcases h with h | h <;> cases h), (fun _ => rfl), (fun _ => hn), ⟨by show 1 ≤ 1; omega, by show 1 ≤ 5; omega⟩⟩
  · have := S.stk c hc
    refine ⟨by simp; omega, ?_⟩
    simp only [List.getD_eq_getElem?_getD, List.getElem?_append_left this.1]
    rw [← List.getD_eq_getElem?_getD]; exact this.2

/-- a frame that waits gets its two results. -/
theorem FrL.give {es : List Env} {vars : List PV} {clos : List (Nat × List Nat)} {tabs : List Tb} {g : AFr} {r : List AFr} {T : List Tk} {V : List PV} (h : FrL G Ps Fs es ρ vars clos tabs (g :: r) T V 2) (u v : PV) :
    FrL G Ps Fs es ρ vars clos tabs ({ g with ops := v :: u :: g.ops } :: r) T (v :: u :: V) 0 := by
  · obtain ⟨seg, ts, vs, vals, p, rfl, rfl, h1, h2, h3, h4, h5, h6⟩ := h
    obtain ⟨j, ids, od, L, hid, lc, fl, k1, k2, k3, k4, k5⟩ := h1
    show FrL G Ps Fs es ρ vars clos tabs _ _ ((v :: u :: vs) ++ vals) 0
    refine .cons ⟨j, ids, od, L, hid, lc, fl, k1, k2, k3, ⟨?_, (fun q hq => ⟨(k4.f q hq).1.ops (fun h => ?_), (k4.f q hq).2⟩), k4.n, k4.l, k4.r⟩, ?_⟩ h2 h3 h4 h5 h6
    · show v :: u :: vs = v :: u :: g.ops ++ _
      rw [k4.v]; rfl
    · obtain ⟨w, hw, -⟩ : ∃ w, g.ops.reverse[q.1]? = some w ∧ w.T = 4 := by have := (k4.f q hq).1; unfold FlD at this; rw [if_neg (by omega), if_pos h] at this; exact this
      rw [show v :: u :: g.ops = [v, u] ++ g.ops from rfl, List.reverse_append, List.getElem?_append_left (List.getElem?_eq_some_iff.1 hw).1]
    · show (v :: u :: g.ops).length + 0 ≤ 128
      simp; omega

theorem Sim.of (S : Sim0 G root Ps Fs i a ρ) (h1 : (i.ths.getD i.cur ITh.zero).st = 4) (h2 : (a.ths.getD a.cur ATh.zero).frs ≠ []) : Sim G root Ps Fs i a ρ := ⟨S, h1, h2⟩

theorem getD_of {α : Type} {l : List α} {n : Nat} {z d : α} (h : l[n]? = some z) : l.getD n d = z := by rw [List.getD_eq_getElem?_getD, h]; rfl

/-- two results for thread c, which waits; it runs. -/
theorem wake (S : Sim0 G root Ps Fs i a ρ) {c : Nat} {r : List Nat} {xc : ITh} {yc : ATh} (hx : i.ths[c]? = some xc) (hy : a.ths[c]? = some yc) (hst : xc.st = 2 ∨ xc.st = 3) (hk : ∀ d ∈ r, d < i.ths.length ∧ (i.ths.getD d ITh.zero).st = 3) (hn : r.Nodup) (hcr : c ∉ r) (hb : (c :: r).getLast? = some 0) (u v : PV) :
    Sim G root Ps Fs { i with cur := c, stack := r, ths := i.ths.set c { xc with st := 4, vals := v :: u :: xc.vals } } { a with cur := c, stack := r, ths := a.ths.set c { yc with st := 4, frs := match yc.frs with | [] => [] | f :: q => { f with ops := v :: u :: f.ops } :: q } } ρ := by
  have hic : c < i.ths.length := (List.getElem?_eq_some_iff.1 hx).1
  have hac : c < a.ths.length := (List.getElem?_eq_some_iff.1 hy).1
  have hT := S.ths c xc yc hx hy
  have hne := hT.ne hst
  have hfr := hT.fr
  rw [if_neg (by omega)] at hfr
  cases hF : yc.frs with
  | nil => exact absurd hF hne
  | cons g q =>
    rw [hF] at hfr
    have S1 := S.move hic hk hn hb
    have S2 := S1.thr (t := c) (x' := { xc with st := 4, vals := v :: u :: xc.vals }) (y' := { yc with st := 4, frs := { g with ops := v :: u :: g.ops } :: q }) hx hy ⟨rfl, hT.fn, by rw [hT.dp, hF]; rfl, hfr.give u v, (fun h => by rcases h with h | h <;> cases h), (fun h => by rcases h with h | h <;> cases h), (fun h => by cases h), ⟨by show 1 ≤ 4; omega, by show 4 ≤ 5; omega⟩⟩ (by rw [hF]; simp [frSl]) (fun h => absurd h hcr)
    refine Sim.of S2 ?_ ?_
    · show (List.getD (i.ths.set c _) c ITh.zero).st = 4
      rw [getD_of (List.getElem?_set_self hic)]
    · show (List.getD (a.ths.set c _) c ATh.zero).frs ≠ []
      rw [getD_of (List.getElem?_set_self hac)]
      simp

theorem set_set_th {α : Type} (l : List α) (n : Nat) (u v : α) : (l.set n u).set n v = l.set n v := by simp

/-- the thread at hand is dead or waits: its resumer goes on. -/
theorem back_sim (S : Sim0 G root Ps Fs i a ρ) (ok : Bool) (v : PV) : Rel G root Ps Fs (iback ok v i) (aback ok v a) := by
  cases hs : i.stack with
  | nil =>
    right
    unfold iback aback
    rw [← S.stack, hs]
    refine ⟨rfl, rfl, ?_⟩
    show Ans.mk _ _ _ _ _ = Ans.mk _ _ _ _ _
    rw [S.fuel, S.first, S.out]
  | cons c r =>
    left
    refine ⟨ρ, ?_⟩
    have hc := S.stk c (by rw [hs]; simp)
    have hx := List.getElem?_eq_getElem hc.1
    have hca : c < a.ths.length := by rw [← S.tlen]; exact hc.1
    have hy := List.getElem?_eq_getElem hca
    have hst : (i.ths[c]'hc.1).st = 3 := by have := hc.2; rw [getD_of hx] at this; exact this
    have hnd := S.stn
    rw [hs] at hnd
    have h := wake S hx hy (.inr hst) (r := r) (fun d hd => S.stk d (by rw [hs]; simp [hd])) (List.nodup_cons.1 hnd).2 (List.nodup_cons.1 hnd).1 (by have := S.bot; rw [hs, List.getLast?_cons_cons] at this; exact this) (vBool ok) v
    unfold iback aback
    rw [← S.stack, hs]
    simp only [ipush, IS.setT, IS.th, apush2, AS.setT, AS.th, getD_of hx, getD_of hy, getD_of (List.getElem?_set_self hc.1), getD_of (List.getElem?_set_self hca), List.set_set]
    exact h

theorem thrL_seg : ∀ {seg T : List Tk} {d : Nat}, (∀ t ∈ seg, t.k ≠ 3) → thrL (seg ++ T) d = thrL T d
  | [], T, d, h => rfl
  | t :: seg, T, d, h => by
    simp only [List.cons_append, thrL]
    rw [if_neg (h t (by simp)), thrL_seg (fun u hu => h u (by simp [hu]))]
theorem thr_unw {es : List Env} {vars : List PV} {clos : List (Nat × List Nat)} {tabs : List Tb} : ∀ {fs : List AFr} {T : List Tk} {V : List PV} {z : Nat}, FrL G Ps Fs es ρ vars clos tabs fs T V z →
    (∃ r T' V' pre, unwL fs = some r ∧ thrL T fs.length = (r.length, some (⟨3, 1, V'.length, 0⟩, T')) ∧ FrL G Ps Fs es ρ vars clos tabs r T' V' 2 ∧ r ≠ [] ∧ V = pre ++ V' ∧ (frSl r).Sublist (frSl fs)) ∨ (unwL fs = none ∧ thrL T fs.length = (0, none))
  | [], _, _, _, ⟨rfl, rfl⟩ => .inr ⟨rfl, rfl⟩
  | f :: fs, _, _, _, ⟨seg, ts, vs, vals, p, rfl, rfl, h1, h2, h3, h4, h5, h6⟩ => by
    rw [thrL_seg h6]
    simp only [thrL, if_true, List.length_cons, Nat.add_sub_cancel]
    by_cases hp : p = 1
    · left
      have hne : fs ≠ [] := fun h => by have := h5 h; omega
      refine ⟨fs, ts, vals, vs, ?_, ?_, h2, hne, rfl, by simp [frSl]⟩
      · simp [unwL, h3, hp, hne]
      · simp [hp]
    · have hu : unwL (f :: fs) = unwL fs := by simp [unwL, h3, hp]
      rw [hu, if_neg hp]
      rcases thr_unw h2 with ⟨r, T', V', pre, k1, k2, k3, k4, k5, k6⟩ | k
      · exact .inl ⟨r, T', V', vs ++ pre, k1, k2, k3, k4, by rw [k5, List.append_assoc], k6.trans (by simp [frSl])⟩
      · exact .inr k
theorem cutTo_app (pre V : List PV) : cutTo V.length (pre ++ V) = V := by
  unfold cutTo
  rw [List.length_append, Nat.add_sub_cancel, List.drop_left]

/-- an error value flies; U: what the two searches find. -/
theorem throw_core (S : Sim0 G root Ps Fs i a ρ) {V : List PV} {T : List Tk} {F : List AFr} {D : Nat} (hx : i.ths[i.cur]? = some x) (hy : a.ths[a.cur]? = some y) (hst : x.st = 4) (hfn : x.fn = y.fn)
    (hU : (∃ r T' V' pre, unwL F = some r ∧ thrL T D = (r.length, some (⟨3, 1, V'.length, 0⟩, T')) ∧ FrL G Ps Fs i.envs ρ a.vars a.clos a.tabs r T' V' 2 ∧ r ≠ [] ∧ V = pre ++ V' ∧ (frSl r).Sublist (frSl F)) ∨ (unwL F = none ∧ thrL T D = (0, none))) (hsub : (frSl F).Sublist (frSl y.frs)) (v : PV) :
    Rel G root Ps Fs (ithrow v { i with ths := i.ths.set i.cur { x with tasks := T, depth := D, vals := V } }) (athrow v { a with ths := a.ths.set a.cur { y with frs := F } }) := by
  have hic : i.cur < i.ths.length := S.curlt
  have hac : a.cur < a.ths.length := by rw [← S.cur, ← S.tlen]; exact hic
  have hcs : i.cur ∉ i.stack := fun h => by have := (S.stk _ h).2; rw [getD_of hx] at this; omega
  unfold ithrow athrow
  simp only [IS.th, AS.th, getD_of (List.getElem?_set_self hic), getD_of (List.getElem?_set_self hac)]
  rcases hU with ⟨r, T', V', pre', k1, k2, k3, k4, k5, k6⟩ | ⟨k1, k2⟩
  · left
    rw [k1, k2]
    refine ⟨ρ, ?_⟩
    simp only [IS.setT, apush2, AS.setT, AS.th, getD_of (List.getElem?_set_self hac), List.set_set, k5]
    cases r with
    | nil => exact absurd rfl k4
    | cons g q =>
      have S2 := S.thr (t := i.cur) (x' := { x with tasks := T', depth := (g :: q).length, vals := v :: vBool false :: V' }) (y' := { y with frs := { g with ops := v :: vBool false :: g.ops } :: q }) hx (by rw [S.cur]; exact hy)
        ⟨by show x.st = y.st; exact (S.ths _ _ _ hx (by rw [S.cur]; exact hy)).st, hfn, by simp, by show FrL _ _ _ _ _ _ _ _ _ _ _ (if x.st = 4 then 0 else 2); rw [if_pos hst]; exact k3.give _ _, fun h => by simp, fun h => by have h' : x.st = 1 ∨ x.st = 5 := h; omega, fun h => by have h' : x.st = 1 := h; omega, by show 1 ≤ x.st ∧ x.st ≤ 5; omega⟩
        ((by simp [frSl] : (frSl ({ g with ops := v :: vBool false :: g.ops } :: q)).Sublist (frSl (g :: q))).trans (k6.trans hsub)) (fun h => absurd h hcs)
      refine Sim.of (i := { i with ths := i.ths.set i.cur _ }) (a := { a with ths := a.ths.set a.cur _ }) ?_ ?_ ?_
      · rw [cutTo_app]
        rw [S.cur] at S2 ⊢
        exact S2
      · show (List.getD (i.ths.set i.cur _) i.cur ITh.zero).st = 4
        rw [getD_of (List.getElem?_set_self hic)]; exact hst
      · show (List.getD (a.ths.set a.cur _) a.cur ATh.zero).frs ≠ []
        rw [getD_of (List.getElem?_set_self hac)]; simp
  · rw [k1, k2]
    simp only [IS.setT, AS.setT, List.set_set]
    have S2 := S.thr (t := i.cur) (x' := { x with tasks := [], depth := 0, vals := [], st := 5 }) (y' := { y with frs := [], st := 5 }) hx (by rw [S.cur]; exact hy)
      ⟨rfl, hfn, rfl, .nil, (fun h => by rcases h with h | h <;> cases h), (fun _ => rfl), (fun h => by cases h), ⟨by show 1 ≤ 5; omega, by show 5 ≤ 5; omega⟩⟩ (by simp [frSl]) (fun h => absurd h hcs)
    have := back_sim S2 false v
    rw [S.cur] at this ⊢
    exact this
theorem throw_sim (S : Sim0 G root Ps Fs i a ρ) {V : List PV} {T : List Tk} {F : List AFr} {z : Nat} (hx : i.ths[i.cur]? = some x) (hy : a.ths[a.cur]? = some y) (hst : x.st = 4) (hfn : x.fn = y.fn) (hF : FrL G Ps Fs i.envs ρ a.vars a.clos a.tabs F T V z) (hsub : (frSl F).Sublist (frSl y.frs)) (v : PV) :
    Rel G root Ps Fs (ithrow v { i with ths := i.ths.set i.cur { x with tasks := T, depth := F.length, vals := V } }) (athrow v { a with ths := a.ths.set a.cur { y with frs := F } }) :=
  throw_core S hx hy hst hfn (thr_unw hF) hsub v
end

end Go.Proofs.Qxb6500568aGreatDoor
