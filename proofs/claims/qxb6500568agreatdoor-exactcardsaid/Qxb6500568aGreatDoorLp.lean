import Derived.Test.Qxb6500568aGreatDoorLo
namespace Go.Proofs.Qxb6500568aGreatDoor
open Ieee
set_option linter.unusedVariables false
set_option linter.unusedSimpArgs false
set_option linter.unusedSectionVars false

/-! A call, behind the taking of its operands. -/

section
variable {G : Arena} {root : Nat} {Ps : List Proto} {Fs : Nat → FI} {i : IS} {a : AS} {ρ : List Nat} {x : ITh} {y : ATh} {f : AFr} {fs : List AFr} {T : List Tk} {V : List PV}

/-- the thread at hand waits for two results. -/
structure Wt (G : Arena) (root : Nat) (Ps : List Proto) (Fs : Nat → FI) (i : IS) (a : AS) (ρ : List Nat) (x : ITh) (y : ATh) (f : AFr) (fs : List AFr) (T : List Tk) (V : List PV) : Prop where
  S : Sim0 G root Ps Fs i a ρ
  hx : i.ths[i.cur]? = some x
  hy : a.ths[a.cur]? = some y
  st : x.st = 4
  fn : x.fn = y.fn
  dp : x.depth = fs.length + 1
  F : FrL G Ps Fs i.envs ρ a.vars a.clos a.tabs (f :: fs) T V 2
  sub : (frSl (f :: fs)).Sublist (frSl y.frs)

theorem Wt.sy (W : Wt G root Ps Fs i a ρ x y f fs T V) : y.st = 4 := by rw [← (W.S.ths _ _ _ W.hx (by rw [W.S.cur]; exact W.hy)).st]; exact W.st
theorem Wt.hac (W : Wt G root Ps Fs i a ρ x y f fs T V) : a.cur < a.ths.length := (List.getElem?_eq_some_iff.1 W.hy).1
theorem Wt.hcs (W : Wt G root Ps Fs i a ρ x y f fs T V) : i.cur ∉ i.stack := fun h => by have := (W.S.stk _ h).2; rw [getD_of W.hx, W.st] at this; omega
theorem Wt.xe (W : Wt G root Ps Fs i a ρ x y f fs T V) (T' : List Tk) (V' : List PV) : ({ x with tasks := T', vals := V' } : ITh) = { x with st := 4, depth := (f :: fs).length, tasks := T', vals := V' } := by
  obtain ⟨s, n, d, t, v⟩ := x
  have h1 := W.st
  have h2 := W.dp
  simp only at h1 h2
  subst h1; subst h2; rfl
theorem Wt.ye (W : Wt G root Ps Fs i a ρ x y f fs T V) (F' : List AFr) : ({ y with frs := F' } : ATh) = { y with st := 4, frs := F' } := by
  have h := W.sy
  obtain ⟨s, n, d⟩ := y
  simp only at h
  subst h; rfl
theorem Wt.flds (W : Wt G root Ps Fs i a ρ x y f fs T V) (fu fi : Nat) (ou : Str) : Wt G root Ps Fs { i with fuel := fu, first := fi, out := ou } { a with fuel := fu, first := fi, out := ou } ρ x y f fs T V :=
  ⟨W.S.flds fu fi ou, W.hx, W.hy, W.st, W.fn, W.dp, W.F, W.sub⟩

theorem Wt.two (W : Wt G root Ps Fs i a ρ x y f fs T V) (u v : PV) : Rel G root Ps Fs (ipush v (ipush u (mkI i x T V))) (apush2 u v (mkA a y fs f a.vars)) := by
  left
  refine ⟨ρ, ?_⟩
  rw [mkI_push W.S.curlt, mkI_push W.S.curlt]
  have hA : apush2 u v (mkA a y fs f a.vars) = mkA a y fs { f with ops := v :: u :: f.ops } a.vars := by
    unfold apush2; rw [mk_th W.hac, mk_setT W.hac]; rfl
  rw [hA]
  have S2 := W.S.thr (t := i.cur) (x' := { x with tasks := T, vals := v :: u :: V }) (y' := { y with frs := { f with ops := v :: u :: f.ops } :: fs }) W.hx (by rw [W.S.cur]; exact W.hy)
    ⟨by show x.st = y.st; rw [W.st, W.sy], W.fn, by show x.depth = _; rw [W.dp]; simp, by show FrL _ _ _ _ _ _ _ _ _ _ _ (if x.st = 4 then 0 else 2); rw [if_pos W.st]; exact W.F.give _ _, fun h => by simp, fun h => by have h' : x.st = 1 ∨ x.st = 5 := h; rw [W.st] at h'; omega, fun h => by have h' : x.st = 1 := h; rw [W.st] at h'; omega, by show 1 ≤ x.st ∧ x.st ≤ 5; rw [W.st]; omega⟩
    (List.Sublist.trans (by simp [frSl]) W.sub) (fun h => absurd h W.hcs)
  refine Sim.of ?_ ?_ ?_
  · unfold mkI mkA
    rw [W.S.cur] at S2 ⊢
    exact S2
  · show (List.getD (i.ths.set i.cur _) i.cur ITh.zero).st = 4
    rw [getD_of (List.getElem?_set_self W.S.curlt)]; exact W.st
  · show (List.getD (a.ths.set a.cur _) a.cur ATh.zero).frs ≠ []
    rw [getD_of (List.getElem?_set_self W.hac)]; simp
theorem Wt.throw (W : Wt G root Ps Fs i a ρ x y f fs T V) (v : PV) : Rel G root Ps Fs (ithrow v (mkI i x T V)) (athrow v (mkA a y fs f a.vars)) := by
  have h := throw_sim W.S W.hx W.hy W.st W.fn W.F W.sub v
  have e : (f :: fs).length = x.depth := by rw [W.dp]; rfl
  rw [e] at h
  exact h
theorem Wt.enter (W : Wt G root Ps Fs i a ρ x y f fs T V) {c p : Nat} (hc : c < i.clos.length) (zs : List PV) (hp : p ≤ 1) : Rel G root Ps Fs (ienter G root c zs p (mkI i x T V)) (aenter Ps c zs (decide (p = 1)) (mkA a y fs f a.vars)) := by
  left
  have hcl := List.getElem?_eq_getElem hc
  obtain ⟨ρ', h⟩ := enter_sim W.S W.hx W.hy W.hcs W.fn W.F W.sub (c := c) (n := (i.clos[c]'hc).1) (e := (i.clos[c]'hc).2) hcl zs hp (fun h => by cases h)
  refine ⟨ρ', ?_⟩
  unfold mkI mkA
  rw [W.xe, W.ye]
  exact h

theorem set_app_left {α : Type} (l r : List α) {n : Nat} (h : n < l.length) (z : α) : (l ++ r).set n z = l.set n z ++ r := by
  rw [List.set_append_left _ _ h]
theorem Wt.create (W : Wt G root Ps Fs i a ρ x y f fs T V) {n : Nat} (hn : n < i.clos.length) : Wt G root Ps Fs { i with ths := i.ths ++ [⟨1, n, 0, [], []⟩] } { a with ths := a.ths ++ [⟨1, n, []⟩] } ρ x y f fs T V :=
  ⟨W.S.newT (by rw [← W.S.clen]; exact hn), by simp only [List.getElem?_append_left W.S.curlt]; exact W.hx, by simp only [List.getElem?_append_left W.hac]; exact W.hy, W.st, W.fn, W.dp, W.F, W.sub⟩

/-- the thread at hand stands still in the state st. -/
theorem Wt.rest (W : Wt G root Ps Fs i a ρ x y f fs T V) {st : Nat} (hs : st = 2 ∨ st = 3) : Sim0 G root Ps Fs { i with ths := i.ths.set i.cur { x with tasks := T, vals := V, st := st } } { a with ths := a.ths.set a.cur { y with frs := f :: fs, st := st } } ρ := by
  have S2 := W.S.thr (t := i.cur) (x' := { x with tasks := T, vals := V, st := st }) (y' := { y with frs := f :: fs, st := st }) W.hx (by rw [W.S.cur]; exact W.hy)
    ⟨rfl, W.fn, by show x.depth = _; rw [W.dp]; simp, by show FrL _ _ _ _ _ _ _ _ _ _ _ (if st = 4 then 0 else 2); rw [if_neg (by omega)]; exact W.F, fun h => by simp, fun h => by have h' : st = 1 ∨ st = 5 := h; omega, fun h => by have h' : st = 1 := h; omega, by show 1 ≤ st ∧ st ≤ 5; omega⟩
    W.sub (fun h => absurd h W.hcs)
  rw [W.S.cur] at S2 ⊢
  exact S2
theorem Wt.yield (W : Wt G root Ps Fs i a ρ x y f fs T V) {c : Nat} {r : List Nat} (hs : i.stack = c :: r) (u v : PV) :
    Rel G root Ps Fs (let s1 := (mkI i x T V).setT { (mkI i x T V).th with st := 2 }; let s2 : IS := { s1 with stack := r, cur := c }; ipush v (ipush u (s2.setT { s2.th with st := 4 })))
      (let s1 := (mkA a y fs f a.vars).setT { (mkA a y fs f a.vars).th with st := 2 }; let s2 : AS := { s1 with stack := r, cur := c }; apush2 u v (s2.setT { s2.th with st := 4 })) := by
  left
  refine ⟨ρ, ?_⟩
  have S2 := W.rest (.inl rfl)
  have hcm := W.S.stk c (by rw [hs]; simp)
  have hne : i.cur ≠ c := fun h => W.hcs (by rw [h, hs]; simp)
  have hne' : a.cur ≠ c := by rw [← W.S.cur]; exact hne
  have hca : c < a.ths.length := by rw [← W.S.tlen]; exact hcm.1
  have hx := List.getElem?_eq_getElem hcm.1
  have hy := List.getElem?_eq_getElem hca
  have hst : (i.ths[c]'hcm.1).st = 3 := by have := hcm.2; rw [getD_of hx] at this; exact this
  have hnd := W.S.stn
  rw [hs] at hnd
  have hx2 : (i.ths.set i.cur { x with tasks := T, vals := V, st := 2 })[c]? = some (i.ths[c]'hcm.1) := by rw [List.getElem?_set_ne hne]; exact hx
  have hy2 : (a.ths.set a.cur { y with frs := f :: fs, st := 2 })[c]? = some (a.ths[c]'hca) := by rw [List.getElem?_set_ne hne']; exact hy
  have h := wake S2 hx2 hy2 (.inr hst) (r := r) (fun d hd => S2.stk d (by show d ∈ i.stack; rw [hs]; simp [hd])) (List.nodup_cons.1 hnd).2 (List.nodup_cons.1 hnd).1 (by have := W.S.bot; rw [hs, List.getLast?_cons_cons] at this; exact this) u v
  rw [mkI_th W.S.curlt, mkI_setT W.S.curlt, mk_th W.hac, mk_setT W.hac]
  have hci : c < (i.ths.set i.cur { x with tasks := T, vals := V, st := 2 }).length := by simpa using hcm.1
  have hcb : c < (a.ths.set a.cur { y with frs := f :: fs, st := 2 }).length := by simpa using hca
  simp only [ipush, IS.setT, IS.th, apush2, AS.setT, AS.th, getD_of hx2, getD_of hy2, getD_of (List.getElem?_set_self hci), getD_of (List.getElem?_set_self hcb), List.set_set]
  exact h
theorem Wt.resume (W : Wt G root Ps Fs i a ρ x y f fs T V) {c : Nat} (hc : c < i.ths.length) (hst : (i.ths.getD c ITh.zero).st = 1 ∨ (i.ths.getD c ITh.zero).st = 2) (u b : PV) (hu : u.N = c) :
    Rel G root Ps Fs (iresume G root u b (mkI i x T V)) (aresume Ps u b (mkA a y fs f a.vars)) := by
  left
  have S2 := W.rest (.inr rfl)
  have hca : c < a.ths.length := by rw [← W.S.tlen]; exact hc
  have hx := List.getElem?_eq_getElem hc
  have hy := List.getElem?_eq_getElem hca
  rw [getD_of hx] at hst
  have hne : i.cur ≠ c := fun h => by
    subst h
    have := W.hx
    rw [hx] at this
    have h2 := W.st
    rw [← Option.some.inj this] at h2
    omega
  have hne' : a.cur ≠ c := by rw [← W.S.cur]; exact hne
  have hcs : c ∉ i.stack := fun h => by have := (W.S.stk c h).2; rw [getD_of hx] at this; omega
  have hys := (W.S.ths c _ _ hx hy)
  have hx2 : (i.ths.set i.cur { x with tasks := T, vals := V, st := 3 })[c]? = some (i.ths[c]'hc) := by rw [List.getElem?_set_ne hne]; exact hx
  have hy2 : (a.ths.set a.cur { y with frs := f :: fs, st := 3 })[c]? = some (a.ths[c]'hca) := by rw [List.getElem?_set_ne hne']; exact hy
  have hci : c < (i.ths.set i.cur { x with tasks := T, vals := V, st := 3 }).length := by simpa using hc
  have hcb : c < (a.ths.set a.cur { y with frs := f :: fs, st := 3 }).length := by simpa using hca
  have hk : ∀ d ∈ i.cur :: i.stack, d < (i.ths.set i.cur { x with tasks := T, vals := V, st := 3 }).length ∧ ((i.ths.set i.cur { x with tasks := T, vals := V, st := 3 }).getD d ITh.zero).st = 3 := by
    intro d hd
    rcases List.mem_cons.1 hd with rfl | hd
    · exact ⟨by simpa using W.S.curlt, by rw [getD_of (List.getElem?_set_self W.S.curlt)]⟩
    · exact S2.stk d hd
  have hn : (i.cur :: i.stack).Nodup := List.nodup_cons.2 ⟨W.hcs, W.S.stn⟩
  have hcr : c ∉ i.cur :: i.stack := fun h => by rcases List.mem_cons.1 h with h | h; exact hne h.symm; exact hcs h
  have hb : (c :: i.cur :: i.stack).getLast? = some 0 := by rw [List.getLast?_cons_cons]; exact W.S.bot
  have hI0 : (mkI i x T V).ths.getD u.N ITh.zero = i.ths[c]'hc := by
    rw [hu]; exact getD_of (by show (i.ths.set i.cur _)[c]? = _; rw [List.getElem?_set_ne hne]; exact hx)
  have hA0 : (mkA a y fs f a.vars).ths.getD u.N ATh.zero = a.ths[c]'hca := by
    rw [hu]; exact getD_of (by show (a.ths.set a.cur _)[c]? = _; rw [List.getElem?_set_ne hne']; exact hy)
  rcases hst with hst | hst
  · -- fresh
    have hfr0 := hys.em (.inl hst)
    have hfr := hys.fr
    rw [hfr0] at hfr
    have htv : (i.ths[c]'hc).tasks = [] ∧ (i.ths[c]'hc).vals = [] := by
      generalize hq1 : (i.ths[c]'hc).tasks = q1 at hfr
      generalize hq2 : (i.ths[c]'hc).vals = q2 at hfr
      exact hfr
    have S3 := (S2.move (c := c) (stk := i.cur :: i.stack) hci hk hn hb).flds i.fuel (i.first + 1) i.out
    have hfc := hys.fc hst
    rw [← W.S.clen] at hfc
    obtain ⟨ρ', h⟩ := enter_sim S3 (x := i.ths[c]'hc) (y := a.ths[c]'hca) hx2 hy2 (by show c ∉ _; exact hcr) hys.fn (F := []) (T := []) (V := []) .nil (by rw [hfr0]; exact List.Sublist.refl _) (c := (i.ths[c]'hc).fn) (n := (i.clos[(i.ths[c]'hc).fn]'hfc).1) (e := (i.clos[(i.ths[c]'hc).fn]'hfc).2) (List.getElem?_eq_getElem hfc) [b] (p := 0) (by omega) (fun _ => rfl)
    refine ⟨ρ', ?_⟩
    unfold iresume aresume
    simp only [hI0, hA0, ← hys.st, hst, if_true, hys.fn.symm]
    rw [mkI_th W.S.curlt, mkI_setT W.S.curlt, mk_th W.hac, mk_setT W.hac]
    simp only [hu, IS.setT, IS.th, AS.setT, AS.th, getD_of hx2, getD_of hy2]
    have ex : ({ (i.ths[c]'hc) with st := 4 } : ITh) = { (i.ths[c]'hc) with st := 4, depth := ([] : List AFr).length, tasks := [], vals := [] } := by
      have hd := hys.dp
      rw [hfr0] at hd
      obtain ⟨h1, h2⟩ := htv
      generalize i.ths[c]'hc = q at *
      obtain ⟨s, n, d, t, v⟩ := q
      simp only at hd h1 h2
      subst hd; subst h1; subst h2; rfl
    have ey : ({ (a.ths[c]'hca) with st := 4 } : ATh) = { (a.ths[c]'hca) with st := 4, frs := [] } := by
      generalize a.ths[c]'hca = q at *
      obtain ⟨s, n, d⟩ := q
      simp only at hfr0
      subst hfr0; rfl
    rw [ex, ey, ← W.S.cur, ← W.S.first]
    have e1 := W.S.fuel
    have e2 := W.S.out
    have e3 := W.S.stack
    simp only [W.S.cur] at h ⊢
    simp only [e1, e2, e3] at h ⊢
    exact h
  · have h := wake S2 hx2 hy2 (.inl hst) (r := i.cur :: i.stack) hk hn hcr hb b vNil
    refine ⟨ρ, ?_⟩
    unfold iresume aresume
    simp only [hI0, hA0, ← hys.st, hst, Nat.reduceEqDiff, if_false]
    rw [mkI_th W.S.curlt, mkI_setT W.S.curlt, mk_th W.hac, mk_setT W.hac]
    simp only [hu, ipush, IS.setT, IS.th, apush2, AS.setT, AS.th, getD_of hx2, getD_of hy2, getD_of (List.getElem?_set_self hci), getD_of (List.getElem?_set_self hcb), List.set_set]
    have e3 := W.S.stack
    simp only [W.S.cur, e3] at h ⊢
    exact h
end

end Go.Proofs.Qxb6500568aGreatDoor
