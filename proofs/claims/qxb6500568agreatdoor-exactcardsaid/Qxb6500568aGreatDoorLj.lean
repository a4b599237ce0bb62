import Derived.Test.Qxb6500568aGreatDoorLi
namespace Go.Proofs.Qxb6500568aGreatDoor
open Ieee
set_option linter.unusedVariables false
set_option linter.unusedSimpArgs false

/-! How the relation goes on when a thread's top frame turns. -/

def TabExt (ts ts' : List Tb) : Prop := ts.length ≤ ts'.length ∧ ∀ (h : Nat) k i, h < ts.length → place (ts.getD h []) k = some i → place (ts'.getD h []) k = some i
theorem TabExt.refl (ts : List Tb) : TabExt ts ts := ⟨Nat.le_refl _, fun _ _ _ _ h => h⟩
theorem place_mod : ∀ (t : Tb) (k v : PV) (n : Nat), place (t.modify n fun p => (p.1, v)) k = place t k
  | [], k, v, n => by cases n <;> rfl
  | p :: t, k, v, 0 => by simp [place]
  | p :: t, k, v, n + 1 => by simp only [List.modify_succ_cons, place]; rw [place_mod t k v n]
theorem place_app : ∀ {t r : Tb} {k : PV} {i : Nat}, place t k = some i → place (t ++ r) k = some i
  | p :: t, r, k, i, h => by
    simp only [List.cons_append, place] at h ⊢
    split
    · rename_i hp; rw [if_pos hp] at h; exact h
    · rename_i hp
      rw [if_neg hp] at h
      cases hq : place t k with
      | none => rw [hq] at h; cases h
      | some q => rw [hq] at h; rw [place_app hq]; exact h
theorem tSet_place {t : Tb} {k v k' : PV} {i : Nat} (h : place t k' = some i) : place (tSet t k v).2 k' = some i := by
  unfold tSet
  split
  · exact h
  · split
    · exact h
    · split
      · rw [place_mod]; exact h
      · split
        · exact h
        · split
          · exact h
          · exact place_app h
theorem TabExt.set {ts : List Tb} {h : Nat} (k v : PV) : TabExt ts (ts.set h (tSet (ts.getD h []) k v).2) := by
  refine ⟨by simp, fun n k' i hn hp => ?_⟩
  by_cases he : h = n
  · subst he
    simp only [List.getD_eq_getElem?_getD, List.getElem?_set_self hn, Option.getD_some] at hp ⊢
    exact tSet_place hp
  · simp only [List.getD_eq_getElem?_getD, List.getElem?_set_ne he] at hp ⊢
    exact hp
theorem TabExt.app (ts : List Tb) (t : Tb) : TabExt ts (ts ++ [t]) := by
  refine ⟨by simp, fun n k' i hn hp => ?_⟩
  simp only [List.getD_eq_getElem?_getD] at hp ⊢
  rw [List.getElem?_append_left hn]
  exact hp

structure Ext (es : List Env) (ρ : List Nat) (vars : List PV) (clos : List (Nat × List Nat)) (tabs : List Tb) (es' : List Env) (ρ' : List Nat) (vars' : List PV) (clos' : List (Nat × List Nat)) (tabs' : List Tb) (M : Nat → Prop) : Prop where
  e : EnvExt es es'
  r : ∀ k, k < es.length → ρ'.getD k 0 = ρ.getD k 0
  m : ∀ s, s ∈ ρ' → s ∈ ρ ∨ M s
  v : ∀ s, s < vars.length → s ∉ ρ → ¬ M s → vars'.getD s vNil = vars.getD s vNil
  c : ∀ (k : Nat) z, clos[k]? = some z → clos'[k]? = some z
  t : TabExt tabs tabs'

section
variable {G : Arena} {root : Nat} {Ps : List Proto} {Fs : Nat → FI} {es es' : List Env} {ρ ρ' : List Nat} {vars vars' : List PV} {clos clos' : List (Nat × List Nat)} {tabs tabs' : List Tb} {M : Nat → Prop}

theorem getD_mem {l : List Nat} {s : Nat} (h : s < l.length) : l.getD s 0 ∈ l := by
  rw [List.getD_eq_getElem?_getD, List.getElem?_eq_getElem h]; exact List.getElem_mem h

/-- the value of a hidden slot stays. -/
theorem hid_val (E : Ext es ρ vars clos tabs es' ρ' vars' clos' tabs' M) {sl : List Nat} {L : List Str} {s : Nat} (hs : L[s]? = some []) (hl : L.length ≤ sl.length) (hr : ∀ s, s < sl.length → sl.getD s 0 ∈ ρ → ∃ nm, L[s]? = some nm ∧ nm ≠ [])
    (hm : ∀ s ∈ sl, ¬ M s ∧ s < vars.length) : vars'.getD (sl.getD s 0) vNil = vars.getD (sl.getD s 0) vNil := by
  have h1 : s < sl.length := Nat.lt_of_lt_of_le (List.getElem?_eq_some_iff.1 hs).1 hl
  have h2 := hm _ (getD_mem h1)
  refine E.v _ h2.2 (fun h => ?_) h2.1
  obtain ⟨nm, h3, h4⟩ := hr s h1 h
  rw [hs] at h3
  exact h4 (Option.some.inj h3).symm
theorem FlD.ext (E : Ext es ρ vars clos tabs es' ρ' vars' clos' tabs' M) {sl : List Nat} {ops : List PV} {p : Nat × Nat} (h : FlD vars tabs sl ops p) (hp : p.2 ≤ 2) (hv : ∀ k, k < hk p.2 → vars'.getD (sl.getD (p.1 + k) 0) vNil = vars.getD (sl.getD (p.1 + k) 0) vNil) : FlD vars' tabs' sl ops p := by
  obtain ⟨n, b⟩ := p
  have hb : b = 1 ∨ b = 2 ∨ b = 0 := by simp only at hp; omega
  unfold FlD at h ⊢
  rcases hb with rfl | rfl | rfl
  · simp only [if_true, hk] at h hv ⊢
    intro k hk'
    rw [hv k hk']
    exact h k hk'
  · exact h
  · simp [hk] at h hv ⊢
    have h0 := hv 0 (by omega)
    have h1 := hv 1 (by omega)
    rw [Nat.add_zero] at h0
    rw [h0, h1]
    refine ⟨h.1, Nat.lt_of_lt_of_le h.2.1 E.t.1, ?_⟩
    rcases h.2.2 with h' | ⟨i, h'⟩
    · exact .inl h'
    · refine .inr ⟨i, ?_⟩
      have := E.t.2 _ (nrmK (vars[sl[n + 1]?.getD 0]?.getD vNil)) i h.2.1 (by simpa [List.getD_eq_getElem?_getD] using h')
      simpa [List.getD_eq_getElem?_getD] using this
theorem FR.ext (E : Ext es ρ vars clos tabs es' ρ' vars' clos' tabs' M) {f : AFr} {seg : List Tk} {vs : List PV} {x hb : Nat} (h : FR G Ps Fs es ρ vars clos tabs f seg vs x hb) (hm : ∀ s ∈ f.slots, ¬ M s ∧ s < vars.length) : FR G Ps Fs es' ρ' vars' clos' tabs' f seg vs x hb := by
  obtain ⟨j, ids, od, L, hid, lc, fl, h1, h2, h3, h4, h5⟩ := h
  have hh := h3.hidden
  have hL : L.length ≤ f.slots.length := by rw [h4.n]; exact h4.l
  refine ⟨j, ids, od, L, hid, lc, fl, E.c _ _ h1, h2, h3.mono (fun e D hB => hB.mono E.e E.r) (fun _ _ _ _ => rfl), ⟨?_, ?_, h4.n, h4.l, ?_⟩, h5⟩
  · rw [h4.v]
    congr 1
    apply List.map_congr_left
    intro s hs
    exact (hid_val E (hh.1 s hs) hL h4.r hm).symm
  · intro p hp
    exact ⟨(h4.f p hp).1.ext E (h4.f p hp).2 (fun k hk => hid_val E (hh.2 p hp k hk) hL h4.r hm), (h4.f p hp).2⟩
  · intro s hs hr
    rcases E.m _ hr with h' | h'
    · exact h4.r s hs h'
    · exact absurd h' (hm _ (getD_mem hs)).1
theorem FrL.ext (E : Ext es ρ vars clos tabs es' ρ' vars' clos' tabs' M) : ∀ {fs : List AFr} {ts : List Tk} {vs : List PV} {x : Nat}, FrL G Ps Fs es ρ vars clos tabs fs ts vs x → (∀ f ∈ fs, ∀ s ∈ f.slots, ¬ M s ∧ s < vars.length) → FrL G Ps Fs es' ρ' vars' clos' tabs' fs ts vs x
  | [], _, _, _, h, _ => h
  | f :: fs, _, _, _, ⟨seg, ts, vs, vals, p, e1, e2, h1, h2, h3, h4, h5, h6⟩, hm => ⟨seg, ts, vs, vals, p, e1, e2, h1.ext E (hm _ (by simp)), FrL.ext E h2 (fun f hf => hm f (by simp [hf])), h3, h4, h5, h6⟩
theorem TR.ext (E : Ext es ρ vars clos tabs es' ρ' vars' clos' tabs' M) {x : ITh} {y : ATh} (h : TR G Ps Fs es ρ vars clos tabs x y) (hm : ∀ f ∈ y.frs, ∀ s ∈ f.slots, ¬ M s ∧ s < vars.length) : TR G Ps Fs es' ρ' vars' clos' tabs' x y := by
  refine ⟨h.st, h.fn, h.dp, h.fr.ext E hm, h.ne, h.em, fun h' => ?_, h.rg⟩
  have h1 := h.fc h'
  have := E.c _ _ (List.getElem?_eq_getElem h1)
  exact (List.getElem?_eq_some_iff.1 this).1

/-! the slots of all frames -/

def frSl (fs : List AFr) : List Nat := fs.flatMap (·.slots)
def rstSl (ths : List ATh) (c : Nat) : List Nat := (ths.take c).flatMap (fun t => frSl t.frs) ++ (ths.drop (c + 1)).flatMap fun t => frSl t.frs
theorem slots_set {ths : List ATh} {c : Nat} (hc : c < ths.length) (y : ATh) : (slotsOf (ths.set c y)).Perm (frSl y.frs ++ rstSl ths c) := by
  unfold slotsOf rstSl
  rw [List.set_eq_take_append_cons_drop, if_pos hc]
  simp only [List.flatMap_append, List.flatMap_cons]
  show (_ ++ (frSl y.frs ++ _)).Perm _
  rw [← List.append_assoc, ← List.append_assoc]
  exact List.Perm.append_right _ List.perm_append_comm
theorem slots_self {ths : List ATh} {c : Nat} {y : ATh} (hy : ths[c]? = some y) : (slotsOf ths).Perm (frSl y.frs ++ rstSl ths c) := by
  obtain ⟨hc, he⟩ := List.getElem?_eq_some_iff.1 hy
  subst he
  have := slots_set hc ths[c]
  rwa [List.set_getElem_self] at this
theorem mem_slots {ths : List ATh} {c : Nat} {y : ATh} {f : AFr} {s : Nat} (hy : ths[c]? = some y) (hf : f ∈ y.frs) (hs : s ∈ f.slots) : s ∈ slotsOf ths := by
  unfold slotsOf
  rw [List.mem_flatMap]
  exact ⟨y, List.mem_of_getElem? hy, List.mem_flatMap.2 ⟨f, hf, hs⟩⟩
theorem mem_rst {ths : List ATh} {c t : Nat} {y : ATh} {f : AFr} {s : Nat} (hy : ths[t]? = some y) (hne : t ≠ c) (hf : f ∈ y.frs) (hs : s ∈ f.slots) : s ∈ rstSl ths c := by
  unfold rstSl
  have hm : s ∈ frSl y.frs := List.mem_flatMap.2 ⟨f, hf, hs⟩
  by_cases h : t < c
  · refine List.mem_append_left _ (List.mem_flatMap.2 ⟨y, ?_, hm⟩)
    refine List.mem_of_getElem? (i := t) ?_
    rw [List.getElem?_take_of_lt h]; exact hy
  · refine List.mem_append_right _ (List.mem_flatMap.2 ⟨y, ?_, hm⟩)
    refine List.mem_of_getElem? (i := t - (c + 1)) ?_
    rw [List.getElem?_drop, show c + 1 + (t - (c + 1)) = t by omega]; exact hy

/-- the thread at hand, taken apart. -/
structure Vw (G : Arena) (Ps : List Proto) (Fs : Nat → FI) (i : IS) (a : AS) (ρ : List Nat) (x : ITh) (y : ATh) (f : AFr) (fs : List AFr) (seg ts : List Tk) (vs vals : List PV) (p : Nat) : Prop where
  hx : i.ths[i.cur]? = some x
  hy : a.ths[a.cur]? = some y
  hf : y.frs = f :: fs
  ht : x.tasks = seg ++ ⟨3, p, vals.length, 0⟩ :: ts
  hv : x.vals = vs ++ vals
  fr : FR G Ps Fs i.envs ρ a.vars a.clos a.tabs f seg vs 0 vals.length
  fl : FrL G Ps Fs i.envs ρ a.vars a.clos a.tabs fs ts vals 2
  pr : f.prot = decide (p = 1)
  p1 : p ≤ 1
  p0 : fs = [] → p = 0
  nr : ∀ t ∈ seg, t.k ≠ 3
  st : x.st = 4
  dp : x.depth = fs.length + 1
  fn : x.fn = y.fn
  sy : y.st = 4
theorem Sim.view {i : IS} {a : AS} (S : Sim G root Ps Fs i a ρ) : ∃ x y f fs seg ts vs vals p, Vw G Ps Fs i a ρ x y f fs seg ts vs vals p := by
  have h1 := List.getElem?_eq_getElem S.curlt
  have h2 : a.cur < a.ths.length := by rw [← S.cur, ← S.tlen]; exact S.curlt
  have h3 := List.getElem?_eq_getElem h2
  have hT := S.ths _ _ _ h1 (by rw [S.cur]; exact h3)
  have hst : (i.ths[i.cur]'S.curlt).st = 4 := by have := S.curst; rw [List.getD_eq_getElem?_getD, h1] at this; exact this
  have hfr := hT.fr
  rw [hst] at hfr
  simp only [if_true] at hfr
  generalize hxe : i.ths[i.cur]'S.curlt = x at *
  generalize hye : a.ths[a.cur]'h2 = y at *
  generalize hF : y.frs = F at hfr
  generalize hTs : x.tasks = T at hfr
  generalize hVs : x.vals = V at hfr
  cases F with
  | nil => exact absurd hF (by have := S.curne; rw [List.getD_eq_getElem?_getD, h3] at this; exact this)
  | cons f0 fs0 =>
    obtain ⟨_, _, _, _, _, rfl, rfl, k1, k2, k3, k4, k5, k6⟩ := hfr
    exact ⟨x, y, _, _, _, _, _, _, _, ⟨h1, h3, hF, hTs, hVs, k1, k2, k3, k4, k5, k6, hst, by rw [hT.dp, hF]; simp, hT.fn, by rw [← hT.st]; exact hst⟩⟩

theorem Sim.upd {i i' : IS} {a a' : AS} (S : Sim G root Ps Fs i a ρ) {x : ITh} {y : ATh} {f f' : AFr} {fs : List AFr} {seg seg' ts : List Tk} {vs vs' vals : List PV} {p : Nat} (V : Vw G Ps Fs i a ρ x y f fs seg ts vs vals p)
    (hi : i'.ths = i.ths.set i.cur { x with tasks := seg' ++ ⟨3, p, vals.length, 0⟩ :: ts, vals := vs' ++ vals }) (ha : a'.ths = a.ths.set a.cur { y with frs := f' :: fs })
    (ci : i'.cur = i.cur) (ca : a'.cur = a.cur) (si : i'.stack = i.stack) (sa : a'.stack = a.stack) (fu : i'.fuel = a'.fuel) (fi : i'.first = a'.first) (ou : i'.out = a'.out) (tb : i'.tabs = a'.tabs) (di : i'.done = false) (da : a'.done = false)
    (E : Ext i.envs ρ a.vars a.clos a.tabs i'.envs ρ' a'.vars a'.clos a'.tabs (fun s => s ∈ f.slots ∨ a.vars.length ≤ s)) (F' : FR G Ps Fs i'.envs ρ' a'.vars a'.clos a'.tabs f' seg' vs' 0 vals.length) (pf : f'.prot = f.prot)
    (sn : f'.slots.Nodup) (ss : ∀ s ∈ f'.slots, (s ∈ f.slots ∨ a.vars.length ≤ s) ∧ s < a'.vars.length) (vl : a.vars.length ≤ a'.vars.length)
    (rl : ρ'.length = i'.envs.length) (rn : ρ'.Nodup) (rv : ∀ (k : Nat) x, i'.envs[k]? = some x → a'.vars.getD (ρ'.getD k 0) vNil = x.v ∧ ρ'.getD k 0 < a'.vars.length)
    (cl : i'.clos.length = a'.clos.length) (cs : ∀ (c : Nat) n e, i'.clos[c]? = some (n, e) → i.clos[c]? = some (n, e) ∨ ∃ j ids od, a'.clos[c]? = some (j, ids) ∧ UpD Fs j ids od ∧ Bd i'.envs ρ' e od ∧ FnD G root Ps Fs n j)
    (nr : ∀ t ∈ seg', t.k ≠ 3) : Sim G root Ps Fs i' a' ρ' ∧ Vw G Ps Fs i' a' ρ' { x with tasks := seg' ++ ⟨3, p, vals.length, 0⟩ :: ts, vals := vs' ++ vals } { y with frs := f' :: fs } f' fs seg' ts vs' vals p := by
  have hac : a.cur < a.ths.length := (List.getElem?_eq_some_iff.1 V.hy).1
  have hpm := slots_self V.hy
  have hnd : (frSl (f :: fs) ++ rstSl a.ths a.cur).Nodup := by rw [← V.hf]; exact hpm.nodup_iff.1 S.sn
  have hfm : frSl (f :: fs) = f.slots ++ frSl fs := by simp [frSl]
  rw [hfm, List.append_assoc] at hnd
  obtain ⟨hn1, hn2, hn3⟩ := List.nodup_append.1 hnd
  have hlt : ∀ s ∈ f.slots ++ (frSl fs ++ rstSl a.ths a.cur), s < a.vars.length := fun s hs => S.sl s (hpm.mem_iff.2 (by rw [V.hf, hfm, List.append_assoc]; exact hs))
  have hm2 : ∀ s ∈ frSl fs ++ rstSl a.ths a.cur, ¬ (s ∈ f.slots ∨ a.vars.length ≤ s) ∧ s < a.vars.length := by
    intro s hs
    have h1 := hlt s (List.mem_append_right _ hs)
    refine ⟨?_, h1⟩
    rintro (h | h)
    · exact hn3 s h s hs rfl
    · omega
  have hE : ∀ g ∈ fs, ∀ s ∈ g.slots, ¬ (s ∈ f.slots ∨ a.vars.length ≤ s) ∧ s < a.vars.length := fun g hg s hs => hm2 s (List.mem_append_left _ (List.mem_flatMap.2 ⟨g, hg, hs⟩))
  have hpm' : (slotsOf a'.ths).Perm (f'.slots ++ (frSl fs ++ rstSl a.ths a.cur)) := by
    rw [ha]
    have := slots_set hac { y with frs := f' :: fs }
    rwa [show frSl ({ y with frs := f' :: fs } : ATh).frs = f'.slots ++ frSl fs by simp [frSl], List.append_assoc] at this
  refine ⟨?_, ⟨by rw [ci, hi, List.getElem?_set_self S.curlt], by rw [ca, ha, List.getElem?_set_self hac], rfl, rfl, rfl, F', V.fl.ext E hE, by rw [pf]; exact V.pr, V.p1, V.p0, nr, V.st, V.dp, V.fn, V.sy⟩⟩
  refine ⟨⟨by rw [ci, ca]; exact S.cur, by rw [si, sa]; exact S.stack, fu, fi, ou, tb, di, da, rl, rn, rv, ?_, ?_, cl, ?_, by rw [hi, ha]; simp [S.tlen], ?_, by rw [ci, hi]; simpa using S.curlt, ?_, by rw [si]; exact S.stn, by rw [ci, si]; exact S.bot⟩, ?_, by rw [ca, ha, List.getD_eq_getElem?_getD, List.getElem?_set_self hac]; simp⟩
  · rw [hpm'.nodup_iff, List.nodup_append]
    refine ⟨sn, hn2, fun s hs t ht he => ?_⟩
    subst he
    exact (hm2 s ht).1 (ss s hs).1
  · intro s hs
    rcases List.mem_append.1 (hpm'.mem_iff.1 hs) with h | h
    · exact (ss s h).2
    · exact Nat.lt_of_lt_of_le (hm2 s h).2 vl
  · intro c n e hc
    rcases cs c n e hc with h | h
    · obtain ⟨j, ids, od, h1, h2, h3, h4⟩ := S.clos c n e h
      exact ⟨j, ids, od, E.c _ _ h1, h2, h3.mono E.e E.r, h4⟩
    · exact h
  · intro t x1 y1 h1 h2
    by_cases ht : t = i.cur
    · subst ht
      rw [hi, List.getElem?_set_self S.curlt] at h1
      rw [ha, S.cur, List.getElem?_set_self hac] at h2
      cases h1; cases h2
      have hT := S.ths _ _ _ V.hx (by rw [S.cur]; exact V.hy)
      refine ⟨hT.st, hT.fn, by show x.depth = _; rw [V.dp]; simp, ?_, fun _ => by simp, fun h => ?_, fun h => ?_, hT.rg⟩
      · show FrL G Ps Fs i'.envs ρ' a'.vars a'.clos a'.tabs (f' :: fs) _ _ (if x.st = 4 then 0 else 2)
        rw [if_pos V.st]
        exact .cons F' (V.fl.ext E hE) (by rw [pf]; exact V.pr) V.p1 V.p0 nr
      · have h' : x.st = 1 ∨ x.st = 5 := h
        rw [V.st] at h'; omega
      · have h' : x.st = 1 := h
        rw [V.st] at h'; omega
    · rw [hi, List.getElem?_set_ne (fun h => ht h.symm)] at h1
      rw [ha, List.getElem?_set_ne (fun h => ht (by rw [S.cur, h]))] at h2
      refine (S.ths t x1 y1 h1 h2).ext E (fun g hg s hs => hm2 s (List.mem_append_right _ (mem_rst h2 (fun h => ht (by rw [S.cur, h])) hg hs)))
  · intro c hc
    rw [si] at hc
    have h1 := S.stk c hc
    have hne : c ≠ i.cur := by
      intro h
      rw [h] at h1
      have := S.curst
      omega
    rw [hi, List.getD_eq_getElem?_getD, List.getElem?_set_ne (fun h => hne h.symm), ← List.getD_eq_getElem?_getD]
    exact ⟨by simpa using h1.1, h1.2⟩
  · rw [ci, hi, List.getD_eq_getElem?_getD, List.getElem?_set_self S.curlt]
    exact V.st
end

end Go.Proofs.Qxb6500568aGreatDoor
