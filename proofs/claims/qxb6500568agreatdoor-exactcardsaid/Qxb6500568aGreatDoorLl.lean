import Derived.Test.Qxb6500568aGreatDoorLk
namespace Go.Proofs.Qxb6500568aGreatDoor
open Ieee
set_option linter.unusedVariables false
set_option linter.unusedSimpArgs false
set_option linter.unusedSectionVars false

/-! Frames that turn: variables written, variables new, slots made new; the silent steps. -/

section
variable {G : Arena} {root : Nat} {Ps : List Proto} {Fs : Nat → FI} {i : IS} {a : AS} {ρ : List Nat} {x : ITh} {y : ATh} {f : AFr} {fs : List AFr} {seg ts : List Tk} {vs vals : List PV} {p j : Nat} {ids : List Nat} {od : List (Str × Nat)} {L : List Str} {hid : List Nat} {lc : List (Nat × Nat)} {fl : List (Nat × Nat)}

/-- the values of hidden slots. -/
def hvs (vars : List PV) (sl : List Nat) (hid : List Nat) : List PV := hid.map fun s => vars.getD (sl.getD s 0) vNil

theorem Hd.gen (H : Hd G root Ps Fs i a ρ x y f fs seg ts vs vals p j ids od L hid fl) {es' : List Env} {ρ' : List Nat} {vars' : List PV} {f' : AFr} {seg' : List Tk} {vs' : List PV} {L' : List Str} {hid' : List Nat} {lc' : List (Nat × Nat)} {fl' : List (Nat × Nat)}
    (hcl : f'.clo = f.clo) (pf : f'.prot = f.prot) (E : Ext i.envs ρ a.vars a.clos a.tabs es' ρ' vars' a.clos a.tabs (fun s => s ∈ f.slots ∨ a.vars.length ≤ s)) (sn : f'.slots.Nodup) (ss : ∀ s ∈ f'.slots, (s ∈ f.slots ∨ a.vars.length ≤ s) ∧ s < vars'.length)
    (vl : a.vars.length ≤ vars'.length) (rl : ρ'.length = es'.length) (rn : ρ'.Nodup) (rv : ∀ (k : Nat) x, es'[k]? = some x → vars'.getD (ρ'.getD k 0) vNil = x.v ∧ ρ'.getD k 0 < vars'.length)
    (hK : K G Ps Fs (Bd es' ρ') f'.slots od vals.length j false f'.pc seg' f'.ops.length L' hid' lc' fl') (hD : FrD Ps vars' a.tabs ρ' f'.slots j L' hid' fl' f'.ops vs') (ho : f'.ops.length ≤ 128) (nr : ∀ t ∈ seg', t.k ≠ 3) :
    Hd G root Ps Fs { mkI i x (seg' ++ ⟨3, p, vals.length, 0⟩ :: ts) (vs' ++ vals) with envs := es' } (mkA a y fs f' vars') ρ'
      { x with tasks := seg' ++ ⟨3, p, vals.length, 0⟩ :: ts, vals := vs' ++ vals } { y with frs := f' :: fs } f' fs seg' ts vs' vals p j ids od L' hid' fl' := by
  have hk' : a.clos[f'.clo]? = some (j, ids) := by rw [hcl]; exact H.hk
  obtain ⟨S', V'⟩ := H.S.upd (i' := { mkI i x (seg' ++ ⟨3, p, vals.length, 0⟩ :: ts) (vs' ++ vals) with envs := es' }) (a' := mkA a y fs f' vars') (ρ' := ρ') (f' := f')
    H.V rfl rfl rfl rfl rfl rfl H.S.fuel H.S.first H.S.out H.S.tabs H.S.di H.S.da E ⟨j, ids, od, L', hid', lc', fl', hk', H.U, hK, hD, ho⟩ pf sn ss vl rl rn rv H.S.clen (fun c n e h => .inl h) nr
  exact ⟨S', V', hk', H.U, hD, ho⟩

theorem Hd.rho_lt (H : Hd G root Ps Fs i a ρ x y f fs seg ts vs vals p j ids od L hid fl) {r : Nat} (h : r ∈ ρ) : r < a.vars.length := by
  obtain ⟨k, hk, he⟩ := List.mem_iff_getElem.1 h
  have hk' : k < i.envs.length := by rw [← H.S.rlen]; exact hk
  have := (H.S.rval k _ (List.getElem?_eq_getElem hk')).2
  rw [List.getD_eq_getElem?_getD, List.getElem?_eq_getElem hk] at this
  simpa [he] using this
theorem rho_mem {n : Nat} (h : n < ρ.length) : ρ.getD n 0 ∈ ρ := getD_mem h

/-- own hidden slots are written. -/
theorem Hd.wr (H : Hd G root Ps Fs i a ρ x y f fs seg ts vs vals p j ids od L hid fl) {vars' ops' : List PV} {pc' : Nat} {seg' : List Tk} {L' : List Str} {hid' : List Nat} {lc' : List (Nat × Nat)} {fl' : List (Nat × Nat)}
    (hvl : vars'.length = a.vars.length) (hvo : ∀ s, (s ∉ f.slots ∨ s ∈ ρ) → vars'.getD s vNil = a.vars.getD s vNil)
    (hK : K G Ps Fs (Bd i.envs ρ) f.slots od vals.length j false pc' seg' ops'.length L' hid' lc' fl') (hD : FrD Ps vars' a.tabs ρ f.slots j L' hid' fl' ops' (ops' ++ hvs vars' f.slots hid')) (ho : ops'.length ≤ 128) (nr : ∀ t ∈ seg', t.k ≠ 3) :
    Hd G root Ps Fs (mkI i x (seg' ++ ⟨3, p, vals.length, 0⟩ :: ts) ((ops' ++ hvs vars' f.slots hid') ++ vals)) (mkA a y fs { f with ops := ops', pc := pc' } vars') ρ
      { x with tasks := seg' ++ ⟨3, p, vals.length, 0⟩ :: ts, vals := (ops' ++ hvs vars' f.slots hid') ++ vals } { y with frs := { f with ops := ops', pc := pc' } :: fs } { f with ops := ops', pc := pc' } fs seg' ts (ops' ++ hvs vars' f.slots hid') vals p j ids od L' hid' fl' := by
  refine H.gen (es' := i.envs) (ρ' := ρ) (vars' := vars') (f' := { f with ops := ops', pc := pc' }) rfl rfl ⟨EnvExt.refl _, fun _ _ => rfl, fun _ h => .inl h, fun s h1 h2 h3 => hvo s (.inl fun h => h3 (.inl h)), fun _ _ h => h, TabExt.refl _⟩
    H.snd (fun s hs => ⟨.inl hs, by rw [hvl]; exact H.slt s hs⟩) (by rw [hvl]; exact Nat.le_refl _) H.S.rlen H.S.rnd (fun k x hx => ?_) hK hD ho nr
  have := H.S.rval k x hx
  have hk : k < ρ.length := by rw [H.S.rlen]; exact (List.getElem?_eq_some_iff.1 hx).1
  rw [hvo _ (.inr (rho_mem hk)), hvl]
  exact this

theorem xeta (H : Hd G root Ps Fs i a ρ x y f fs seg ts vs vals p j ids od L hid fl) : ({ x with tasks := seg ++ ⟨3, p, vals.length, 0⟩ :: ts, vals := vs ++ vals } : ITh) = x := by rw [← H.V.ht, ← H.V.hv]

/-- a slot's variable that no name means. -/
theorem Hd.free (H : Hd G root Ps Fs i a ρ x y f fs seg ts vs vals p j ids od L hid fl) {n : Nat} (hn : n < f.slots.length) (h : ∀ nm, L[n]? = some nm → nm = []) : f.slots.getD n 0 ∉ ρ := fun hr => by
  obtain ⟨nm, h1, h2⟩ := H.D.r n hn hr
  exact h2 (h nm h1)
theorem slot_inj {sl : List Nat} (h : sl.Nodup) {s t : Nat} (hs : s < sl.length) (ht : t < sl.length) (he : sl.getD s 0 = sl.getD t 0) : s = t := by
  rw [List.getD_eq_getElem?_getD, List.getD_eq_getElem?_getD, List.getElem?_eq_getElem hs, List.getElem?_eq_getElem ht] at he
  exact (List.getElem_inj h).1 (by simpa using he)
theorem getD_set_self {vars : List PV} {n : Nat} (h : n < vars.length) (v : PV) : (vars.set n v).getD n vNil = v := by simp [List.getD_eq_getElem?_getD, h]
theorem getD_set_ne {vars : List PV} {n m : Nat} (h : n ≠ m) (v : PV) : (vars.set n v).getD m vNil = vars.getD m vNil := by simp [List.getD_eq_getElem?_getD, List.getElem?_set_ne h]

/-- hidden slots other than n keep their values when slot n is written. -/
theorem Hd.hvs_set (H : Hd G root Ps Fs i a ρ x y f fs seg ts vs vals p j ids od L hid fl) {n : Nat} {v : PV} {h2 : List Nat} (hn : n < f.slots.length) (hh : ∀ s ∈ h2, s < f.slots.length ∧ s ≠ n) : hvs (a.vars.set (f.slots.getD n 0) v) f.slots h2 = hvs a.vars f.slots h2 := by
  unfold hvs
  apply List.map_congr_left
  intro s hs
  exact getD_set_ne (fun he => (hh s hs).2 (slot_inj H.snd (hh s hs).1 hn he.symm)) v

theorem FlD.set {vars ops : List PV} {tabs : List Tb} {sl : List Nat} {q : Nat × Nat} {n : Nat} {v : PV} (h : FlD vars tabs sl ops q) (hq : q.2 ≤ 2) (hv : ∀ k, k < hk q.2 → sl.getD n 0 ≠ sl.getD (q.1 + k) 0) : FlD (vars.set (sl.getD n 0) v) tabs sl ops q := by
  obtain ⟨m, b⟩ := q
  have hb : b = 1 ∨ b = 2 ∨ b = 0 := by simp only at hq; omega
  unfold FlD at h ⊢
  rcases hb with rfl | rfl | rfl
  · simp only [if_true, hk] at h hv ⊢
    intro k hk'
    rw [getD_set_ne (hv k hk')]
    exact h k hk'
  · exact h
  · have h0 := hv 0 (by simp [hk])
    have h1 := hv 1 (by simp [hk])
    rw [Nat.add_zero] at h0
    rw [if_neg (by simp), if_neg (by simp)] at h ⊢
    rw [getD_set_ne h0, getD_set_ne h1]
    exact h

/-- the top operand goes into the first free slot, hidden. -/
theorem Hd.stash (H : Hd G root Ps Fs i a ρ x y f fs seg ts vs vals p j ids od L hid fl) {v : PV} (ho : f.ops = [v]) (hh : HidOK L hid fl) (hn : L.length < (pr Ps j).ns) {pc' : Nat} {lc' : List (Nat × Nat)}
    (hK : K G Ps Fs (Bd i.envs ρ) f.slots od vals.length j false pc' seg 0 (L ++ [[]]) (L.length :: hid) lc' fl) :
    Hd G root Ps Fs i (mkA a y fs { f with ops := [], pc := pc' } (a.vars.set (f.slots.getD L.length 0) v)) ρ x { y with frs := { f with ops := [], pc := pc' } :: fs } { f with ops := [], pc := pc' } fs seg ts vs vals p j ids od (L ++ [[]]) (L.length :: hid) fl := by
  have hn' : L.length < f.slots.length := by rw [H.D.n]; exact hn
  have hfree := H.free hn' (fun nm h => by rw [List.getElem?_eq_none (Nat.le_refl _)] at h; cases h)
  have hlt : ∀ {s : Nat}, L[s]? = some [] → s < f.slots.length ∧ s ≠ L.length := fun {s} h => by have := (List.getElem?_eq_some_iff.1 h).1; omega
  have hself : (a.vars.set (f.slots.getD L.length 0) v).getD (f.slots.getD L.length 0) vNil = v := getD_set_self (H.slt _ (getD_mem hn')) v
  have hvs' : hvs (a.vars.set (f.slots.getD L.length 0) v) f.slots (L.length :: hid) = v :: hvs a.vars f.slots hid := by
    have e0 : hvs (a.vars.set (f.slots.getD L.length 0) v) f.slots (L.length :: hid) = (a.vars.set (f.slots.getD L.length 0) v).getD (f.slots.getD L.length 0) vNil :: hvs (a.vars.set (f.slots.getD L.length 0) v) f.slots hid := rfl
    rw [e0, hself, H.hvs_set hn' (fun s hs => hlt (hh.1 s hs))]
  have hvv : vs = [] ++ hvs (a.vars.set (f.slots.getD L.length 0) v) f.slots (L.length :: hid) := by rw [hvs', H.D.v, ho]; rfl
  have hD : FrD Ps (a.vars.set (f.slots.getD L.length 0) v) a.tabs ρ f.slots j (L ++ [[]]) (L.length :: hid) fl [] ([] ++ hvs (a.vars.set (f.slots.getD L.length 0) v) f.slots (L.length :: hid)) := by
    refine ⟨rfl, fun q hq => ?_, H.D.n, by simp; omega, fun s hs hr => ?_⟩
    · exact ⟨((H.D.f q hq).1.ops (ops' := []) (fun h2 => absurd (hK.oplt q hq h2) (by omega))).set (H.D.f q hq).2 (fun k hk he => (hlt (hh.2 q hq k hk)).2 (slot_inj H.snd (hlt (hh.2 q hq k hk)).1 hn' he.symm)), (H.D.f q hq).2⟩
    · obtain ⟨nm, h1, h2⟩ := H.D.r s hs hr
      exact ⟨nm, by rw [List.getElem?_append_left (List.getElem?_eq_some_iff.1 h1).1]; exact h1, h2⟩
  have h := H.wr (vars' := a.vars.set (f.slots.getD L.length 0) v) (ops' := []) (pc' := pc') (seg' := seg) (by simp) (fun s hs => getD_set_ne (fun he => by subst he; rcases hs with hs | hs; exact hs (getD_mem hn'); exact hfree hs) v) hK hD (by simp) H.V.nr
  rw [← hvv, xeta H, H.ii] at h
  exact h

theorem range_nodup (b n : Nat) : ((List.range n).map (b + ·)).Nodup := by
  rw [List.nodup_iff_pairwise_ne, List.pairwise_map]
  exact List.nodup_range.imp (fun h => by omega)
theorem new_get {sl : List Nat} {n b : Nat} (hn : n ≤ sl.length) {s : Nat} : (sl.take n ++ (List.range (sl.length - n)).map (b + ·)).getD s 0 = if s < n then sl.getD s 0 else if s < sl.length then b + (s - n) else 0 := by
  simp only [List.getD_eq_getElem?_getD]
  by_cases h : s < n
  · rw [if_pos h, List.getElem?_append_left (by simp; omega), List.getElem?_take_of_lt h]
  · rw [if_neg h, List.getElem?_append_right (by simp; omega)]
    simp only [List.length_take, Nat.min_eq_left hn]
    by_cases h2 : s < sl.length
    · rw [if_pos h2, List.getElem?_map, List.getElem?_range (by omega)]; rfl
    · rw [if_neg h2, List.getElem?_eq_none (by simp; omega)]; rfl

/-- the slots from n on go on as new variables. -/
theorem Hd.close (H : Hd G root Ps Fs i a ρ x y f fs seg ts vs vals p j ids od L hid fl) {n : Nat} (ho : f.ops = []) (hn : n ≤ (pr Ps j).ns) {pc' : Nat} {seg' : List Tk} {hid' : List Nat} {fl' : List (Nat × Nat)} {lc' : List (Nat × Nat)} (hfl : fl' <:+ fl)
    (hK : K G Ps Fs (Bd i.envs ρ) f.slots od vals.length j false pc' seg' 0 (L.take n) hid' lc' fl') (nr : ∀ t ∈ seg', t.k ≠ 3) :
    Hd G root Ps Fs (mkI i x (seg' ++ ⟨3, p, vals.length, 0⟩ :: ts) (hvs a.vars f.slots hid' ++ vals)) (mkA a y fs { f with slots := f.slots.take n ++ (List.range (f.slots.length - n)).map (a.vars.length + ·), pc := pc' } (a.vars ++ (f.slots.drop n).map fun s => a.vars.getD s vNil)) ρ
      { x with tasks := seg' ++ ⟨3, p, vals.length, 0⟩ :: ts, vals := hvs a.vars f.slots hid' ++ vals } { y with frs := { f with slots := f.slots.take n ++ (List.range (f.slots.length - n)).map (a.vars.length + ·), pc := pc' } :: fs } { f with slots := f.slots.take n ++ (List.range (f.slots.length - n)).map (a.vars.length + ·), pc := pc' } fs seg' ts (hvs a.vars f.slots hid') vals p j ids od (L.take n) hid' fl' := by
  have hn' : n ≤ f.slots.length := by rw [H.D.n]; exact hn
  have hv0 : ∀ {s : Nat}, s < a.vars.length → (a.vars ++ (f.slots.drop n).map fun s => a.vars.getD s vNil).getD s vNil = a.vars.getD s vNil := fun {s} hs => by simp only [List.getD_eq_getElem?_getD]; rw [List.getElem?_append_left hs]
  have hsl : ∀ {s : Nat}, (L.take n)[s]? = some [] → s < n ∧ s < f.slots.length := fun {s} h => by
    have := (List.getElem?_eq_some_iff.1 h).1
    have h2 := H.D.l
    rw [← H.D.n] at h2
    simp at this; omega
  have hh := hK.hidden
  have hgn : ∀ {s : Nat}, s < n → (f.slots.take n ++ (List.range (f.slots.length - n)).map (a.vars.length + ·)).getD s 0 = f.slots.getD s 0 := fun {s} hs => by rw [new_get hn', if_pos hs]
  have hval : ∀ {s : Nat}, (L.take n)[s]? = some [] → (a.vars ++ (f.slots.drop n).map fun s => a.vars.getD s vNil).getD ((f.slots.take n ++ (List.range (f.slots.length - n)).map (a.vars.length + ·)).getD s 0) vNil = a.vars.getD (f.slots.getD s 0) vNil := fun {s} hs => by
    rw [hgn (hsl hs).1, hv0 (H.slt _ (getD_mem (hsl hs).2))]
  have hvs' : hvs (a.vars ++ (f.slots.drop n).map fun s => a.vars.getD s vNil) (f.slots.take n ++ (List.range (f.slots.length - n)).map (a.vars.length + ·)) hid' = hvs a.vars f.slots hid' := by
    unfold hvs
    apply List.map_congr_left
    intro s hs
    exact hval (hh.1 s hs)
  have hlen : (f.slots.take n ++ (List.range (f.slots.length - n)).map (a.vars.length + ·)).length = f.slots.length := by simp; omega
  have hnew : ∀ s ∈ f.slots.take n ++ (List.range (f.slots.length - n)).map (a.vars.length + ·), (s ∈ f.slots ∨ a.vars.length ≤ s) ∧ s < (a.vars ++ (f.slots.drop n).map fun s => a.vars.getD s vNil).length := by
    intro s hs
    rcases List.mem_append.1 hs with h | h
    · have hm := List.mem_of_mem_take h
      have h2 := H.slt s hm
      exact ⟨.inl hm, by simp; omega⟩
    · obtain ⟨k, hk, rfl⟩ := List.mem_map.1 h
      have := List.mem_range.1 hk
      exact ⟨.inr (by omega), by simp; omega⟩
  have h := H.gen (es' := i.envs) (ρ' := ρ) (vars' := a.vars ++ (f.slots.drop n).map fun s => a.vars.getD s vNil) (f' := { f with slots := f.slots.take n ++ (List.range (f.slots.length - n)).map (a.vars.length + ·), pc := pc' }) (seg' := seg') (vs' := hvs a.vars f.slots hid') (L' := L.take n) (hid' := hid') (lc' := lc') (fl' := fl') rfl rfl
    ⟨EnvExt.refl _, fun _ _ => rfl, fun _ h => .inl h, fun s h1 h2 h3 => hv0 h1, fun _ _ h => h, TabExt.refl _⟩
    (by
      rw [List.nodup_append]
      refine ⟨(List.take_sublist n f.slots).nodup H.snd, range_nodup _ _, fun s hs t ht he => ?_⟩
      obtain ⟨k, hk, rfl⟩ := List.mem_map.1 ht
      have := H.slt s (List.mem_of_mem_take hs)
      omega) hnew (by simp) H.S.rlen H.S.rnd
    (fun k x hx => by
      have := H.S.rval k x hx
      rw [hv0 this.2]
      exact ⟨this.1, by rw [List.length_append]; omega⟩)
    (by
      rw [show ({ f with slots := f.slots.take n ++ (List.range (f.slots.length - n)).map (a.vars.length + ·), pc := pc' } : AFr).ops.length = 0 by rw [ho]; rfl]
      exact hK.mono (fun _ _ h => h) (fun s nm h1 h2 => by
        have := (List.getElem?_eq_some_iff.1 h1).1
        rw [hgn (by simp at this; omega)]))
    (by
      refine ⟨(by show _ = f.ops ++ _; rw [ho]; exact hvs'.symm), fun q hq => ?_, by rw [hlen]; exact H.D.n, by have := H.D.l; simp; omega, fun s hs hr => ?_⟩
      · have hq0 := H.D.f q (hfl.subset hq)
        have hk2 := hh.2 q hq
        refine ⟨?_, hq0.2⟩
        obtain ⟨m, b⟩ := q
        have hb : b = 1 ∨ b = 2 ∨ b = 0 := by have := hq0.2; simp only at this; omega
        have hq1 := hq0.1
        unfold FlD at hq1 ⊢
        rcases hb with rfl | rfl | rfl
        · simp only [if_true, Go.Proofs.Qxb6500568aGreatDoor.hk] at hq1 hk2 ⊢
          intro k hk'
          rw [hval (hk2 k hk')]; exact hq1 k hk'
        · exact hq1
        · have h0 := hval (hk2 0 (show 0 < Go.Proofs.Qxb6500568aGreatDoor.hk 0 by decide))
          have h1 := hval (hk2 1 (show 1 < Go.Proofs.Qxb6500568aGreatDoor.hk 0 by decide))
          simp only [Nat.add_zero] at h0 h1
          rw [if_neg (by simp), if_neg (by simp)] at hq1 ⊢
          rw [h0, h1]; exact hq1
      · simp only at hs hr ⊢
        rw [new_get hn'] at hr
        by_cases hsn : s < n
        · rw [if_pos hsn] at hr
          obtain ⟨nm, h1, h2⟩ := H.D.r s (by omega) hr
          exact ⟨nm, by rw [List.getElem?_take_of_lt hsn]; exact h1, h2⟩
        · rw [if_neg hsn, if_pos (by omega)] at hr
          have := H.rho_lt hr
          omega)
    (by show f.ops.length ≤ 128; exact H.o) nr
  exact h
end

end Go.Proofs.Qxb6500568aGreatDoor
