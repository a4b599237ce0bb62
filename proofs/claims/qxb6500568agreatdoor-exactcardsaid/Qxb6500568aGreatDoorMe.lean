import Derived.Test.Qxb6500568aGreatDoorMd
namespace Go.Proofs.Qxb6500568aGreatDoor
open Ieee
set_option linter.unusedVariables false
set_option linter.unusedSimpArgs false
set_option linter.unusedSectionVars false

/-! Every value that the interpreter holds is valid. -/

/-- valid, with c closures, t threads, h tables. -/
structure VV (c t h : Nat) (v : PV) : Prop where
  wf : wfV v = true
  w : W64 v.N
  f : v.T = 5 → v.N < c
  co : v.T = 7 → v.N < t
  tb : v.T = 4 → v.N < h
  nan : v.T = 2 → isNaNW v.N = true → v.N = nanB
theorem VV.mono {c t h c' t' h' : Nat} {v : PV} (H : VV c t h v) (h1 : c ≤ c') (h2 : t ≤ t') (h3 : h ≤ h') : VV c' t' h' v :=
  ⟨H.wf, H.w, fun q => Nat.lt_of_lt_of_le (H.f q) h1, fun q => Nat.lt_of_lt_of_le (H.co q) h2, fun q => Nat.lt_of_lt_of_le (H.tb q) h3, H.nan⟩
theorem VV.nil (c t h : Nat) : VV c t h vNil := ⟨by decide, by decide, (fun q => by cases q), (fun q => by cases q), (fun q => by cases q), (fun q => by cases q)⟩
theorem VV.bool (c t h : Nat) (b : Bool) : VV c t h (vBool b) := ⟨by cases b <;> decide, by cases b <;> decide, (fun q => by cases b <;> cases q), (fun q => by cases b <;> cases q), (fun q => by cases b <;> cases q), (fun q => by cases b <;> cases q)⟩
theorem VV.str (c t h : Nat) {s : Str} (hs : s.length ≤ 40) : VV c t h (vStr s) := ⟨by simp [wfV, vStr, hs], by simp [vStr], (fun q => by cases q), (fun q => by cases q), (fun q => by cases q), (fun q => by cases q)⟩
theorem VV.num (c t h : Nat) {n : Nat} (hn : W64 n) (hx : isNaNW n = true → n = nanB) : VV c t h (vNum n) := ⟨by simp [wfV, vNum], hn, (fun q => by cases q), (fun q => by cases q), (fun q => by cases q), fun _ => hx⟩
theorem VV.tab {c t h n : Nat} (hn : n < h) (h32 : n < 4294967296) : VV c t h (vTab n) := ⟨by simp [wfV, vTab, h32], by simp [vTab]; omega, (fun q => by cases q), (fun q => by cases q), fun _ => hn, (fun q => by cases q)⟩
theorem VV.fn {c t h n : Nat} (hn : n < c) (h32 : n < 4294967296) : VV c t h (vFun n) := ⟨by simp [wfV, vFun, h32], by simp [vFun]; omega, fun _ => hn, (fun q => by cases q), (fun q => by cases q), (fun q => by cases q)⟩
theorem VV.coV {c t h n : Nat} (hn : n < t) (h32 : n < 4294967296) : VV c t h (vCo n) := ⟨by simp [wfV, vCo, h32], by simp [vCo]; omega, (fun q => by cases q), fun _ => hn, (fun q => by cases q), (fun q => by cases q)⟩

structure IOK (i : IS) : Prop where
  env : ∀ z ∈ i.envs, VV i.clos.length i.ths.length i.tabs.length z.v
  val : ∀ t ∈ i.ths, ∀ v ∈ t.vals, VV i.clos.length i.ths.length i.tabs.length v
  tab : ∀ t ∈ i.tabs, TOK t ∧ ∀ q ∈ t, VV i.clos.length i.ths.length i.tabs.length q.1 ∧ VV i.clos.length i.ths.length i.tabs.length q.2
  nc : i.clos.length ≤ 24
  nt : i.ths.length ≤ 5
  nh : i.tabs.length ≤ 12

abbrev ok (i : IS) (v : PV) : Prop := VV i.clos.length i.ths.length i.tabs.length v

section
variable {s : IS} {v : PV}

theorem IOK.th (h : IOK s) : ∀ v ∈ s.th.vals, ok s v := by
  intro v hv
  unfold IS.th at hv
  rw [List.getD_eq_getElem?_getD] at hv
  cases hq : s.ths[s.cur]? with
  | none => rw [hq] at hv; cases hv
  | some t => rw [hq] at hv; exact h.val t (List.mem_of_getElem? hq) v hv
theorem IOK.top (h : IOK s) (k : Nat) : ok s (s.top k) := by
  unfold IS.top
  rw [List.getD_eq_getElem?_getD]
  cases hq : s.th.vals[k]? with
  | none => exact VV.nil _ _ _
  | some w => exact h.th w (List.mem_of_getElem? hq)
theorem ok_setT (t : ITh) : ok (s.setT t) v ↔ ok s v := by unfold ok IS.setT; simp
theorem IOK.setT (h : IOK s) {t : ITh} (ht : ∀ v ∈ t.vals, ok s v) : IOK (s.setT t) := by
  have hl : (s.setT t).ths.length = s.ths.length := by simp [IS.setT]
  refine ⟨fun z hz => (ok_setT t).2 (h.env z hz), fun u hu v hv => (ok_setT t).2 ?_, fun u hu => ⟨(h.tab u hu).1, fun q hq => ⟨(ok_setT t).2 ((h.tab u hu).2 q hq).1, (ok_setT t).2 ((h.tab u hu).2 q hq).2⟩⟩, h.nc, by rw [hl]; exact h.nt, h.nh⟩
  rcases List.mem_or_eq_of_mem_set hu with hu | rfl
  · exact h.val u hu v hv
  · exact ht v hv
theorem ok_push (u : PV) : ok (ipush u s) v ↔ ok s v := ok_setT _
theorem IOK.push (h : IOK s) (hv : ok s v) : IOK (ipush v s) := h.setT (fun w hw => by
  rcases List.mem_cons.1 hw with rfl | hw
  · exact hv
  · exact h.th w hw)
theorem IOK.push2 {u : PV} (h : IOK s) (hu : ok s u) (hv : ok s v) : IOK (ipush v (ipush u s)) := (h.push hu).push ((ok_push u).2 hv)
theorem IOK.doT (h : IOK s) (k n x e : Nat) : IOK (ido k n x e s) := h.setT h.th
theorem ok_do (k n x e : Nat) : ok (ido k n x e s) v ↔ ok s v := ok_setT _
theorem IOK.drop (h : IOK s) (k : Nat) : IOK (idrop k s) := h.setT (fun w hw => h.th w (List.mem_of_mem_drop hw))
theorem ok_drop (k : Nat) : ok (idrop k s) v ↔ ok s v := ok_setT _
theorem IOK.new (h : IOK s) {nm : Str} {up : Nat} (hv : ok s v) : IOK (inew nm v up s) := by
  refine ⟨fun z hz => ?_, h.val, h.tab, h.nc, h.nt, h.nh⟩
  rcases List.mem_append.1 hz with hz | hz
  · exact h.env z hz
  · rw [List.mem_singleton] at hz; subst hz; exact hv
theorem IOK.fin (h : IOK s) (e : Nat) (tl : Str) : IOK (ifin e tl s) := ⟨h.env, h.val, h.tab, h.nc, h.nt, h.nh⟩
theorem IOK.setE (h : IOK s) (k : Nat) (hv : ok s v) : IOK (setE k v s) := by
  refine ⟨fun z hz => ?_, h.val, h.tab, h.nc, h.nt, h.nh⟩
  obtain ⟨n, hn⟩ := List.mem_iff_getElem?.1 hz
  have hn' : (s.envs.modify (k - 1) fun x => { x with v := v })[n]? = some z := hn
  rw [List.getElem?_modify] at hn'
  cases hq : s.envs[n]? with
  | none => rw [hq] at hn'; simp at hn'
  | some w =>
    rw [hq] at hn'
    have hn' := Option.some.inj hn'
    split at hn'
    · rw [← hn']; exact hv
    · rw [← hn']; exact h.env w (List.mem_of_getElem? hq)
theorem IOK.cs (h : IOK s) (c : Nat) (r : List Nat) : IOK { s with cur := c, stack := r } := ⟨h.env, h.val, h.tab, h.nc, h.nt, h.nh⟩
theorem IOK.flds (h : IOK s) (a b : Nat) (o : Str) : IOK { s with fuel := a, first := b, out := o } := ⟨h.env, h.val, h.tab, h.nc, h.nt, h.nh⟩
theorem IOK.st (h : IOK s) (n : Nat) : IOK (s.setT { s.th with st := n }) := h.setT h.th
theorem IOK.var (h : IOK s) (e : Nat) : ok s (s.var e) := by
  unfold IS.var
  cases hq : s.envs[e - 1]? with
  | none => exact VV.nil _ _ _
  | some z => exact h.env z (List.mem_of_getElem? hq)
theorem IOK.back (h : IOK s) (b : Bool) (hv : ok s v) : IOK (iback b v s) := by
  unfold iback
  cases hs : s.stack with
  | nil => exact h.fin _ _
  | cons c r => exact ((h.cs c r).st 4).push2 (VV.bool _ _ _ _) ((ok_setT (s := { s with stack := r, cur := c }) _).2 hv)
theorem mem_cut {n : Nat} {l : List PV} (h : v ∈ cutTo n l) : v ∈ l := List.mem_of_mem_drop h
theorem IOK.throw (h : IOK s) (hv : ok s v) : IOK (ithrow v s) := by
  unfold ithrow
  split
  · refine h.setT (fun w hw => ?_)
    simp only [List.mem_cons] at hw
    rcases hw with rfl | rfl | hw
    · exact hv
    · exact VV.bool _ _ _ _
    · exact h.th w (mem_cut hw)
  · exact (h.setT (t := { s.th with tasks := [], depth := _, vals := [], st := 5 }) (fun w hw => by cases hw)).back false ((ok_setT _).2 hv)
theorem IOK.ret (h : IOK s) {u : PV} (hu : ok s u) (hv : ok s v) : IOK (iret u v s) := by
  unfold iret
  split
  · exact h.setT h.th
  · simp only
    split
    · exact (h.setT (t := { s.th with tasks := _, depth := s.th.depth - 1, vals := _, st := 5 }) (fun w hw => h.th w (mem_cut hw))).back true ((ok_setT _).2 hu)
    · split
      · refine h.setT (fun w hw => ?_)
        simp only [List.mem_cons] at hw
        rcases hw with rfl | rfl | hw
        · exact hu
        · exact VV.bool _ _ _ _
        · exact h.th w (mem_cut hw)
      · refine h.setT (fun w hw => ?_)
        simp only [List.mem_cons] at hw
        rcases hw with rfl | rfl | hw
        · exact hv
        · exact hu
        · exact h.th w (mem_cut hw)
theorem IOK.bindP {G : Arena} : ∀ {f p : Nat} {zs : List PV} {e : Nat} {s : IS}, IOK s → (∀ v ∈ zs, ok s v) → IOK (bindP G f p zs e s).2
  | 0, p, zs, e, s, h, hz => h
  | f + 1, p, zs, e, s, h, hz => by
    unfold Go.Proofs.Qxb6500568aGreatDoor.bindP
    split
    · exact h
    · have hv : ok s (zs.headD vNil) := by cases zs with | nil => exact VV.nil _ _ _ | cons a l => exact hz a (by simp)
      exact IOK.bindP (h.new hv) (fun v hv => hz v (List.mem_of_mem_tail hv))
theorem IOK.enter (h : IOK s) {G : Arena} {root c p : Nat} {zs : List PV} (hz : ∀ v ∈ zs, ok s v) : IOK (ienter G root c zs p s) := by
  unfold ienter
  exact IOK.doT (IOK.bindP (h.setT (t := { s.th with depth := s.th.depth + 1, tasks := ⟨3, p, s.th.vals.length, 0⟩ :: s.th.tasks }) h.th) (fun v hv => (ok_setT _).2 (hz v hv))) _ _ _ _
theorem IOK.call (h : IOK s) {G : Arena} {n e : Nat} : IOK (icall G n e s) := by
  unfold icall
  refine IOK.doT ?_ _ _ _ _
  generalize iargs G 3 (nd G n).B = l
  have : ∀ (l : List Nat) (s : IS), IOK s → IOK (l.foldr (fun a s => ido 2 a 0 e s) s) := by
    intro l
    induction l with
    | nil => exact fun s h => h
    | cons a l ih => exact fun s h => (ih s h).doT _ _ _ _
  exact this _ _ (h.doT _ _ _ _)
end

end Go.Proofs.Qxb6500568aGreatDoor
