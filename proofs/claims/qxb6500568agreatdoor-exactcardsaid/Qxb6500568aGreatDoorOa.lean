import Derived.Test.Qxb6500568aGreatDoorNq
namespace Go.Proofs.Qxb6500568aGreatDoor
open Ieee
set_option linter.unusedVariables false
set_option linter.unusedSimpArgs false
set_option linter.unusedSectionVars false

/-! All values of the variable machine are valid. -/

def aok (a : AS) (v : PV) : Prop := VV a.clos.length a.ths.length a.tabs.length v
structure AV (a : AS) : Prop where
  var : ∀ v ∈ a.vars, aok a v
  ops : ∀ t ∈ a.ths, ∀ f ∈ t.frs, ∀ v ∈ f.ops, aok a v
  tab : ∀ t ∈ a.tabs, TOK t ∧ ∀ q ∈ t, aok a q.1 ∧ aok a q.2
  nc : a.clos.length ≤ 24
  nt : a.ths.length ≤ 5
  nh : a.tabs.length ≤ 12
  out : a.out.length ≤ 200
def PK (Ps : List Proto) : Prop := ∀ p ∈ Ps, ∀ v ∈ p.ks, KOK v
theorem KOK.vv {v : PV} (h : KOK v) (c t n : Nat) : VV c t n v := by
  rcases h with ⟨n, rfl, h1, h2⟩ | ⟨s, rfl, h1⟩
  · exact .num _ _ _ h1 h2
  · exact .str _ _ _ h1

section
variable {Ps : List Proto} {a : AS} {v : PV}

theorem aok.nil : aok a vNil := VV.nil _ _ _
theorem AV.thM (h : AV a) : ∀ f ∈ a.th.frs, ∀ v ∈ f.ops, aok a v := by
  unfold AS.th
  rw [List.getD_eq_getElem?_getD]
  rcases hq : a.ths[a.cur]? with _ | t
  · intro f hf; cases hf
  · exact h.ops t (List.mem_of_getElem? hq)
theorem AV.frM (h : AV a) : ∀ v ∈ a.fr.ops, aok a v := by
  unfold AS.fr
  rcases hq : a.th.frs with _ | ⟨f, r⟩
  · intro v hv; cases hv
  · exact h.thM f (by rw [hq]; exact List.mem_cons_self)
theorem getD_ok {l : List PV} {P : PV → Prop} (h : ∀ v ∈ l, P v) (h0 : P vNil) (n : Nat) : P (l.getD n vNil) := by
  rw [List.getD_eq_getElem?_getD]
  rcases hq : l[n]? with _ | x
  · exact h0
  · exact h x (List.mem_of_getElem? hq)
theorem AV.opD (h : AV a) (n : Nat) : aok a (a.fr.ops.getD n vNil) := getD_ok h.frM .nil n
theorem AV.varD (h : AV a) (n : Nat) : aok a (a.var n) := getD_ok h.var .nil n
theorem aok_setT (t : ATh) : aok (a.setT t) v ↔ aok a v := by unfold aok AS.setT; simp
theorem AV.setT (h : AV a) {t : ATh} (ht : ∀ f ∈ t.frs, ∀ v ∈ f.ops, aok a v) : AV (a.setT t) := by
  refine ⟨fun v hv => (aok_setT t).2 (h.var v hv), fun u hu f hf v hv => (aok_setT t).2 ?_, fun u hu => ?_, h.nc, ?_, h.nh, h.out⟩
  · rcases List.mem_or_eq_of_mem_set hu with hu | rfl
    · exact h.ops u hu f hf v hv
    · exact ht f hf v hv
  · exact ⟨(h.tab u hu).1, fun q hq => ⟨(aok_setT t).2 ((h.tab u hu).2 q hq).1, (aok_setT t).2 ((h.tab u hu).2 q hq).2⟩⟩
  · show (a.ths.set a.cur t).length ≤ 5; rw [List.length_set]; exact h.nt
theorem AV.setF (h : AV a) {f : AFr} (hf : ∀ v ∈ f.ops, aok a v) : AV (a.setF f) := h.setT fun g hg v hv => by
  rcases List.mem_cons.1 hg with rfl | hg
  · exact hf v hv
  · exact h.thM g (List.mem_of_mem_tail hg) v hv
theorem aok_setF (f : AFr) : aok (a.setF f) v ↔ aok a v := aok_setT _
theorem AV.ops' (h : AV a) {l : List PV} (hl : ∀ v ∈ l, aok a v) : AV (aops l a) := h.setF hl
theorem aok_ops (l : List PV) : aok (aops l a) v ↔ aok a v := aok_setT _
theorem AV.pc (h : AV a) (x : Nat) : AV (apc x a) := h.setF h.frM
theorem AV.fin (h : AV a) (e : Nat) (tl : Str) : AV (afin e tl a) := ⟨h.var, h.ops, h.tab, h.nc, h.nt, h.nh, h.out⟩
theorem AV.cs (h : AV a) (c : Nat) (r : List Nat) : AV { a with cur := c, stack := r } := ⟨h.var, h.ops, h.tab, h.nc, h.nt, h.nh, h.out⟩
theorem AV.fuel (h : AV a) (c : Nat) : AV { a with fuel := c } := ⟨h.var, h.ops, h.tab, h.nc, h.nt, h.nh, h.out⟩
theorem AV.first (h : AV a) (c : Nat) : AV { a with first := c } := ⟨h.var, h.ops, h.tab, h.nc, h.nt, h.nh, h.out⟩
theorem AV.outp (h : AV a) {o : Str} (ho : o.length ≤ 200) : AV { a with out := o } := ⟨h.var, h.ops, h.tab, h.nc, h.nt, h.nh, ho⟩
theorem AV.st (h : AV a) (n : Nat) : AV (a.setT { a.th with st := n }) := h.setT h.thM
theorem AV.push2 (h : AV a) {u : PV} (hu : aok a u) (hv : aok a v) : AV (apush2 u v a) := by
  unfold apush2
  refine h.setT ?_
  rcases hq : a.th.frs with _ | ⟨f, r⟩
  · intro g hg; cases hg
  · intro g hg w hw
    rcases List.mem_cons.1 hg with rfl | hg
    · rcases List.mem_cons.1 hw with rfl | hw
      · exact hv
      · rcases List.mem_cons.1 hw with rfl | hw
        · exact hu
        · exact h.thM f (by rw [hq]; exact List.mem_cons_self) w hw
    · exact h.thM g (by rw [hq]; exact List.mem_cons_of_mem _ hg) w hw
theorem AV.set (h : AV a) (i : Nat) (hv : aok a v) : AV (aset i v a) := by
  refine ⟨fun w hw => ?_, h.ops, h.tab, h.nc, h.nt, h.nh, h.out⟩
  rcases List.mem_or_eq_of_mem_set hw with hw | rfl
  · exact h.var w hw
  · exact hv
theorem AV.back (h : AV a) (b : Bool) (hv : aok a v) : AV (aback b v a) := by
  unfold aback
  rcases a.stack with _ | ⟨c, r⟩
  · exact h.fin _ _
  · exact ((h.cs c r).st 4).push2 ((aok_setT _).2 (.bool _ _ _ _)) ((aok_setT _).2 hv)
theorem unwL_mem : ∀ {l r : List AFr}, unwL l = some r → ∀ f ∈ r, f ∈ l
  | [], r, h, f, hf => by simp [unwL] at h
  | g :: l, r, h, f, hf => by
    unfold unwL at h
    by_cases hp : g.prot = true ∧ l ≠ []
    · rw [if_pos hp] at h; injection h with h; subst h; exact List.mem_cons_of_mem _ hf
    · rw [if_neg hp] at h; exact List.mem_cons_of_mem _ (unwL_mem h f hf)
theorem AV.throw (h : AV a) (hv : aok a v) : AV (athrow v a) := by
  unfold athrow
  rcases hq : unwL a.th.frs with _ | r
  · exact (h.setT (t := { a.th with frs := [], st := 5 }) (fun f hf => by cases hf)).back _ ((aok_setT _).2 hv)
  · exact (h.setT (t := { a.th with frs := r }) (fun f hf => h.thM f (unwL_mem hq f hf))).push2 ((aok_setT _).2 (.bool _ _ _ _)) ((aok_setT _).2 hv)
theorem AV.raise (h : AV a) {m : Str} (hm : m.length ≤ 40) : AV (araise m a) := h.throw (.str _ _ _ hm)
theorem AV.ret (h : AV a) {u : PV} (hu : aok a u) (hv : aok a v) : AV (aret u v a) := by
  unfold aret
  rcases hq : a.th.frs with _ | ⟨f, r⟩
  · exact h
  · have hr : ∀ g ∈ r, ∀ v ∈ g.ops, aok a v := fun g hg => h.thM g (by rw [hq]; exact List.mem_cons_of_mem _ hg)
    show AV (if r = [] then _ else if f.prot = true then _ else _)
    split
    · exact (h.setT (t := { a.th with frs := [], st := 5 }) (fun f hf => by cases hf)).back _ ((aok_setT _).2 hu)
    · split
      · exact (h.setT (t := { a.th with frs := r }) hr).push2 ((aok_setT _).2 (.bool _ _ _ _)) ((aok_setT _).2 hu)
      · exact (h.setT (t := { a.th with frs := r }) hr).push2 ((aok_setT _).2 hu) ((aok_setT _).2 hv)
theorem AV.new (h : AV a) {vs : List PV} (hv : ∀ v ∈ vs, aok a v) : AV (anew vs a).2 := by
  refine ⟨fun w hw => ?_, h.ops, h.tab, h.nc, h.nt, h.nh, h.out⟩
  rcases List.mem_append.1 hw with hw | hw
  · exact h.var w hw
  · exact hv w hw
theorem padTo_ok {P : PV → Prop} {n : Nat} {l : List PV} (h : ∀ v ∈ l, P v) (h0 : P vNil) : ∀ v ∈ padTo n l, P v := fun v hv => by
  obtain ⟨i, -, rfl⟩ := List.mem_map.1 hv
  exact getD_ok h h0 i
theorem AV.enter (h : AV a) {c : Nat} {zs : List PV} {b : Bool} (hz : ∀ v ∈ zs, aok a v) : AV (aenter Ps c zs b a) := by
  unfold aenter
  have hn : AV (anew (padTo (Ps.getD (a.clos.getD c (0, [])).1 Proto.zero).ns (zs.take (Ps.getD (a.clos.getD c (0, [])).1 Proto.zero).np)) a).2 := h.new (padTo_ok (fun v hv => hz v (List.mem_of_mem_take hv)) .nil)
  refine hn.setT fun f hf v hv => ?_
  rcases List.mem_cons.1 hf with rfl | hf
  · cases hv
  · exact hn.thM f hf v hv
theorem AV.close (h : AV a) (x : Nat) : AV (aclose x a) := by
  unfold aclose
  have hn : AV (anew ((a.fr.slots.drop x).map a.var) a).2 := h.new (fun v hv => by
    obtain ⟨i, -, rfl⟩ := List.mem_map.1 hv
    exact h.varD i)
  exact hn.setF (fun v hv => hn.frM v hv)
theorem AV.ite {c : Prop} [Decidable c] {x y : AS} (hx : c → AV x) (hy : ¬ c → AV y) : AV (if c then x else y) := by
  by_cases h : c
  · rw [if_pos h]; exact hx h
  · rw [if_neg h]; exact hy h
theorem AV.tabD (h : AV a) (n : Nat) : TOK (a.tabs.getD n []) ∧ ∀ q ∈ a.tabs.getD n [], aok a q.1 ∧ aok a q.2 := by
  rw [List.getD_eq_getElem?_getD]
  rcases hq : a.tabs[n]? with _ | t
  · exact ⟨TOK.nil, fun q hq => by cases hq⟩
  · exact h.tab t (List.mem_of_getElem? hq)
theorem AV.setTab (h : AV a) (n : Nat) {t : Tb} (ht : TOK t ∧ ∀ q ∈ t, aok a q.1 ∧ aok a q.2) : AV { a with tabs := a.tabs.set n t } := by
  have e : ∀ v, aok { a with tabs := a.tabs.set n t } v ↔ aok a v := fun v => by unfold aok; simp
  refine ⟨fun w hw => (e w).2 (h.var w hw), fun u hu f hf w hw => (e w).2 (h.ops u hu f hf w hw), fun u hu => ?_, h.nc, h.nt, by show (a.tabs.set n t).length ≤ 12; rw [List.length_set]; exact h.nh, h.out⟩
  rcases List.mem_or_eq_of_mem_set hu with hu | rfl
  · exact ⟨(h.tab u hu).1, fun q hq => ⟨(e _).2 ((h.tab u hu).2 q hq).1, (e _).2 ((h.tab u hu).2 q hq).2⟩⟩
  · exact ⟨ht.1, fun q hq => ⟨(e _).2 (ht.2 q hq).1, (e _).2 (ht.2 q hq).2⟩⟩
theorem AV.newTab (h : AV a) (h5 : a.tabs.length < 12) : AV { a with tabs := a.tabs ++ [[]] } := by
  have e : ∀ {v}, aok a v → aok { a with tabs := a.tabs ++ [[]] } v := fun hv => hv.mono (Nat.le_refl _) (Nat.le_refl _) (by simp)
  refine ⟨fun w hw => e (h.var w hw), fun u hu f hf w hw => e (h.ops u hu f hf w hw), fun u hu => ?_, h.nc, h.nt, by show (a.tabs ++ [[]]).length ≤ 12; simp; omega, h.out⟩
  rcases List.mem_append.1 hu with hu | hu
  · exact ⟨(h.tab u hu).1, fun q hq => ⟨e ((h.tab u hu).2 q hq).1, e ((h.tab u hu).2 q hq).2⟩⟩
  · rw [List.mem_singleton.1 hu]; exact ⟨TOK.nil, fun q hq => by cases hq⟩
theorem AV.newC (h : AV a) {z : Nat × List Nat} (h5 : a.clos.length < 24) : AV { a with clos := a.clos ++ [z] } := by
  have e : ∀ {v}, aok a v → aok { a with clos := a.clos ++ [z] } v := fun hv => hv.mono (by simp) (Nat.le_refl _) (Nat.le_refl _)
  exact ⟨fun w hw => e (h.var w hw), fun u hu f hf w hw => e (h.ops u hu f hf w hw), fun u hu => ⟨(h.tab u hu).1, fun q hq => ⟨e ((h.tab u hu).2 q hq).1, e ((h.tab u hu).2 q hq).2⟩⟩, by show (a.clos ++ [z]).length ≤ 24; simp; omega, h.nt, h.nh, h.out⟩
theorem AV.newT (h : AV a) {n : Nat} (h5 : a.ths.length < 5) : AV { a with ths := a.ths ++ [⟨1, n, []⟩] } := by
  have e : ∀ {v}, aok a v → aok { a with ths := a.ths ++ [⟨1, n, []⟩] } v := fun hv => hv.mono (Nat.le_refl _) (by simp) (Nat.le_refl _)
  refine ⟨fun w hw => e (h.var w hw), fun u hu f hf w hw => ?_, fun u hu => ⟨(h.tab u hu).1, fun q hq => ⟨e ((h.tab u hu).2 q hq).1, e ((h.tab u hu).2 q hq).2⟩⟩, h.nc, by show (a.ths ++ [_]).length ≤ 5; simp; omega, h.nh, h.out⟩
  rcases List.mem_append.1 hu with hu | hu
  · exact e (h.ops u hu f hf w hw)
  · rw [List.mem_singleton.1 hu] at hf; cases hf
end

end Go.Proofs.Qxb6500568aGreatDoor
