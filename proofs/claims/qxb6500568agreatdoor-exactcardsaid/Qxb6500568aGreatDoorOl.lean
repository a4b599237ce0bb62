import Derived.Test.Qxb6500568aGreatDoorOk
namespace Go.Proofs.Qxb6500568aGreatDoor
open Ieee
set_option linter.unusedVariables false
set_option linter.unusedSimpArgs false
set_option linter.unusedSectionVars false

/-! The machine's larger moves against the variable machine's. -/

section
variable {V : VS} {a : AS} {κ : List Nat}

/-- a frame is built above the stack's top. -/
theorem R.enter (h : R V a κ AllP) {t ret c s : Nat} {x : VTh} {y : ATh} {fs' : List VFr} {gs' : List AFr} {prot : Bool} {vs : List PV} (hx : V.ths[t]? = some x) (hy : a.ths[t]? = some y) (hG : FrG x.stack ret fs' gs') (hret : ret ≤ x.stack.length)
    (hSl : ∀ i n, Sl fs' gs' i n ↔ Sl x.frs y.frs i n) {b : AS} (hb1 : b.clos = a.clos) (hb2 : b.vars = a.vars ++ vs) (hb3 : b.ths = a.ths.set t { y with st := s, frs := ⟨c, 0, (List.range vs.length).map (a.vars.length + ·), [], prot⟩ :: gs' }) :
    R (V.setT t { x with st := s, stack := x.stack ++ vs, frs := ⟨c, 0, x.stack.length, ret, prot⟩ :: fs' }) b κ AllP := by
  have hT := h.th t x y hx hy
  have hlt : ∀ i n, Sl x.frs y.frs i n → i < x.stack.length := fun i n q => Sl.lt hT.2.2 q
  have hr : ∀ k n, ((List.range vs.length).map (a.vars.length + ·))[k]? = some n ↔ k < vs.length ∧ n = a.vars.length + k := fun k n => by
    rw [List.getElem?_map]
    by_cases hk : k < vs.length
    · rw [List.getElem?_range hk]
      simp [hk, eq_comm]
    · rw [List.getElem?_eq_none (by simp; omega)]
      simp [hk]
  refine (h.hi hx hy hlt).add (x' := { x with st := s, stack := x.stack ++ vs, frs := ⟨c, 0, x.stack.length, ret, prot⟩ :: fs' }) (y' := { y with st := s, frs := ⟨c, 0, (List.range vs.length).map (a.vars.length + ·), [], prot⟩ :: gs' }) hx hy ⟨rfl, hT.2.1, ?_⟩ (fun i n => ?_) rfl (fun i n hs hi => ?_) (fun j v hv => ?_) hb1 hb2 hb3
  · refine ⟨⟨rfl, rfl, rfl⟩, ?_, (fun i v hv => by simp at hv), hret, hG.congr fun i hi hn => ?_⟩
    · show x.stack.length + ((List.range vs.length).map _).length + 0 = (x.stack ++ vs).length
      simp
    · show (x.stack ++ vs)[i]? = _
      rw [List.getElem?_append_left (by omega)]
  · show (x.stack.length ≤ i ∧ ((List.range vs.length).map (a.vars.length + ·))[i - x.stack.length]? = some n) ∨ Sl fs' gs' i n ↔ _
    rw [hSl, hr]
    constructor
    · rintro (⟨q1, q2, q3⟩ | q)
      · exact .inr ⟨q1, by omega, q3⟩
      · exact .inl ⟨q, hlt i n q⟩
    · rintro (⟨q, -⟩ | ⟨q1, q2, q3⟩)
      · exact .inr q
      · exact .inl ⟨q1, by omega, q3⟩
  · show (x.stack ++ vs)[i]? = _
    rw [List.getElem?_append_left hi]
  · show (x.stack ++ vs)[x.stack.length + j]? = _
    rw [List.getElem?_append_right (by omega), Nat.add_sub_cancel_left]; exact hv

theorem closeV_th {V : VS} {t p : Nat} {x : VTh} (hx : V.ths[t]? = some x) : (closeV V t p).ths[t]? = some { x with opn := (closeL x.stack p x.opn V.cells).2 } := by
  have hlt := (List.getElem?_eq_some_iff.1 hx).1
  have hxD : V.ths.getD t VTh.zero = x := by rw [List.getD_eq_getElem?_getD, hx]; rfl
  unfold closeV
  rw [hxD]
  show (V.ths.set t _)[t]? = _
  rw [List.getElem?_set, if_pos rfl, if_pos hlt]
/-- frames go; two results are pushed. -/
theorem R.pop2 (h : R V a κ AllP) {t p ret : Nat} {x : VTh} {y : ATh} {fr : List VFr} {r : List AFr} {u w : PV} (hx : V.ths[t]? = some x) (hy : a.ths[t]? = some y) (hF : FrG x.stack ret fr r) (hr : r ≠ []) (hret : ret ≤ x.stack.length) (hrp : ret ≤ p)
    (hSl : ∀ i n, Sl fr r i n ↔ Sl x.frs y.frs i n ∧ i < p) {b : AS} (hb1 : b.clos = a.clos) (hb2 : b.vars = a.vars) (hb3 : b.ths = a.ths.set t { y with frs := pu2 u w r }) :
    R ((closeV V t p).setT t { x with opn := (closeL x.stack p x.opn V.cells).2, stack := x.stack.take ret ++ [u, w], frs := fr }) b κ AllP := by
  have hT := h.th t x y hx hy
  refine (h.close (p := p) hx).cut (x' := { x with opn := (closeL x.stack p x.opn V.cells).2, stack := x.stack.take ret ++ [u, w], frs := fr }) (y' := { y with frs := pu2 u w r }) (closeV_th hx) hy ⟨hT.1, hT.2.1, hF.push2 hret hr⟩ (fun i n => ?_) rfl (fun i n hs => ?_) hb1 hb2 hb3
  · show Sl fr (pu2 u w r) i n ↔ _
    rw [Sl.pu2]; exact hSl i n
  · have hs : Sl fr (pu2 u w r) i n := hs
    rw [Sl.pu2] at hs
    have := Sl.lt hF hs
    show (x.stack.take ret ++ [u, w])[i]? = x.stack[i]?
    rw [List.getElem?_append_left (by rw [List.length_take]; omega), List.getElem?_take, if_pos this]
/-- a thread ends. -/
theorem R.kill (h : R V a κ AllP) {t : Nat} {x : VTh} {y : ATh} (hx : V.ths[t]? = some x) (hy : a.ths[t]? = some y) {b : AS} (hb1 : b.clos = a.clos) (hb2 : b.vars = a.vars) (hb3 : b.ths = a.ths.set t { y with frs := [], st := 5 }) :
    R ((closeV V t 0).setT t { x with opn := (closeL x.stack 0 x.opn V.cells).2, stack := [], frs := [], st := 5 }) b κ AllP := by
  have hT := h.th t x y hx hy
  refine (h.close (p := 0) hx).cut (x' := { x with opn := (closeL x.stack 0 x.opn V.cells).2, stack := [], frs := [], st := 5 }) (y' := { y with frs := [], st := 5 }) (closeV_th hx) hy ⟨rfl, hT.2.1, rfl⟩ (fun i n => ?_) rfl (fun i n hs => by cases hs) hb1 hb2 hb3
  constructor
  · intro q; cases q
  · rintro ⟨-, q⟩; omega
/-- the slots of the top frame from z on are closed. -/
theorem R.acl (h : R V a κ AllP) {t z pc : Nat} {x : VTh} {y : ATh} {f : VFr} {fs : List VFr} {g : AFr} {gs : List AFr} (hx : V.ths[t]? = some x) (hy : a.ths[t]? = some y) (hf : x.frs = f :: fs) (hg : y.frs = g :: gs) (hz : z ≤ g.slots.length) {b : AS} (hb1 : b.clos = a.clos)
    (hb2 : b.vars = a.vars ++ (g.slots.drop z).map a.var) (hb3 : b.ths = a.ths.set t { y with frs := { g with slots := g.slots.take z ++ (List.range (g.slots.length - z)).map (a.vars.length + ·), pc := pc } :: gs }) :
    R ((closeV V t (f.base + z)).setT t { x with opn := (closeL x.stack (f.base + z) x.opn V.cells).2, frs := { f with pc := pc } :: fs }) b κ AllP := by
  have hT := h.th t x y hx hy
  have hF := hT.2.2
  rw [hf, hg] at hF
  obtain ⟨h1, h2, h3, h4, h5⟩ := hF
  have hlen : (g.slots.take z ++ (List.range (g.slots.length - z)).map (a.vars.length + ·)).length = g.slots.length := by simp; omega
  have hvl : ((g.slots.drop z).map a.var).length = g.slots.length - z := by simp
  have hsg : ∀ k n, (g.slots.take z ++ (List.range (g.slots.length - z)).map (a.vars.length + ·))[k]? = some n ↔ (k < z ∧ g.slots[k]? = some n) ∨ (z ≤ k ∧ k < g.slots.length ∧ n = a.vars.length + (k - z)) := fun k n => by
    have htl : (g.slots.take z).length = z := by rw [List.length_take]; omega
    by_cases hk : k < z
    · rw [List.getElem?_append_left (by rw [htl]; exact hk), List.getElem?_take, if_pos hk]
      constructor
      · exact fun q => .inl ⟨hk, q⟩
      · rintro (q | q)
        · exact q.2
        · omega
    · rw [List.getElem?_append_right (by rw [htl]; omega), htl, List.getElem?_map]
      by_cases hk2 : k < g.slots.length
      · rw [List.getElem?_range (by omega)]
        constructor
        · intro q; simp at q; exact .inr ⟨by omega, hk2, q.symm⟩
        · rintro (q | q)
          · omega
          · simp [q.2.2]
      · rw [List.getElem?_eq_none (by simp; omega)]
        constructor
        · intro q; simp at q
        · rintro (q | q) <;> omega
  refine (h.close (p := f.base + z) hx).add (x' := { x with opn := (closeL x.stack (f.base + z) x.opn V.cells).2, frs := { f with pc := pc } :: fs }) (y' := { y with frs := { g with slots := g.slots.take z ++ (List.range (g.slots.length - z)).map (a.vars.length + ·), pc := pc } :: gs }) (vs := (g.slots.drop z).map a.var) (closeV_th hx) hy ⟨hT.1, hT.2.1, ?_⟩ (fun i n => ?_) rfl (fun i n hs hi => rfl) (fun j v hv => ?_) hb1 hb2 hb3
  · show FrG x.stack x.stack.length ({ f with pc := pc } :: fs) _
    refine ⟨⟨h1.1, rfl, h1.2.2⟩, by show f.base + (g.slots.take z ++ _).length + g.ops.length = _; rw [hlen]; exact h2, fun i v hv => ?_, h4, h5⟩
    show x.stack[f.base + (g.slots.take z ++ _).length + i]? = _
    rw [hlen]; exact h3 i v hv
  · show (f.base ≤ i ∧ (g.slots.take z ++ (List.range (g.slots.length - z)).map (a.vars.length + ·))[i - f.base]? = some n) ∨ Sl fs gs i n ↔ (Sl x.frs y.frs i n ∧ i < f.base + z) ∨ _
    rw [hf, hg, hsg, hvl]
    constructor
    · rintro (⟨q1, q2 | q2⟩ | q)
      · exact .inl ⟨.inl ⟨q1, q2.2⟩, by omega⟩
      · exact .inr ⟨by omega, by omega, by omega⟩
      · exact .inl ⟨.inr q, by have := Sl.lt h5 q; omega⟩
    · rintro (⟨⟨q1, q2⟩ | q, q3⟩ | ⟨q1, q2, q3⟩)
      · exact .inl ⟨q1, .inl ⟨by omega, q2⟩⟩
      · exact .inr q
      · exact .inl ⟨by omega, .inr ⟨by omega, by omega, by omega⟩⟩
  · rw [List.getElem?_map, List.getElem?_drop] at hv
    rcases hq : g.slots[z + j]? with _ | m
    · rw [hq] at hv; simp at hv
    · rw [hq] at hv; simp at hv; subst hv
      show x.stack[f.base + z + j]? = _
      exact h.sv t _ m x ⟨x, y, hx, hy, by rw [hf, hg]; exact .inl ⟨by omega, by rw [show f.base + z + j - f.base = z + j by omega]; exact hq⟩⟩ hx

/-- the cells of a new closure. -/
def capAll (t base : Nat) (ups : List Nat) : List (Nat × Nat) → VS → List Nat × VS
  | [], V => ([], V)
  | d :: r, V =>
    let q := if d.1 = 1 then capV V t (base + d.2) else (ups.getD d.2 0, V)
    let z := capAll t base ups r q.2
    (q.1 :: z.1, z.2)
theorem capV_same (V : VS) (t pl : Nat) : (capV V t pl).2.clos = V.clos ∧ V.cells.length ≤ (capV V t pl).2.cells.length := by
  unfold capV
  dsimp only
  split
  · exact ⟨rfl, Nat.le_refl _⟩
  · exact ⟨rfl, by show _ ≤ (V.cells ++ [_]).length; simp⟩
theorem R.capAll {t base : Nat} {sl ups ids : List Nat} : ∀ {ds : List (Nat × Nat)} {V : VS} {κ : List Nat}, R V a κ AllP → (∀ d ∈ ds, (d.1 = 1 ∧ ∃ n, sl[d.2]? = some n ∧ SlotAt V.ths a.ths t (base + d.2) n) ∨ (d.1 = 0 ∧ d.2 < ups.length)) → ids = ups.map (fun k => κ.getD k 0) → (∀ k ∈ ups, k < V.cells.length) →
    ∃ κ', κ <+: κ' ∧ R (capAll t base ups ds V).2 a κ' AllP ∧ (∀ k ∈ (capAll t base ups ds V).1, k < (capAll t base ups ds V).2.cells.length) ∧ (capAll t base ups ds V).1.map (fun k => κ'.getD k 0) = ds.map (fun d => if d.1 = 1 then sl.getD d.2 0 else ids.getD d.2 0) ∧ (capAll t base ups ds V).2.clos = V.clos ∧ V.cells.length ≤ (capAll t base ups ds V).2.cells.length
  | [], V, κ, h, hd, hi, hu => ⟨κ, List.prefix_refl _, h, (fun k hk => by cases hk), rfl, rfl, Nat.le_refl _⟩
  | d :: r, V, κ, h, hd, hi, hu => by
    have hpre : ∀ {κ κ' : List Nat} {k : Nat}, κ <+: κ' → k < κ.length → κ'.getD k 0 = κ.getD k 0 := fun hp hk => by
      obtain ⟨s, rfl⟩ := hp
      rw [List.getD_eq_getElem?_getD, List.getD_eq_getElem?_getD, List.getElem?_append_left hk]
    have hstep : ∃ κ1, κ <+: κ1 ∧ R (if d.1 = 1 then capV V t (base + d.2) else (ups.getD d.2 0, V)).2 a κ1 AllP ∧ (if d.1 = 1 then capV V t (base + d.2) else (ups.getD d.2 0, V)).1 < (if d.1 = 1 then capV V t (base + d.2) else (ups.getD d.2 0, V)).2.cells.length ∧
        κ1.getD (if d.1 = 1 then capV V t (base + d.2) else (ups.getD d.2 0, V)).1 0 = (if d.1 = 1 then sl.getD d.2 0 else ids.getD d.2 0) ∧ (∀ k i m, SlotAt (if d.1 = 1 then capV V t (base + d.2) else (ups.getD d.2 0, V)).2.ths a.ths k i m ↔ SlotAt V.ths a.ths k i m) ∧
        (if d.1 = 1 then capV V t (base + d.2) else (ups.getD d.2 0, V)).2.clos = V.clos ∧ V.cells.length ≤ (if d.1 = 1 then capV V t (base + d.2) else (ups.getD d.2 0, V)).2.cells.length := by
      rcases hd d List.mem_cons_self with ⟨e, n, hn, hS⟩ | ⟨e, hl⟩
      · simp only [e, if_true]
        obtain ⟨κ1, k1, k2, k3, k4, k5⟩ := h.cap hS trivial
        exact ⟨κ1, k1, k2, k3, by rw [k4, List.getD_eq_getElem?_getD, hn]; rfl, k5, capV_same V t (base + d.2)⟩
      · have e1 : ¬ d.1 = 1 := by omega
        rw [if_neg e1, if_neg e1]
        have hm : ups[d.2]? = some ups[d.2] := List.getElem?_eq_getElem hl
        refine ⟨κ, List.prefix_refl _, h, ?_, ?_, fun _ _ _ => Iff.rfl, rfl, Nat.le_refl _⟩
        · rw [List.getD_eq_getElem?_getD, hm]; exact hu _ (List.getElem_mem hl)
        · rw [hi, List.getD_eq_getElem?_getD (l := ups.map _), List.getElem?_map, List.getD_eq_getElem?_getD (l := ups), hm]; rfl
    obtain ⟨κ1, k1, k2, k3, k4, k5, k6, k7⟩ := hstep
    have hl1 : ∀ k ∈ ups, k < κ.length := fun k hk => by rw [h.klen]; exact hu k hk
    obtain ⟨κ2, l1, l2, l3, l4, l5, l6⟩ := R.capAll (t := t) (base := base) (sl := sl) (ups := ups) (ids := ids) (ds := r) k2 (fun d' hd' => by
        rcases hd d' (List.mem_cons_of_mem _ hd') with ⟨q1, n, q2, q3⟩ | q
        · exact .inl ⟨q1, n, q2, (k5 _ _ _).2 q3⟩
        · exact .inr q) (by rw [hi]; exact List.map_congr_left fun k hk => (hpre k1 (hl1 k hk)).symm) (fun k hk => Nat.lt_of_lt_of_le (hu k hk) k7)
    refine ⟨κ2, k1.trans l1, l2, fun k hk => ?_, ?_, l5.trans k6, Nat.le_trans k7 l6⟩
    · rcases List.mem_cons.1 hk with rfl | hk
      · exact Nat.lt_of_lt_of_le k3 l6
      · exact l3 k hk
    · show κ2.getD _ 0 :: _ = _ :: _
      rw [l4, hpre l1 (by rw [k2.klen]; exact k3), k4]
end

end Go.Proofs.Qxb6500568aGreatDoor
