import Derived.Test.Qxb6500568aGreatDoorOf
namespace Go.Proofs.Qxb6500568aGreatDoor
open Ieee
set_option linter.unusedVariables false
set_option linter.unusedSimpArgs false
set_option linter.unusedSectionVars false

/-! Operands, writes, captures, closures. -/

section
variable {V : VS} {a : AS} {κ : List Nat} {P : Nat → Nat → Prop}

theorem FrG.ops {stk : List PV} {f : VFr} {fs : List VFr} {g : AFr} {gs : List AFr} (h : FrG stk stk.length (f :: fs) (g :: gs)) (l : List PV) (p : Nat) :
    FrG (stk.take (f.base + g.slots.length) ++ l.reverse) (stk.take (f.base + g.slots.length) ++ l.reverse).length ({ f with pc := p } :: fs) ({ g with ops := l, pc := p } :: gs) := by
  obtain ⟨h1, h2, h3, h4, h5⟩ := h
  have hb : (stk.take (f.base + g.slots.length)).length = f.base + g.slots.length := by rw [List.length_take]; omega
  refine ⟨⟨h1.1, rfl, h1.2.2⟩, ?_, fun i v hv => ?_, h4, h5.congr fun i hi hn => ?_⟩
  · show f.base + g.slots.length + l.length = _; rw [List.length_append, List.length_reverse, hb]
  · show (stk.take (f.base + g.slots.length) ++ l.reverse)[f.base + g.slots.length + i]? = some v
    rw [List.getElem?_append_right (by rw [hb]; omega), hb, Nat.add_sub_cancel_left]; exact hv
  · rw [List.getElem?_append_left (by rw [hb]; omega), List.getElem?_take, if_pos (by omega)]
theorem R.ops (h : R V a κ P) {t p : Nat} {x : VTh} {y : ATh} {f : VFr} {fs : List VFr} {g : AFr} {gs : List AFr} (l : List PV) (hx : V.ths[t]? = some x) (hy : a.ths[t]? = some y) (hf : x.frs = f :: fs) (hg : y.frs = g :: gs) {b : AS} (hb1 : b.clos = a.clos) (hb2 : b.vars = a.vars)
    (hb3 : b.ths = a.ths.set t { y with frs := { g with ops := l, pc := p } :: gs }) :
    R (V.setT t { x with stack := x.stack.take (f.base + g.slots.length) ++ l.reverse, frs := { f with pc := p } :: fs }) b κ P := by
  have hG := h.th t x y hx hy
  have hF := hG.2.2
  rw [hf, hg] at hF
  refine h.thr (x' := { x with stack := x.stack.take (f.base + g.slots.length) ++ l.reverse, frs := { f with pc := p } :: fs }) (y' := { y with frs := { g with ops := l, pc := p } :: gs }) hx hy ⟨hG.1, hG.2.1, hF.ops l p⟩ (fun i n => by rw [hf, hg]; exact Iff.rfl) rfl (fun i n hs => ?_) hb1 hb2 hb3
  rw [hf, hg] at hs
  have hlt : i < f.base + g.slots.length := by
    rcases hs with ⟨h6, h7⟩ | hs
    · have := (List.getElem?_eq_some_iff.1 h7).1; omega
    · have := Sl.lt hF.2.2.2.2 hs
      have := hF.2.2.2.1
      omega
  have hlen := hF.2.1
  show (x.stack.take (f.base + g.slots.length) ++ l.reverse)[i]? = _
  rw [List.getElem?_append_left (by rw [List.length_take]; omega), List.getElem?_take, if_pos hlt]
theorem R.st (h : R V a κ P) {t n : Nat} {x : VTh} {y : ATh} (hx : V.ths[t]? = some x) (hy : a.ths[t]? = some y) {b : AS} (hb1 : b.clos = a.clos) (hb2 : b.vars = a.vars) (hb3 : b.ths = a.ths.set t { y with st := n }) : R (V.setT t { x with st := n }) b κ P := by
  have hG := h.th t x y hx hy
  exact h.thr (x' := { x with st := n }) (y' := { y with st := n }) hx hy ⟨rfl, hG.2.1, hG.2.2⟩ (fun i n => Iff.rfl) rfl (fun i n hs => rfl) hb1 hb2 hb3
theorem var_set {i n : Nat} {v : PV} (h : n < a.vars.length) : (aset n v a).var i = if i = n then v else a.var i := by
  unfold AS.var aset
  show (a.vars.set n v).getD i vNil = _
  rw [List.getD_eq_getElem?_getD, List.getElem?_set, List.getD_eq_getElem?_getD]
  by_cases hi : i = n
  · subst hi; simp [h]
  · have : ¬ n = i := fun e => hi e.symm
    simp [hi, this]
/-- a slot is written. -/
theorem R.set (h : R V a κ P) {t i n : Nat} {x : VTh} {v : PV} (hx : V.ths[t]? = some x) (hS : SlotAt V.ths a.ths t i n) (hP : P t i) : R (V.setT t { x with stack := x.stack.set i v }) (aset n v a) κ P := by
  have hlt := (List.getElem?_eq_some_iff.1 hx).1
  have hn := h.sl t i n hS
  have hget : ∀ k z, (V.setT t { x with stack := x.stack.set i v }).ths[k]? = some z → (k = t ∧ z = { x with stack := x.stack.set i v }) ∨ (k ≠ t ∧ V.ths[k]? = some z) := fun k z hz => by
    have hz : (V.ths.set t { x with stack := x.stack.set i v })[k]? = some z := hz
    rw [List.getElem?_set] at hz
    by_cases hk : k = t
    · subst hk; simp [hlt] at hz; exact .inl ⟨rfl, hz.symm⟩
    · have hk' : ¬ t = k := fun e => hk e.symm
      simp [hk'] at hz; exact .inr ⟨hk, hz⟩
  have hSl : ∀ k j m, SlotAt (V.setT t { x with stack := x.stack.set i v }).ths (aset n v a).ths k j m ↔ SlotAt V.ths a.ths k j m := fun k j m => by
    show SlotAt (V.ths.set t _) a.ths k j m ↔ _
    constructor
    · rintro ⟨x1, y1, q1, q2, q3⟩
      rcases hget k x1 q1 with ⟨rfl, rfl⟩ | ⟨hk, q1⟩
      · exact ⟨x, y1, hx, q2, q3⟩
      · exact ⟨x1, y1, q1, q2, q3⟩
    · rintro ⟨x1, y1, q1, q2, q3⟩
      by_cases hk : k = t
      · subst hk
        rw [hx] at q1; injection q1 with q1; subst q1
        exact ⟨{ x with stack := x.stack.set i v }, y1, by rw [List.getElem?_set]; simp [hlt], q2, q3⟩
      · have hk' : ¬ t = k := fun e => hk e.symm
        exact ⟨x1, y1, by rw [List.getElem?_set]; simp [hk', q1], q2, q3⟩
  refine ⟨h.clen, h.clo, h.klen, h.knd, fun m hm => ?_, ?_, fun k z w hz hw => ?_, fun k j m z hq hz => ?_, fun k j k' j' m q1 q2 => h.sj k j k' j' m ((hSl _ _ _).1 q1) ((hSl _ _ _).1 q2), fun k j m q => ?_, fun c z hz => ?_, fun k z hz => ?_, fun k z hz c => ?_⟩
  · show m < (a.vars.set n v).length; rw [List.length_set]; exact h.klt m hm
  · show (V.ths.set t _).length = _; rw [List.length_set]; exact h.tlen
  · rcases hget k z hz with ⟨rfl, rfl⟩ | ⟨hk, hz⟩
    · have hG := h.th k x w hx hw
      obtain ⟨x1, y1, q1, q2, q3⟩ := hS
      rw [hx] at q1; injection q1 with q1; subst q1
      have hw : a.ths[k]? = some w := hw
      rw [q2] at hw; injection hw with hw; subst hw
      refine ⟨hG.1, hG.2.1, ?_⟩
      show FrG (x.stack.set i v) (x.stack.set i v).length x.frs y1.frs
      rw [List.length_set]
      refine hG.2.2.congr fun j hj hns => ?_
      have hji : ¬ i = j := fun e => hns n (e ▸ q3)
      rw [List.getElem?_set]; simp [hji]
    · exact h.th k z w hz hw
  · rw [var_set hn]
    have hq' := (hSl _ _ _).1 hq
    by_cases hm : m = n
    · subst hm
      obtain ⟨rfl, rfl⟩ := h.sj _ _ _ _ _ hq' hS
      rw [if_pos rfl]
      rcases hget k z hz with ⟨-, rfl⟩ | ⟨hk, hz⟩
      · have hl := (List.getElem?_eq_some_iff.1 (h.sv k j m x hq' hx)).1
        show (x.stack.set j v)[j]? = _
        rw [List.getElem?_set]; simp [hl]
      · exact absurd rfl hk
    · rw [if_neg hm]
      rcases hget k z hz with ⟨rfl, rfl⟩ | ⟨hk, hz⟩
      · have hij : ¬ i = j := fun e => by
          subst e
          obtain ⟨x1, y1, q1, q2, q3⟩ := hq'
          obtain ⟨x2, y2, r1, r2, r3⟩ := hS
          rw [q1] at r1; rw [q2] at r2; injection r1 with r1; injection r2 with r2; subst r1; subst r2
          exact hm (Sl.fun (h.th _ _ _ q1 q2).2.2 q3 r3)
        show (x.stack.set i v)[j]? = _
        rw [List.getElem?_set]; simp only [hij, if_false]
        exact h.sv k j m x hq' hx
      · exact h.sv k j m z hq' hz
  · show m < (a.vars.set n v).length; rw [List.length_set]; exact h.sl k j m ((hSl _ _ _).1 q)
  · have := h.ce c z hz
    rcases hth : z.th with _ | k <;> rw [hth] at this
    · refine ⟨?_, fun k j q => this.2 k j ((hSl _ _ _).1 q)⟩
      rw [var_set hn, if_neg]
      · exact this.1
      · intro e
        exact this.2 t i (e ▸ hS) hP
    · exact ⟨this.1, (hSl _ _ _).2 this.2⟩
  · rcases hget k z hz with ⟨rfl, rfl⟩ | ⟨hk, hz⟩
    · exact h.od k x hx
    · exact h.od k z hz
  · rcases hget k z hz with ⟨rfl, rfl⟩ | ⟨hk, hz⟩
    · exact h.om k x hx c
    · exact h.om k z hz c
theorem getD_inj {l : List Nat} (h : l.Nodup) {i j : Nat} (hi : i < l.length) (hj : j < l.length) (e : l.getD i 0 = l.getD j 0) : i = j := by
  rw [List.getD_eq_getElem?_getD, List.getD_eq_getElem?_getD, List.getElem?_eq_getElem hi, List.getElem?_eq_getElem hj] at e
  exact (List.getElem_inj (h₀ := hi) (h₁ := hj) h).1 e
theorem R.kv (h : R V a κ P) {c : Nat} (hc : c < V.cells.length) : κ.getD c 0 < a.vars.length := by
  have hc : c < κ.length := by rw [h.klen]; exact hc
  rw [List.getD_eq_getElem?_getD, List.getElem?_eq_getElem hc]
  exact h.klt _ (List.getElem_mem hc)
/-- a closed cell is written. -/
theorem R.setC (h : R V a κ P) {c : Nat} {x : VCell} {v : PV} (hx : V.cells[c]? = some x) (hn : x.th = none) (hP : ∀ t i, P t i) : R { V with cells := V.cells.set c { x with v := v } } (aset (κ.getD c 0) v a) κ P := by
  have hlt := (List.getElem?_eq_some_iff.1 hx).1
  have hc := h.ce c x hx
  rw [hn] at hc
  have hno : ∀ t i, ¬ SlotAt V.ths a.ths t i (κ.getD c 0) := fun t i q => hc.2 t i q (hP t i)
  have hg : ∀ d y, (V.cells.set c { x with v := v })[d]? = some y → (d = c ∧ y = { x with v := v }) ∨ (d ≠ c ∧ V.cells[d]? = some y) := fun d y hy => by
    rw [List.getElem?_set] at hy
    by_cases hd : d = c
    · subst hd; simp [hlt] at hy; exact .inl ⟨rfl, hy.symm⟩
    · have hd' : ¬ c = d := fun e => hd e.symm
      simp [hd'] at hy; exact .inr ⟨hd, hy⟩
  have hpl : ∀ d, ((V.cells.set c { x with v := v }).getD d VCell.zero).pl = (V.cells.getD d VCell.zero).pl := fun d => by
    rw [List.getD_eq_getElem?_getD, List.getD_eq_getElem?_getD, List.getElem?_set]
    by_cases hd : c = d
    · subst hd; rw [hx]; simp [hlt]
    · simp [hd]
  refine ⟨h.clen, fun d p cs hd => ?_, ?_, h.knd, fun m hm => ?_, h.tlen, h.th, fun k j m z hq hz => ?_, h.sj, fun k j m q => ?_, fun d z hz => ?_, fun k z hz => ?_, fun k z hz d => ?_⟩
  · have := h.clo d p cs hd
    refine ⟨this.1, fun k hk => ?_⟩
    show k < (V.cells.set c _).length; rw [List.length_set]; exact this.2 k hk
  · show _ = (V.cells.set c _).length; rw [List.length_set]; exact h.klen
  · show m < (a.vars.set _ v).length; rw [List.length_set]; exact h.klt m hm
  · rw [var_set (h.kv hlt), if_neg]
    · exact h.sv k j m z hq hz
    · intro e; exact hno k j (e ▸ hq)
  · show m < (a.vars.set _ v).length; rw [List.length_set]; exact h.sl k j m q
  · rcases hg d z hz with ⟨rfl, rfl⟩ | ⟨hd, hz⟩
    · show (match x.th with | some t => _ | none => _)
      rw [hn]
      exact ⟨by rw [var_set (h.kv hlt), if_pos rfl], hc.2⟩
    · have := h.ce d z hz
      rcases hth : z.th with _ | k <;> rw [hth] at this
      · refine ⟨?_, this.2⟩
        rw [var_set (h.kv hlt), if_neg]
        · exact this.1
        · intro e
          exact hd (getD_inj h.knd (by rw [h.klen]; exact (List.getElem?_eq_some_iff.1 hz).1) (by rw [h.klen]; exact hlt) e)
      · exact this
  · have := h.od k z hz
    refine this.imp fun {c d} q => ?_
    show ((V.cells.set _ _).getD d VCell.zero).pl < ((V.cells.set _ _).getD c VCell.zero).pl
    rw [hpl, hpl]; exact q
  · rw [h.om k z hz d]
    constructor
    · rintro ⟨y, h1, h2⟩
      by_cases hd : d = c
      · subst hd; rw [hx] at h1; injection h1 with h1; subst h1; rw [hn] at h2; cases h2
      · have hd' : ¬ c = d := fun e => hd e.symm
        exact ⟨y, by show (V.cells.set c _)[d]? = _; rw [List.getElem?_set]; simp [hd', h1], h2⟩
    · rintro ⟨y, h1, h2⟩
      rcases hg d y h1 with ⟨rfl, rfl⟩ | ⟨hd, h1⟩
      · exact absurd (hn.symm.trans h2) (by simp)
      · exact ⟨y, h1, h2⟩
end

end Go.Proofs.Qxb6500568aGreatDoor
