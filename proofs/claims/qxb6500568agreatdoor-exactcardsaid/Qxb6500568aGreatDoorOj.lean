import Derived.Test.Qxb6500568aGreatDoorOi
namespace Go.Proofs.Qxb6500568aGreatDoor
open Ieee
set_option linter.unusedVariables false
set_option linter.unusedSimpArgs false
set_option linter.unusedSectionVars false

/-! Frames go and come. -/

def AllP : Nat → Nat → Prop := fun _ _ => True
section
variable {V : VS} {a : AS} {κ : List Nat} {P : Nat → Nat → Prop}

/-- the slots of thread t at or above p go. -/
theorem R.cut {t p : Nat} {x x' : VTh} {y y' : ATh} (h : R V a κ (fun k i => AllP k i ∧ ¬ (k = t ∧ p ≤ i))) (hx : V.ths[t]? = some x) (hy : a.ths[t]? = some y) (hG : TG x' y') (hs : ∀ i n, Sl x'.frs y'.frs i n ↔ Sl x.frs y.frs i n ∧ i < p) (ho : x'.opn = x.opn)
    (hst : ∀ i n, Sl x'.frs y'.frs i n → x'.stack[i]? = x.stack[i]?) {b : AS} (hb1 : b.clos = a.clos) (hb2 : b.vars = a.vars) (hb3 : b.ths = a.ths.set t y') : R (V.setT t x') b κ AllP := by
  have hlt := (List.getElem?_eq_some_iff.1 hx).1
  have hlt' := (List.getElem?_eq_some_iff.1 hy).1
  have hSl : ∀ k i n, SlotAt (V.setT t x').ths b.ths k i n ↔ SlotAt V.ths a.ths k i n ∧ (k = t → i < p) := fun k i n => by
    rw [hb3, show (V.setT t x').ths = V.ths.set t x' from rfl, SlotAt.set hlt hlt']
    by_cases hk : k = t
    · subst hk
      rw [if_pos rfl, hs]
      constructor
      · rintro ⟨q1, q2⟩; exact ⟨⟨x, y, hx, hy, q1⟩, fun _ => q2⟩
      · rintro ⟨⟨x1, y1, q1, q2, q3⟩, q4⟩
        rw [hx] at q1; rw [hy] at q2; injection q1 with q1; injection q2 with q2; subst q1; subst q2; exact ⟨q3, q4 rfl⟩
    · rw [if_neg hk]
      exact ⟨fun q => ⟨q, fun e => absurd e hk⟩, fun q => q.1⟩
  have hget : ∀ k z, (V.setT t x').ths[k]? = some z → (k = t ∧ z = x') ∨ (k ≠ t ∧ V.ths[k]? = some z) := fun k z hz => by
    have hz : (V.ths.set t x')[k]? = some z := hz
    rw [List.getElem?_set] at hz
    by_cases hk : k = t
    · subst hk; simp [hlt] at hz; exact .inl ⟨rfl, hz.symm⟩
    · have hk' : ¬ t = k := fun e => hk e.symm
      simp [hk'] at hz; exact .inr ⟨hk, hz⟩
  have hvar : ∀ n, b.var n = a.var n := fun n => by unfold AS.var; rw [hb2]
  refine ⟨by rw [hb1]; exact h.clen, by rw [hb1]; exact h.clo, h.klen, h.knd, by rw [hb2]; exact h.klt, ?_, fun k z w hz hw => ?_, fun k i n z hq hz => ?_, fun k i k' i' n q1 q2 => h.sj k i k' i' n ((hSl _ _ _).1 q1).1 ((hSl _ _ _).1 q2).1, fun k i n q => by rw [hb2]; exact h.sl k i n ((hSl _ _ _).1 q).1, fun c z hz => ?_, fun k z hz => ?_, fun k z hz c => ?_⟩
  · show (V.ths.set t x').length = _; rw [hb3, List.length_set, List.length_set]; exact h.tlen
  · rw [hb3] at hw
    rcases hget k z hz with ⟨rfl, rfl⟩ | ⟨hk, hz⟩
    · rw [List.getElem?_set] at hw; simp [hlt'] at hw; subst hw; exact hG
    · have hk' : ¬ t = k := fun e => hk e.symm
      rw [List.getElem?_set] at hw; simp [hk'] at hw; exact h.th k z w hz hw
  · rw [hvar]
    have hq' := ((hSl _ _ _).1 hq).1
    rcases hget k z hz with ⟨rfl, rfl⟩ | ⟨hk, hz⟩
    · have hq2 : Sl z.frs y'.frs i n := by
        rw [hb3, show (V.setT k z).ths = V.ths.set k z from rfl, SlotAt.set hlt hlt', if_pos rfl] at hq
        exact hq
      rw [hst i n hq2]
      exact h.sv k i n x hq' hx
    · exact h.sv k i n z hq' hz
  · have := h.ce c z hz
    rcases hth : z.th with _ | k <;> rw [hth] at this
    · refine ⟨by rw [hvar]; exact this.1, fun k i q => ?_⟩
      have q' := (hSl _ _ _).1 q
      exact absurd ⟨trivial, fun e => by have := q'.2 e.1; omega⟩ (this.2 k i q'.1)
    · refine ⟨trivial, (hSl _ _ _).2 ⟨this.2, fun e => ?_⟩⟩
      have := this.1.2
      by_cases hlp : z.pl < p
      · exact hlp
      · exact absurd ⟨e, by omega⟩ this
  · rcases hget k z hz with ⟨rfl, rfl⟩ | ⟨hk, hz⟩
    · rw [ho]; exact h.od k x hx
    · exact h.od k z hz
  · rcases hget k z hz with ⟨rfl, rfl⟩ | ⟨hk, hz⟩
    · rw [ho]; exact h.om k x hx c
    · exact h.om k z hz c

/-- two results are pushed on the top frame. -/
def pu2 (u w : PV) : List AFr → List AFr
  | [] => []
  | g :: r => { g with ops := w :: u :: g.ops } :: r
theorem Sl.pu2 {u w : PV} : ∀ {fs : List VFr} {gs : List AFr} {i n : Nat}, Sl fs (pu2 u w gs) i n ↔ Sl fs gs i n
  | [], [], i, n => Iff.rfl
  | [], _ :: _, i, n => Iff.rfl
  | _ :: _, [], i, n => Iff.rfl
  | f :: fs, g :: gs, i, n => Iff.rfl
theorem FrG.push2 {stk : List PV} {u w : PV} {fs : List VFr} {gs : List AFr} {hi : Nat} (h : FrG stk hi fs gs) (hl : hi ≤ stk.length) (hn : gs ≠ []) : FrG (stk.take hi ++ [u, w]) (stk.take hi ++ [u, w]).length fs (pu2 u w gs) := by
  have hb : (stk.take hi).length = hi := by rw [List.length_take]; omega
  rw [show (stk.take hi ++ [u, w]).length = hi + 2 by rw [List.length_append, hb]; rfl]
  match fs, gs, h with
  | [], [], _ => exact absurd rfl hn
  | f :: fs, g :: gs, ⟨h1, h2, h3, h4, h5⟩ =>
    refine ⟨h1, by show f.base + g.slots.length + (g.ops.length + 1 + 1) = _; omega, fun i v hv => ?_, h4, h5.congr fun i hi' hns => ?_⟩
    · show (stk.take hi ++ [u, w])[f.base + g.slots.length + i]? = some v
      have hv : (w :: u :: g.ops).reverse[i]? = some v := hv
      rw [show (w :: u :: g.ops).reverse = g.ops.reverse ++ [u, w] by simp] at hv
      by_cases hil : i < g.ops.length
      · rw [List.getElem?_append_left (by rw [List.length_reverse]; exact hil)] at hv
        rw [List.getElem?_append_left (by rw [hb]; omega), List.getElem?_take, if_pos (by omega)]
        exact h3 i v hv
      · rw [List.getElem?_append_right (by rw [List.length_reverse]; omega), List.length_reverse] at hv
        rw [List.getElem?_append_right (by rw [hb]; omega), hb, show f.base + g.slots.length + i - hi = i - g.ops.length by omega]
        exact hv
    · rw [List.getElem?_append_left (by rw [hb]; omega), List.getElem?_take, if_pos (by omega)]
/-- the first protected frame that is not the last. -/
def vunw : List VFr → Option (VFr × List VFr)
  | [] => none
  | f :: r => if f.prot ∧ r ≠ [] then some (f, r) else vunw r
theorem unw_rel {stk : List PV} : ∀ {fs : List VFr} {gs : List AFr} {hi : Nat}, FrG stk hi fs gs →
    (vunw fs = none ∧ unwL gs = none) ∨ ∃ f fr r, vunw fs = some (f, fr) ∧ unwL gs = some r ∧ FrG stk f.ret fr r ∧ r ≠ [] ∧ f.ret ≤ f.base ∧ f.base ≤ hi ∧ ∀ i n, Sl fr r i n ↔ Sl fs gs i n ∧ i < f.base
  | [], [], hi, h => .inl ⟨rfl, rfl⟩
  | [], _ :: _, hi, h => by cases h
  | _ :: _, [], hi, h => by cases h
  | f :: fs, g :: gs, hi, ⟨h1, h2, h3, h4, h5⟩ => by
    have hne : fs = [] ↔ gs = [] := by
      cases fs <;> cases gs <;> simp
      · exact h5
      · exact h5
    have hlow : ∀ i n, Sl fs gs i n → i < f.ret := fun i n q => Sl.lt h5 q
    unfold vunw unwL
    by_cases hp : g.prot = true ∧ gs ≠ []
    · have hp' : f.prot = true ∧ fs ≠ [] := ⟨h1.2.2.trans hp.1, fun e => hp.2 (hne.1 e)⟩
      rw [if_pos hp, if_pos hp']
      refine .inr ⟨f, fs, gs, rfl, rfl, h5, hp.2, h4, by omega, fun i n => ⟨fun q => ⟨.inr q, by have := hlow i n q; omega⟩, ?_⟩⟩
      rintro ⟨⟨q1, -⟩ | q1, q2⟩
      · omega
      · exact q1
    · have hp' : ¬ (f.prot = true ∧ fs ≠ []) := fun q => hp ⟨h1.2.2.symm.trans q.1, fun e => q.2 (hne.2 e)⟩
      rw [if_neg hp, if_neg hp']
      rcases unw_rel h5 with ⟨q1, q2⟩ | ⟨f', fr, r, q1, q2, q3, q4, q5, q6, q7⟩
      · exact .inl ⟨q1, q2⟩
      · refine .inr ⟨f', fr, r, q1, q2, q3, q4, q5, by omega, fun i n => ?_⟩
        rw [q7]
        constructor
        · rintro ⟨g1, g2⟩; exact ⟨.inr g1, g2⟩
        · rintro ⟨⟨g1, -⟩ | g1, g2⟩
          · omega
          · exact ⟨g1, g2⟩
end

end Go.Proofs.Qxb6500568aGreatDoor
