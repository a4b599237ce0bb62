import Derived.Test.Qxb6500568aGreatDoorOe
namespace Go.Proofs.Qxb6500568aGreatDoor
open Ieee
set_option linter.unusedVariables false
set_option linter.unusedSimpArgs false
set_option linter.unusedSectionVars false

/-! The stack machine: one stack a thread, frames as windows of it, cells for captured variables; against the variable machine. -/

structure VFr where
  clo : Nat
  pc : Nat
  base : Nat
  ret : Nat
  prot : Bool
/-- frs: the top first; opn: the open cells, the highest place first. -/
structure VTh where
  st : Nat
  fn : Nat
  stack : List PV
  frs : List VFr
  opn : List Nat
structure VCell where
  th : Option Nat
  pl : Nat
  v : PV
structure VS where
  clos : List (Nat × List Nat)
  cells : List VCell
  ths : List VTh
def VCell.zero : VCell := ⟨none, 0, vNil⟩
def VTh.zero : VTh := ⟨0, 0, [], [], []⟩

/-- place i of the stack is a slot: variable n. -/
def Sl : List VFr → List AFr → Nat → Nat → Prop
  | f :: fs, g :: gs, i, n => (f.base ≤ i ∧ g.slots[i - f.base]? = some n) ∨ Sl fs gs i n
  | _, _, _, _ => False
/-- the frames are windows of the stack; hi: where the top frame's operands end. -/
def FrG (stk : List PV) : Nat → List VFr → List AFr → Prop
  | hi, [], [] => hi = 0
  | hi, f :: fs, g :: gs => (f.clo = g.clo ∧ f.pc = g.pc ∧ f.prot = g.prot) ∧ f.base + g.slots.length + g.ops.length = hi ∧ (∀ (i : Nat) v, g.ops.reverse[i]? = some v → stk[f.base + g.slots.length + i]? = some v) ∧ f.ret ≤ f.base ∧ FrG stk f.ret fs gs
  | _, _, _ => False
def TG (x : VTh) (y : ATh) : Prop := x.st = y.st ∧ x.fn = y.fn ∧ FrG x.stack x.stack.length x.frs y.frs
def SlotAt (V : List VTh) (A : List ATh) (t i n : Nat) : Prop := ∃ x y, V[t]? = some x ∧ A[t]? = some y ∧ Sl x.frs y.frs i n

structure R (V : VS) (a : AS) (κ : List Nat) (P : Nat → Nat → Prop) : Prop where
  clen : V.clos.length = a.clos.length
  clo : ∀ (c : Nat) p cs, V.clos[c]? = some (p, cs) → a.clos[c]? = some (p, cs.map fun k => κ.getD k 0) ∧ ∀ k ∈ cs, k < V.cells.length
  klen : κ.length = V.cells.length
  knd : κ.Nodup
  klt : ∀ n ∈ κ, n < a.vars.length
  tlen : V.ths.length = a.ths.length
  th : ∀ (t : Nat) x y, V.ths[t]? = some x → a.ths[t]? = some y → TG x y
  sv : ∀ t i n x, SlotAt V.ths a.ths t i n → V.ths[t]? = some x → x.stack[i]? = some (a.var n)
  sj : ∀ t i t' i' n, SlotAt V.ths a.ths t i n → SlotAt V.ths a.ths t' i' n → t = t' ∧ i = i'
  sl : ∀ t i n, SlotAt V.ths a.ths t i n → n < a.vars.length
  ce : ∀ (c : Nat) x, V.cells[c]? = some x → match x.th with
    | some t => P t x.pl ∧ SlotAt V.ths a.ths t x.pl (κ.getD c 0)
    | none => x.v = a.var (κ.getD c 0) ∧ ∀ t i, SlotAt V.ths a.ths t i (κ.getD c 0) → ¬ P t i
  od : ∀ (t : Nat) x, V.ths[t]? = some x → x.opn.Pairwise fun c d => (V.cells.getD d VCell.zero).pl < (V.cells.getD c VCell.zero).pl
  om : ∀ (t : Nat) x, V.ths[t]? = some x → ∀ c, c ∈ x.opn ↔ ∃ y, V.cells[c]? = some y ∧ y.th = some t

section
variable {stk : List PV}
theorem Sl.lt : ∀ {fs : List VFr} {gs : List AFr} {hi i n : Nat}, FrG stk hi fs gs → Sl fs gs i n → i < hi
  | [], [], hi, i, n, _, h => by cases h
  | [], _ :: _, hi, i, n, h, _ => by cases h
  | _ :: _, [], hi, i, n, h, _ => by cases h
  | f :: fs, g :: gs, hi, i, n, ⟨h1, h2, h3, h4, h5⟩, h => by
    rcases h with ⟨h6, h7⟩ | h
    · have := (List.getElem?_eq_some_iff.1 h7).1
      omega
    · have := Sl.lt h5 h; omega
theorem Sl.fun : ∀ {fs : List VFr} {gs : List AFr} {hi i n m : Nat}, FrG stk hi fs gs → Sl fs gs i n → Sl fs gs i m → n = m
  | [], [], hi, i, n, m, _, h, _ => by cases h
  | [], _ :: _, hi, i, n, m, h, _, _ => by cases h
  | _ :: _, [], hi, i, n, m, h, _, _ => by cases h
  | f :: fs, g :: gs, hi, i, n, m, ⟨h1, h2, h3, h4, h5⟩, h, k => by
    rcases h with ⟨h6, h7⟩ | h <;> rcases k with ⟨k6, k7⟩ | k
    · rw [h7] at k7; injection k7
    · have := Sl.lt h5 k; omega
    · have := Sl.lt h5 h; omega
    · exact Sl.fun h5 h k
/-- the top frame's operands are the stack's end. -/
theorem FrG.top {f : VFr} {fs : List VFr} {g : AFr} {gs : List AFr} (h : FrG stk stk.length (f :: fs) (g :: gs)) : stk = stk.take (f.base + g.slots.length) ++ g.ops.reverse := by
  obtain ⟨h1, h2, h3, h4, h5⟩ := h
  refine List.ext_getElem? fun i => ?_
  by_cases hi : i < f.base + g.slots.length
  · rw [List.getElem?_append_left (by rw [List.length_take]; omega), List.getElem?_take, if_pos hi]
  · rw [List.getElem?_append_right (by rw [List.length_take]; omega), List.length_take, Nat.min_eq_left (by omega)]
    rcases hq : g.ops.reverse[i - (f.base + g.slots.length)]? with _ | v
    · rw [List.getElem?_eq_none_iff, List.length_reverse] at hq
      exact List.getElem?_eq_none (by omega)
    · have := h3 _ v hq
      rwa [show f.base + g.slots.length + (i - (f.base + g.slots.length)) = i by omega] at this
/-- frames below a height do not see what lies above. -/
theorem FrG.congr {stk' : List PV} : ∀ {fs : List VFr} {gs : List AFr} {hi : Nat}, FrG stk hi fs gs → (∀ i, i < hi → (∀ n, ¬ Sl fs gs i n) → stk'[i]? = stk[i]?) → FrG stk' hi fs gs
  | [], [], hi, h, _ => h
  | [], _ :: _, hi, h, _ => by cases h
  | _ :: _, [], hi, h, _ => by cases h
  | f :: fs, g :: gs, hi, ⟨h1, h2, h3, h4, h5⟩, e => by
    refine ⟨h1, h2, fun i v hv => ?_, h4, FrG.congr h5 fun i hi' hn => ?_⟩
    · have hl := (List.getElem?_eq_some_iff.1 hv).1
      rw [List.length_reverse] at hl
      rw [e _ (by omega)]
      · exact h3 i v hv
      · intro n hs
        rcases hs with ⟨h6, h7⟩ | hs
        · have := (List.getElem?_eq_some_iff.1 h7).1; omega
        · have := Sl.lt h5 hs; omega
    · refine e i (by omega) fun n hs => ?_
      rcases hs with ⟨h6, h7⟩ | hs
      · omega
      · exact hn n hs
end

section
variable {V : VS} {a : AS} {κ : List Nat} {P : Nat → Nat → Prop}
/-- V with thread t changed. -/
def VS.setT (V : VS) (t : Nat) (x : VTh) : VS := { V with ths := V.ths.set t x }
theorem SlotAt.set {T : List VTh} {A : List ATh} {t : Nat} {x : VTh} {y : ATh} (ht : t < T.length) (ht' : t < A.length) (k i n : Nat) : SlotAt (T.set t x) (A.set t y) k i n ↔ if k = t then Sl x.frs y.frs i n else SlotAt T A k i n := by
  unfold SlotAt
  simp only [List.getElem?_set]
  by_cases hk : k = t
  · subst hk
    simp [ht, ht']
  · have : ¬ t = k := fun e => hk e.symm
    simp [hk, this]
/-- a thread's frames and operands turn, its slots stay. -/
theorem R.thr (h : R V a κ P) {t : Nat} {x x' : VTh} {y y' : ATh} (hx : V.ths[t]? = some x) (hy : a.ths[t]? = some y) (hG : TG x' y') (hs : ∀ i n, Sl x'.frs y'.frs i n ↔ Sl x.frs y.frs i n) (ho : x'.opn = x.opn)
    (hst : ∀ i n, Sl x.frs y.frs i n → x'.stack[i]? = x.stack[i]?) {b : AS} (hb1 : b.clos = a.clos) (hb2 : b.vars = a.vars) (hb3 : b.ths = a.ths.set t y') : R (V.setT t x') b κ P := by
  have hlt := (List.getElem?_eq_some_iff.1 hx).1
  have hlt' := (List.getElem?_eq_some_iff.1 hy).1
  have hSl : ∀ k i n, SlotAt (V.setT t x').ths b.ths k i n ↔ SlotAt V.ths a.ths k i n := fun k i n => by
    rw [hb3, show (V.setT t x').ths = V.ths.set t x' from rfl, SlotAt.set hlt hlt']
    by_cases hk : k = t
    · subst hk
      rw [if_pos rfl, hs]
      exact ⟨fun q => ⟨x, y, hx, hy, q⟩, fun ⟨x1, y1, q1, q2, q3⟩ => by rw [hx] at q1; rw [hy] at q2; injection q1 with q1; injection q2 with q2; subst q1; subst q2; exact q3⟩
    · rw [if_neg hk]
  have hget : ∀ k z, (V.setT t x').ths[k]? = some z → (k = t ∧ z = x') ∨ (k ≠ t ∧ V.ths[k]? = some z) := fun k z hz => by
    have hz : (V.ths.set t x')[k]? = some z := hz
    rw [List.getElem?_set] at hz
    by_cases hk : k = t
    · subst hk; simp [hlt] at hz; exact .inl ⟨rfl, hz.symm⟩
    · have hk' : ¬ t = k := fun e => hk e.symm
      simp [hk'] at hz; exact .inr ⟨hk, hz⟩
  have hvar : ∀ n, b.var n = a.var n := fun n => by unfold AS.var; rw [hb2]
  refine ⟨by rw [hb1]; exact h.clen, by rw [hb1]; exact h.clo, h.klen, h.knd, by rw [hb2]; exact h.klt, ?_, fun k z w hz hw => ?_, fun k i n z hq hz => ?_, fun k i k' i' n q1 q2 => h.sj k i k' i' n ((hSl _ _ _).1 q1) ((hSl _ _ _).1 q2), fun k i n q => by rw [hb2]; exact h.sl k i n ((hSl _ _ _).1 q), fun c z hz => ?_, fun k z hz => ?_, fun k z hz c => ?_⟩
  · show (V.ths.set t x').length = _; rw [hb3, List.length_set, List.length_set]; exact h.tlen
  · rw [hb3] at hw
    rcases hget k z hz with ⟨rfl, rfl⟩ | ⟨hk, hz⟩
    · rw [List.getElem?_set] at hw; simp [hlt'] at hw; subst hw; exact hG
    · have hk' : ¬ t = k := fun e => hk e.symm
      rw [List.getElem?_set] at hw; simp [hk'] at hw; exact h.th k z w hz hw
  · rw [hvar]
    have hq' := (hSl _ _ _).1 hq
    rcases hget k z hz with ⟨rfl, rfl⟩ | ⟨hk, hz⟩
    · obtain ⟨x1, y1, q1, q2, q3⟩ := hq'
      rw [hx] at q1; rw [hy] at q2; injection q1 with q1; injection q2 with q2; subst q1; subst q2
      rw [hst i n q3]
      exact h.sv k i n _ ((hSl _ _ _).1 hq) hx
    · exact h.sv k i n z hq' hz
  · have := h.ce c z hz
    rcases hth : z.th with _ | k <;> rw [hth] at this
    · exact ⟨by rw [hvar]; exact this.1, fun k i q => this.2 k i ((hSl _ _ _).1 q)⟩
    · exact ⟨this.1, (hSl _ _ _).2 this.2⟩
  · rcases hget k z hz with ⟨rfl, rfl⟩ | ⟨hk, hz⟩
    · rw [ho]; exact h.od k x hx
    · exact h.od k z hz
  · rcases hget k z hz with ⟨rfl, rfl⟩ | ⟨hk, hz⟩
    · rw [ho]; exact h.om k x hx c
    · exact h.om k z hz c
end

end Go.Proofs.Qxb6500568aGreatDoor
