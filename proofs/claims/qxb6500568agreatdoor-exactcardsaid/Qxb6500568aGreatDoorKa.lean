import Derived.Test.Qxb6500568aGreatDoorJm
/- The stack machine in memory. -/
namespace Go.Proofs.Qxb6500568aGreatDoor
open Ieee
set_option linter.unusedVariables false
set_option linter.unusedSimpArgs false
set_option linter.unusedSectionVars false

/-- where a machine lies. -/
structure VE where
  mb : Nat
  tb : Nat
  np : Value
  tp : Value
/-- a machine's lists, each as count and cells: A: its own, by field; T: a thread's, by thread and field; h: a thread's state and function. -/
structure VL where
  A : Nat → Nat × List Value
  T : Nat → Nat → Nat × List Value
  h : Nat → Value × Value
  nt : Nat
  fu : Value
  en : Value
def vmE : Nat → Nat × Nat
  | 2 => (258, 8)
  | 3 => (319, 2)
  | 4 => (119, 3)
  | 5 => (322, 2)
  | 6 => (209, 3)
  | 7 => (3, 1)
  | 8 => (413, 5)
  | 11 => (5, 1)
  | _ => (0, 0)
def thE : Nat → Nat × Nat
  | 2 => (119, 3)
  | 3 => (331, 5)
  | 4 => (3, 1)
  | _ => (0, 0)
def vmI (i : Nat) : Prop := (2 ≤ i ∧ i ≤ 8) ∨ i = 11
def thI (i : Nat) : Prop := 2 ≤ i ∧ i ≤ 4
def vmT (t : Nat) : Prop := 400 ≤ t ∧ t < 470
def mbc (E : VE) (V : Nat → Value) (L : VL) : List Value := [E.np, E.tp, V 2, V 3, V 4, V 5, V 6, V 7, V 8, .slice (some ⟨E.tb, 0, none⟩) L.nt 5, L.fu, V 11, L.en]
def thc (L : VL) (U : Nat → Nat → Value) (j : Nat) : List Value := [(L.h j).1, (L.h j).2, U j 2, U j 3, U j 4]
theorem thc_len (L : VL) (U : Nat → Nat → Value) (j : Nat) : (thc L U j).length = 5 := rfl
def up1 {α : Type} (f : Nat → α) (i : Nat) (x : α) : Nat → α := fun k => if k = i then x else f k
theorem up1_self {α : Type} (f : Nat → α) (i : Nat) (x : α) : up1 f i x i = x := if_pos rfl
theorem up1_ne {α : Type} {f : Nat → α} {i k : Nat} {x : α} (h : k ≠ i) : up1 f i x k = f k := if_neg h
/-- a machine's parts. -/
structure VOp (E : VE) (w : World) (ow : Nat → Nat) (L : VL) (V : Nat → Value) (U : Nat → Nat → Value) : Prop where
  m : Blk w.heap E.mb (mbc E V L) 89
  t : Blk w.heap E.tb (rws (thc L U) (List.range 5)) 269
  a : ∀ i, vmI i → OwT w ow (400 + i) (V i) (vmE i).1 (vmE i).2 (L.A i).1 (L.A i).2
  u : ∀ j, j < 5 → ∀ i, thI i → OwT w ow (420 + 10 * i + j) (U j i) (thE i).1 (thE i).2 (L.T j i).1 (L.T j i).2
  tm : ow E.mb = 400
  tt : ow E.tb = 409
  nt : L.nt ≤ 5
  df : ∀ b, w.heap.size ≤ b → ow b = 66
def VMV (E : VE) (w : World) (ow : Nat → Nat) (L : VL) : Prop := ∃ V U, VOp E w ow L V U
/-- the answer of a call that turns the machine. -/
def VQ (E : VE) (w : World) (ow : Nat → Nat) (L : VL) (u : World) : Prop := ∃ ow', Xt w ow ow' ∧ Fram (tg ow vmT) w u ∧ VMV E u ow' L
section
variable {E : VE} {w w' u u' : World} {ow ow' : Nat → Nat} {L L' : VL} {V V' : Nat → Value} {U U' : Nat → Nat → Value} {F : Nat → Prop}
theorem VOp.far (h : VOp E w ow L V U) (f : Fram F w w') (hn : ∀ b, vmT (ow b) → b < w.heap.size → ¬ F b) (hE : Xt w ow ow') (hd : ∀ b, w'.heap.size ≤ b → ow' b = 66) : VOp E w' ow' L V U :=
  ⟨h.m.fram f (hn _ (by rw [h.tm]; unfold vmT; omega) h.m.lt), h.t.fram f (hn _ (by rw [h.tt]; unfold vmT; omega) h.t.lt), fun i hi => (h.a i hi).far f (fun b q l => hn b (by rw [q]; unfold vmI at hi; unfold vmT; omega) l) hE, fun j hj i hi => (h.u j hj i hi).far f (fun b q l => hn b (by rw [q]; unfold thI at hi; unfold vmT; omega) l) hE, by rw [hE _ h.m.lt]; exact h.tm, by rw [hE _ h.t.lt]; exact h.tt, h.nt, hd⟩
theorem VOp.dfN (h : VOp E w ow L V U) (f : Fram F w w') : ∀ b, w'.heap.size ≤ b → ow b = 66 := fun b hb => h.df b (by have := f.size; omega)
theorem VOp.thruN (h : VOp E w ow L V U) (f : Fram none' w w') : VOp E w' ow L V U := h.far f (fun _ _ _ q => q) (Xt.refl _ _) (h.dfN f)
theorem VOp.hbput {b : Nat} (h : VOp E w ow L V U) (f : Fram (one b) w w') (ht : ow b = 66 := by assumption) : VOp E w' ow L V U :=
  h.far f (fun c q _ e => by have e : c = b := e; rw [e, ht] at q; unfold vmT at q; omega) (Xt.refl _ _) (h.dfN f)
theorem VOp.dr (h : VOp E w ow L V U) {d : Nat} : VOp E { w with drawn := d } ow L V U := h.thruN ((Fram.refl none' _).thenDrew)
theorem VMV.far (h : VMV E w ow L) (f : Fram F w w') (hn : ∀ b, vmT (ow b) → b < w.heap.size → ¬ F b) (hE : Xt w ow ow') (hd : ∀ b, w'.heap.size ≤ b → ow' b = 66) : VMV E w' ow' L := by
  obtain ⟨V, U, h⟩ := h
  exact ⟨V, U, h.far f hn hE hd⟩
theorem VMV.thruN (h : VMV E w ow L) (f : Fram none' w w') : VMV E w' ow L := by
  obtain ⟨V, U, h⟩ := h
  exact ⟨V, U, h.thruN f⟩
theorem VMV.hbput {b : Nat} (h : VMV E w ow L) (f : Fram (one b) w w') (ht : ow b = 66 := by assumption) : VMV E w' ow L := by
  obtain ⟨V, U, h⟩ := h
  exact ⟨V, U, h.hbput f ht⟩
theorem VMV.dr (h : VMV E w ow L) {d : Nat} : VMV E { w with drawn := d } ow L := h.thruN ((Fram.refl none' _).thenDrew)
/-- the machine's block turned, and its list i with it. -/
theorem VOp.fld (h : VOp E w ow L V U) {i : Nat} (hi : vmI i) {v' : Value} (hE : Xt w ow ow') (f : Fram (fun b => b = E.mb ∨ ow b = 400 + i) w u) (hB : Blk u.heap E.mb (mbc E (up1 V i v') L') 89) (hO : OwT u ow' (400 + i) v' (vmE i).1 (vmE i).2 (L'.A i).1 (L'.A i).2)
    (hA : ∀ k, k ≠ i → L'.A k = L.A k) (hT : L'.T = L.T) (hh : L'.h = L.h) (hnt : L'.nt ≤ 5) (hd : ∀ b, u.heap.size ≤ b → ow' b = 66) : VOp E u ow' L' (up1 V i v') U := by
  have htm := h.tm
  have hii : 400 + i ≠ 400 ∧ 400 + i ≠ 409 ∧ 400 + i < 420 := by unfold vmI at hi; omega
  have off : ∀ b, ow b ≠ 400 → ow b ≠ 400 + i → ¬ (b = E.mb ∨ ow b = 400 + i) := fun b q1 q2 z => z.elim (fun z => q1 (by rw [z]; exact htm)) q2
  refine ⟨hB, ?_, fun k hk => ?_, fun j hj k hk => ?_, by rw [hE _ h.m.lt]; exact htm, by rw [hE _ h.t.lt]; exact h.tt, hnt, hd⟩
  · have e : thc L' U = thc L U := by funext j; unfold thc; rw [hh]
    rw [e]
    exact h.t.fram f (off _ (by rw [h.tt]; decide) (by rw [h.tt]; omega))
  · by_cases hki : k = i
    · subst hki
      rw [up1_self]
      exact hO
    · rw [up1_ne hki, hA k hki]
      exact (h.a k hk).far f (fun b q _ => off b (by unfold vmI at hk; omega) (by omega)) hE
  · rw [hT]
    exact (h.u j hj k hk).far f (fun b q _ => off b (by unfold thI at hk; omega) (by unfold thI at hk; omega)) hE
/-- the machine's block turned alone: fuel, end, number of threads. -/
theorem VOp.own (h : VOp E w ow L V U) (f : Fram (one E.mb) w u) (hB : Blk u.heap E.mb (mbc E V L') 89) (hA : L'.A = L.A) (hT : L'.T = L.T) (hh : L'.h = L.h) (hnt : L'.nt ≤ 5) : VOp E u ow L' V U := by
  have htm := h.tm
  have off : ∀ b, ow b ≠ 400 → ¬ one E.mb b := fun b q1 z => q1 (by have z : b = E.mb := z; rw [z]; exact htm)
  refine ⟨hB, ?_, fun k hk => ?_, fun j hj k hk => ?_, htm, h.tt, hnt, h.dfN f⟩
  · have e : thc L' U = thc L U := by funext j; unfold thc; rw [hh]
    rw [e]
    exact h.t.fram f (off _ (by rw [h.tt]; decide))
  · rw [hA]
    exact (h.a k hk).far f (fun b q _ => off b (by unfold vmI at hk; omega)) (Xt.refl _ _)
  · rw [hT]
    exact (h.u j hj k hk).far f (fun b q _ => off b (by unfold thI at hk; omega)) (Xt.refl _ _)
/-- a thread's row turned, and its list i with it. -/
theorem VOp.row (h : VOp E w ow L V U) {j i : Nat} (hj : j < 5) (hi : thI i) {v' : Value} (hE : Xt w ow ow') (f : Fram (fun b => b = E.tb ∨ ow b = 420 + 10 * i + j) w u) (hB : Blk u.heap E.tb (rws (thc L' (up1 U j (up1 (U j) i v'))) (List.range 5)) 269) (hO : OwT u ow' (420 + 10 * i + j) v' (thE i).1 (thE i).2 (L'.T j i).1 (L'.T j i).2)
    (hA : L'.A = L.A) (hT : ∀ k l, (k = j → l ≠ i) → L'.T k l = L.T k l) (hnt : L'.nt = L.nt) (hfu : L'.fu = L.fu) (hen : L'.en = L.en) (hd : ∀ b, u.heap.size ≤ b → ow' b = 66) : VOp E u ow' L' V (up1 U j (up1 (U j) i v')) := by
  have htt := h.tt
  have hii : 440 ≤ 420 + 10 * i + j ∧ 420 + 10 * i + j < 470 := by unfold thI at hi; omega
  have off : ∀ b, ow b ≠ 409 → ow b ≠ 420 + 10 * i + j → ¬ (b = E.tb ∨ ow b = 420 + 10 * i + j) := fun b q1 q2 z => z.elim (fun z => q1 (by rw [z]; exact htt)) q2
  refine ⟨?_, hB, fun k hk => ?_, fun k hk l hl => ?_, by rw [hE _ h.m.lt]; exact h.tm, by rw [hE _ h.t.lt]; exact htt, by rw [hnt]; exact h.nt, hd⟩
  · have e : mbc E V L' = mbc E V L := by unfold mbc; rw [hnt, hfu, hen]
    rw [e]
    exact h.m.fram f (off _ (by rw [h.tm]; decide) (by rw [h.tm]; omega))
  · rw [hA]
    exact (h.a k hk).far f (fun b q _ => off b (by unfold vmI at hk; omega) (by unfold vmI at hk; omega)) hE
  · by_cases hkj : k = j
    · subst hkj
      rw [up1_self]
      by_cases hli : l = i
      · subst hli
        rw [up1_self]
        exact hO
      · rw [up1_ne hli, hT k l (fun _ => hli)]
        exact (h.u k hk l hl).far f (fun b q _ => off b (by unfold thI at hl; omega) (by unfold thI at hl hi; omega)) hE
    · rw [up1_ne hkj, hT k l (fun e => absurd e hkj)]
      exact (h.u k hk l hl).far f (fun b q _ => off b (by unfold thI at hl; omega) (by unfold thI at hl hi; omega)) hE
/-- a thread's row turned alone: its state, its function. -/
theorem VOp.hd (h : VOp E w ow L V U) (f : Fram (one E.tb) w u) (hB : Blk u.heap E.tb (rws (thc L' U) (List.range 5)) 269) (hA : L'.A = L.A) (hT : L'.T = L.T) (hnt : L'.nt = L.nt) (hfu : L'.fu = L.fu) (hen : L'.en = L.en) : VOp E u ow L' V U := by
  have htt := h.tt
  have off : ∀ b, ow b ≠ 409 → ¬ one E.tb b := fun b q1 z => q1 (by have z : b = E.tb := z; rw [z]; exact htt)
  refine ⟨?_, hB, fun k hk => ?_, fun j hj k hk => ?_, h.tm, htt, by rw [hnt]; exact h.nt, h.dfN f⟩
  · have e : mbc E V L' = mbc E V L := by unfold mbc; rw [hnt, hfu, hen]
    rw [e]
    exact h.m.fram f (off _ (by rw [h.tm]; decide))
  · rw [hA]
    exact (h.a k hk).far f (fun b q _ => off b (by unfold vmI at hk; omega)) (Xt.refl _ _)
  · rw [hT]
    exact (h.u j hj k hk).far f (fun b q _ => off b (by unfold thI at hk; omega)) (Xt.refl _ _)
end
end Go.Proofs.Qxb6500568aGreatDoor
