import Derived.Test.Qxb6500568aGreatDoorOj
namespace Go.Proofs.Qxb6500568aGreatDoor
open Ieee
set_option linter.unusedVariables false
set_option linter.unusedSimpArgs false
set_option linter.unusedSectionVars false

/-! New variables: a frame that comes, slots that are closed; new threads. -/

section
variable {V : VS} {a : AS} {κ : List Nat}

theorem var_app {b : AS} {vs : List PV} (hb : b.vars = a.vars ++ vs) (n : Nat) : (n < a.vars.length → b.var n = a.var n) ∧ ∀ j v, vs[j]? = some v → b.var (a.vars.length + j) = v := by
  unfold AS.var
  rw [hb]
  refine ⟨fun h => ?_, fun j v hv => ?_⟩
  · rw [List.getD_eq_getElem?_getD, List.getD_eq_getElem?_getD, List.getElem?_append_left h]
  · rw [List.getD_eq_getElem?_getD, List.getElem?_append_right (by omega), Nat.add_sub_cancel_left, hv]; rfl
/-- thread t gets new variables at the places from p on; the slots there before (of live predicate 'not') go. -/
theorem R.add {t p : Nat} {x x' : VTh} {y y' : ATh} {vs : List PV} (h : R V a κ (fun k i => AllP k i ∧ ¬ (k = t ∧ p ≤ i))) (hx : V.ths[t]? = some x) (hy : a.ths[t]? = some y) (hG : TG x' y')
    (hs : ∀ i n, Sl x'.frs y'.frs i n ↔ (Sl x.frs y.frs i n ∧ i < p) ∨ (p ≤ i ∧ i < p + vs.length ∧ n = a.vars.length + (i - p))) (ho : x'.opn = x.opn)
    (hst : ∀ i n, Sl x.frs y.frs i n → i < p → x'.stack[i]? = x.stack[i]?) (hnew : ∀ (j : Nat) v, vs[j]? = some v → x'.stack[p + j]? = some v) {b : AS} (hb1 : b.clos = a.clos) (hb2 : b.vars = a.vars ++ vs) (hb3 : b.ths = a.ths.set t y') : R (V.setT t x') b κ AllP := by
  have hlt := (List.getElem?_eq_some_iff.1 hx).1
  have hlt' := (List.getElem?_eq_some_iff.1 hy).1
  have hSl : ∀ k i n, SlotAt (V.setT t x').ths b.ths k i n ↔ (SlotAt V.ths a.ths k i n ∧ (k = t → i < p)) ∨ (k = t ∧ p ≤ i ∧ i < p + vs.length ∧ n = a.vars.length + (i - p)) := fun k i n => by
    rw [hb3, show (V.setT t x').ths = V.ths.set t x' from rfl, SlotAt.set hlt hlt']
    by_cases hk : k = t
    · subst hk
      rw [if_pos rfl, hs]
      constructor
      · rintro (⟨q1, q2⟩ | q)
        · exact .inl ⟨⟨x, y, hx, hy, q1⟩, fun _ => q2⟩
        · exact .inr ⟨rfl, q⟩
      · rintro (⟨⟨x1, y1, q1, q2, q3⟩, q4⟩ | ⟨-, q⟩)
        · rw [hx] at q1; rw [hy] at q2; injection q1 with q1; injection q2 with q2; subst q1; subst q2; exact .inl ⟨q3, q4 rfl⟩
        · exact .inr q
    · rw [if_neg hk]
      constructor
      · exact fun q => .inl ⟨q, fun e => absurd e hk⟩
      · rintro (q | q)
        · exact q.1
        · exact absurd q.1 hk
  have hget : ∀ k z, (V.setT t x').ths[k]? = some z → (k = t ∧ z = x') ∨ (k ≠ t ∧ V.ths[k]? = some z) := fun k z hz => by
    have hz : (V.ths.set t x')[k]? = some z := hz
    rw [List.getElem?_set] at hz
    by_cases hk : k = t
    · subst hk; simp [hlt] at hz; exact .inl ⟨rfl, hz.symm⟩
    · have hk' : ¬ t = k := fun e => hk e.symm
      simp [hk'] at hz; exact .inr ⟨hk, hz⟩
  have hold : ∀ n, n < a.vars.length → b.var n = a.var n := fun n => (var_app hb2 n).1
  have hlen : b.vars.length = a.vars.length + vs.length := by rw [hb2, List.length_append]
  refine ⟨by rw [hb1]; exact h.clen, by rw [hb1]; exact h.clo, h.klen, h.knd, fun n hn => by have := h.klt n hn; omega, ?_, fun k z w hz hw => ?_, fun k i n z hq hz => ?_, fun k i k' i' n q1 q2 => ?_, fun k i n q => ?_, fun c z hz => ?_, fun k z hz => ?_, fun k z hz c => ?_⟩
  · show (V.ths.set t x').length = _; rw [hb3, List.length_set, List.length_set]; exact h.tlen
  · rw [hb3] at hw
    rcases hget k z hz with ⟨rfl, rfl⟩ | ⟨hk, hz⟩
    · rw [List.getElem?_set] at hw; simp [hlt'] at hw; subst hw; exact hG
    · have hk' : ¬ t = k := fun e => hk e.symm
      rw [List.getElem?_set] at hw; simp [hk'] at hw; exact h.th k z w hz hw
  · rcases (hSl _ _ _).1 hq with ⟨q1, q2⟩ | ⟨rfl, q2, q3, q4⟩
    · rw [hold n (h.sl k i n q1)]
      rcases hget k z hz with ⟨rfl, rfl⟩ | ⟨hk, hz⟩
      · obtain ⟨x1, y1, g1, g2, g3⟩ := q1
        rw [hx] at g1; rw [hy] at g2; injection g1 with g1; injection g2 with g2; subst g1; subst g2
        rw [hst i n g3 (q2 rfl)]
        exact h.sv k i n _ ⟨_, _, hx, hy, g3⟩ hx
      · exact h.sv k i n z q1 hz
    · rcases hget k z hz with ⟨-, rfl⟩ | ⟨hk, -⟩
      · have hv : vs[i - p]? = some (vs[i - p]'(by omega)) := List.getElem?_eq_getElem (by omega)
        have h1 := hnew (i - p) _ hv
        rw [show p + (i - p) = i by omega] at h1
        rw [h1, q4, (var_app hb2 0).2 _ _ hv]
      · exact absurd rfl hk
  · rcases (hSl _ _ _).1 q1 with ⟨g1, -⟩ | ⟨g1, g2, g3, g4⟩ <;> rcases (hSl _ _ _).1 q2 with ⟨g5, -⟩ | ⟨g5, g6, g7, g8⟩
    · exact h.sj k i k' i' n g1 g5
    · have := h.sl _ _ _ g1; omega
    · have := h.sl _ _ _ g5; omega
    · exact ⟨g1.trans g5.symm, by omega⟩
  · rcases (hSl _ _ _).1 q with ⟨g1, -⟩ | ⟨g1, g2, g3, g4⟩
    · have := h.sl _ _ _ g1; omega
    · omega
  · have hcl : c < V.cells.length := (List.getElem?_eq_some_iff.1 hz).1
    have hk := h.kv hcl
    have := h.ce c z hz
    rcases hth : z.th with _ | k <;> rw [hth] at this
    · refine ⟨by rw [hold _ hk]; exact this.1, fun k i q => ?_⟩
      rcases (hSl _ _ _).1 q with ⟨g1, g2⟩ | ⟨g1, g2, g3, g4⟩
      · exact absurd ⟨trivial, fun e => by have := g2 e.1; omega⟩ (this.2 k i g1)
      · omega
    · refine ⟨trivial, (hSl _ _ _).2 (.inl ⟨this.2, fun e => ?_⟩)⟩
      have := this.1.2
      by_cases hlp : z.pl < p
      · exact hlp
      · exact absurd ⟨e, by omega⟩ this
  · rcases hget k z hz with ⟨rfl, rfl⟩ | ⟨hk, hz⟩
    · rw [ho]; exact h.od k x hx
    · exact h.od k z hz
  · rcases hget k z hz with ⟨rfl, rfl⟩ | ⟨hk, hz⟩
    · rw [ho]; exact h.om k x hx c
    · exact h.om k z hz c
/-- no slot lies at or above p: nothing goes. -/
theorem R.hi (h : R V a κ AllP) {t p : Nat} {x : VTh} {y : ATh} (hx : V.ths[t]? = some x) (hy : a.ths[t]? = some y) (hp : ∀ i n, Sl x.frs y.frs i n → i < p) : R V a κ (fun k i => AllP k i ∧ ¬ (k = t ∧ p ≤ i)) := by
  refine ⟨h.clen, h.clo, h.klen, h.knd, h.klt, h.tlen, h.th, h.sv, h.sj, h.sl, fun c z hz => ?_, h.od, h.om⟩
  have := h.ce c z hz
  rcases hth : z.th with _ | k <;> rw [hth] at this
  · exact ⟨this.1, fun k i q _ => this.2 k i q trivial⟩
  · refine ⟨⟨trivial, ?_⟩, this.2⟩
    rintro ⟨rfl, q⟩
    obtain ⟨x1, y1, g1, g2, g3⟩ := this.2
    rw [hx] at g1; rw [hy] at g2; injection g1 with g1; injection g2 with g2; subst g1; subst g2
    have := hp _ _ g3; omega
/-- a new thread. -/
theorem R.spawn (h : R V a κ AllP) (n : Nat) : R { V with ths := V.ths ++ [⟨1, n, [], [], []⟩] } { a with ths := a.ths ++ [⟨1, n, []⟩] } κ AllP := by
  have hget : ∀ k z, (V.ths ++ [(⟨1, n, [], [], []⟩ : VTh)])[k]? = some z → (k < V.ths.length ∧ V.ths[k]? = some z) ∨ (k = V.ths.length ∧ z = ⟨1, n, [], [], []⟩) := fun k z hz => by
    by_cases hk : k < V.ths.length
    · rw [List.getElem?_append_left hk] at hz; exact .inl ⟨hk, hz⟩
    · rw [List.getElem?_append_right (by omega)] at hz
      rcases hd : k - V.ths.length with _ | d
      · rw [hd] at hz; simp at hz; exact .inr ⟨by omega, hz.symm⟩
      · rw [hd] at hz; simp at hz
  have hSl : ∀ k i m, SlotAt (V.ths ++ [(⟨1, n, [], [], []⟩ : VTh)]) (a.ths ++ [(⟨1, n, []⟩ : ATh)]) k i m ↔ SlotAt V.ths a.ths k i m := fun k i m => by
    constructor
    · rintro ⟨x1, y1, g1, g2, g3⟩
      rcases hget k x1 g1 with ⟨hk, g1⟩ | ⟨hk, rfl⟩
      · rw [List.getElem?_append_left (by rw [← h.tlen]; exact hk)] at g2
        exact ⟨x1, y1, g1, g2, g3⟩
      · cases g3
    · rintro ⟨x1, y1, g1, g2, g3⟩
      exact ⟨x1, y1, by rw [List.getElem?_append_left (List.getElem?_eq_some_iff.1 g1).1]; exact g1, by rw [List.getElem?_append_left (List.getElem?_eq_some_iff.1 g2).1]; exact g2, g3⟩
  refine ⟨h.clen, h.clo, h.klen, h.knd, h.klt, ?_, fun k z w hz hw => ?_, fun k i m z hq hz => ?_, fun k i k' i' m q1 q2 => h.sj k i k' i' m ((hSl _ _ _).1 q1) ((hSl _ _ _).1 q2), fun k i m q => h.sl k i m ((hSl _ _ _).1 q), fun c z hz => ?_, fun k z hz => ?_, fun k z hz c => ?_⟩
  · show (V.ths ++ [_]).length = (a.ths ++ [_]).length; simp [h.tlen]
  · have hw : (a.ths ++ [_])[k]? = some w := hw
    rcases hget k z hz with ⟨hk, hz⟩ | ⟨hk, rfl⟩
    · rw [List.getElem?_append_left (by rw [← h.tlen]; exact hk)] at hw
      exact h.th k z w hz hw
    · subst hk
      rw [h.tlen] at hw
      simp at hw; subst hw
      exact ⟨rfl, rfl, rfl⟩
  · have hq' := (hSl _ _ _).1 hq
    rcases hget k z hz with ⟨hk, hz⟩ | ⟨hk, rfl⟩
    · exact h.sv k i m z hq' hz
    · obtain ⟨x1, y1, g1, g2, g3⟩ := hq'
      have := (List.getElem?_eq_some_iff.1 g1).1; omega
  · have := h.ce c z hz
    rcases hth : z.th with _ | k <;> rw [hth] at this
    · exact ⟨this.1, fun k i q => this.2 k i ((hSl _ _ _).1 q)⟩
    · exact ⟨this.1, (hSl _ _ _).2 this.2⟩
  · rcases hget k z hz with ⟨hk, hz⟩ | ⟨hk, rfl⟩
    · exact h.od k z hz
    · exact List.Pairwise.nil
  · rcases hget k z hz with ⟨hk, hz⟩ | ⟨hk, rfl⟩
    · exact h.om k z hz c
    · constructor
      · intro q; cases q
      · rintro ⟨w, g1, g2⟩
        have := h.ce c w g1
        rw [g2] at this
        obtain ⟨x1, y1, g3, g4, g5⟩ := this.2
        have := (List.getElem?_eq_some_iff.1 g3).1; omega
end

end Go.Proofs.Qxb6500568aGreatDoor
