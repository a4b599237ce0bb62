import Derived.Test.Qxb6500568aGreatDoorOh
namespace Go.Proofs.Qxb6500568aGreatDoor
open Ieee
set_option linter.unusedVariables false
set_option linter.unusedSimpArgs false
set_option linter.unusedSectionVars false

/-! Cells are closed. -/

/-- the open cells at or above place p are closed. -/
def closeL (stk : List PV) (p : Nat) : List Nat → List VCell → List VCell × List Nat
  | [], cs => (cs, [])
  | c :: r, cs => if plC cs c < p then (cs, c :: r) else closeL stk p r (cs.set c ⟨none, 0, stk.getD (plC cs c) vNil⟩)
theorem plC_set {cs : List VCell} {c d : Nat} {x : VCell} (h : d ≠ c) : plC (cs.set c x) d = plC cs d := by
  unfold plC
  have : ¬ c = d := fun e => h e.symm
  rw [List.getD_eq_getElem?_getD, List.getD_eq_getElem?_getD, List.getElem?_set]; simp [this]
theorem closeL_ok {stk : List PV} {p : Nat} : ∀ {l : List Nat} {cs : List VCell}, l.Pairwise (fun c d => plC cs d < plC cs c) → (∀ c ∈ l, c < cs.length) →
    (∀ d, (closeL stk p l cs).1[d]? = if d ∈ l ∧ p ≤ plC cs d then some ⟨none, 0, stk.getD (plC cs d) vNil⟩ else cs[d]?) ∧ (∀ d, d ∈ (closeL stk p l cs).2 ↔ d ∈ l ∧ plC cs d < p) ∧ (closeL stk p l cs).2.Sublist l ∧ (closeL stk p l cs).1.length = cs.length
  | [], cs, _, _ => ⟨(fun d => by simp [closeL]), (fun d => by simp [closeL]), by simp [closeL], rfl⟩
  | c :: r, cs, hp, hl => by
    rw [List.pairwise_cons] at hp
    unfold closeL
    by_cases h1 : plC cs c < p
    · rw [if_pos h1]
      refine ⟨fun d => ?_, fun d => ?_, List.Sublist.refl _, rfl⟩
      · rw [if_neg]
        rintro ⟨h2, h3⟩
        rcases List.mem_cons.1 h2 with rfl | h2
        · omega
        · have := hp.1 d h2; omega
      · constructor
        · intro h2
          refine ⟨h2, ?_⟩
          rcases List.mem_cons.1 h2 with rfl | h2
          · exact h1
          · have := hp.1 d h2; omega
        · exact fun h2 => h2.1
    · rw [if_neg h1]
      have hne : ∀ d ∈ r, d ≠ c := fun d hd e => by have := hp.1 d hd; rw [e] at this; omega
      have hcl := hl c List.mem_cons_self
      obtain ⟨a1, a2, a3, a4⟩ := closeL_ok (stk := stk) (p := p) (l := r) (cs := cs.set c ⟨none, 0, stk.getD (plC cs c) vNil⟩)
        (hp.2.imp_of_mem fun {u w} hu hw q => by rw [plC_set (hne u hu), plC_set (hne w hw)]; exact q) (fun d hd => by rw [List.length_set]; exact hl d (List.mem_cons_of_mem _ hd))
      refine ⟨fun d => ?_, fun d => ?_, a3.trans (List.sublist_cons_self _ _), by rw [a4, List.length_set]⟩
      · rw [a1]
        by_cases hd : d = c
        · subst hd
          rw [if_neg (fun q => hne d q.1 rfl), if_pos ⟨List.mem_cons_self, by omega⟩, List.getElem?_set]
          simp [hcl]
        · have hd' : ¬ c = d := fun e => hd e.symm
          rw [plC_set hd, List.getElem?_set]
          simp only [hd', if_false, List.mem_cons, hd, false_or]
      · rw [a2]
        constructor
        · rintro ⟨h2, h3⟩
          rw [plC_set (hne d h2)] at h3
          exact ⟨List.mem_cons_of_mem _ h2, h3⟩
        · rintro ⟨h2, h3⟩
          rcases List.mem_cons.1 h2 with rfl | h2
          · omega
          · exact ⟨h2, by rw [plC_set (hne d h2)]; exact h3⟩
def closeV (V : VS) (t p : Nat) : VS :=
  let x := V.ths.getD t VTh.zero
  { V with cells := (closeL x.stack p x.opn V.cells).1, ths := V.ths.set t { x with opn := (closeL x.stack p x.opn V.cells).2 } }

section
variable {V : VS} {a : AS} {κ : List Nat} {P : Nat → Nat → Prop}
theorem R.close (h : R V a κ P) {t p : Nat} {x : VTh} (hx : V.ths[t]? = some x) : R (closeV V t p) a κ (fun k i => P k i ∧ ¬ (k = t ∧ p ≤ i)) := by
  have hlt := (List.getElem?_eq_some_iff.1 hx).1
  have hxD : V.ths.getD t VTh.zero = x := by rw [List.getD_eq_getElem?_getD, hx]; rfl
  have hol : ∀ (k : Nat) (z : VTh), V.ths[k]? = some z → ∀ c ∈ z.opn, c < V.cells.length := fun k z hz c hc => by
    obtain ⟨w, hw, -⟩ := (h.om k z hz c).1 hc
    exact (List.getElem?_eq_some_iff.1 hw).1
  obtain ⟨c1, c2, c3, c4⟩ := closeL_ok (stk := x.stack) (p := p) (h.od t x hx) (hol t x hx)
  unfold closeV
  rw [hxD]
  dsimp only
  have hget : ∀ k z, (V.ths.set t { x with opn := (closeL x.stack p x.opn V.cells).2 })[k]? = some z → (k = t ∧ z = { x with opn := (closeL x.stack p x.opn V.cells).2 }) ∨ (k ≠ t ∧ V.ths[k]? = some z) := fun k z hz => by
    rw [List.getElem?_set] at hz
    by_cases hk : k = t
    · subst hk; simp [hlt] at hz; exact .inl ⟨rfl, hz.symm⟩
    · have hk' : ¬ t = k := fun e => hk e.symm
      simp [hk'] at hz; exact .inr ⟨hk, hz⟩
  have hSl : ∀ k i m, SlotAt (V.ths.set t { x with opn := (closeL x.stack p x.opn V.cells).2 }) a.ths k i m ↔ SlotAt V.ths a.ths k i m := fun k i m => by
    constructor
    · rintro ⟨x1, y1, r1, r2, r3⟩
      rcases hget k x1 r1 with ⟨rfl, rfl⟩ | ⟨hk, r1⟩
      · exact ⟨x, y1, hx, r2, r3⟩
      · exact ⟨x1, y1, r1, r2, r3⟩
    · rintro ⟨x1, y1, r1, r2, r3⟩
      by_cases hk : k = t
      · subst hk
        rw [hx] at r1; injection r1 with r1; subst r1
        exact ⟨{ x with opn := (closeL x.stack p x.opn V.cells).2 }, y1, by rw [List.getElem?_set, if_pos rfl, if_pos hlt], r2, r3⟩
      · have hk' : ¬ t = k := fun e => hk e.symm
        exact ⟨x1, y1, by rw [List.getElem?_set]; simp [hk', r1], r2, r3⟩
  have hplE : ∀ d z, V.cells[d]? = some z → plC V.cells d = z.pl := fun d z hz => by unfold plC; rw [List.getD_eq_getElem?_getD, hz]; rfl
  have hkeep : ∀ d, ¬ (d ∈ x.opn ∧ p ≤ plC V.cells d) → ((closeL x.stack p x.opn V.cells).1.getD d VCell.zero).pl = (V.cells.getD d VCell.zero).pl := fun d hd => by
    rw [List.getD_eq_getElem?_getD, c1, if_neg hd, ← List.getD_eq_getElem?_getD]
  refine ⟨h.clen, fun c q cs hc => ?_, ?_, h.knd, h.klt, ?_, fun k z w hz hw => ?_, fun k i m z hq hz => ?_, fun k i k' i' m r1 r2 => h.sj k i k' i' m ((hSl _ _ _).1 r1) ((hSl _ _ _).1 r2), fun k i m r => h.sl k i m ((hSl _ _ _).1 r), fun c z hz => ?_, fun k z hz => ?_, fun k z hz c => ?_⟩
  · have := h.clo c q cs hc
    exact ⟨this.1, fun k hk => by show k < List.length (closeL _ _ _ _).1; rw [c4]; exact this.2 k hk⟩
  · show _ = List.length (closeL _ _ _ _).1; rw [c4]; exact h.klen
  · show (V.ths.set t _).length = _; rw [List.length_set]; exact h.tlen
  · rcases hget k z hz with ⟨rfl, rfl⟩ | ⟨hk, hz⟩
    · exact h.th k x w hx hw
    · exact h.th k z w hz hw
  · have hq' := (hSl _ _ _).1 hq
    rcases hget k z hz with ⟨rfl, rfl⟩ | ⟨hk, hz⟩
    · exact h.sv k i m x hq' hx
    · exact h.sv k i m z hq' hz
  · have hz2 : (closeL x.stack p x.opn V.cells).1[c]? = some z := hz
    rw [c1] at hz2
    clear hz
    by_cases hd : c ∈ x.opn ∧ p ≤ plC V.cells c
    · rw [if_pos hd] at hz2
      injection hz2 with hz2; subst hz2
      obtain ⟨w, hw, hwt⟩ := (h.om t x hx c).1 hd.1
      have hc := h.ce c w hw
      rw [hwt] at hc
      have hpl := hplE c w hw
      refine ⟨?_, fun k i r => ?_⟩
      · show x.stack.getD (plC V.cells c) vNil = _
        rw [hpl, List.getD_eq_getElem?_getD, h.sv t w.pl _ x hc.2 hx]; rfl
      · obtain ⟨e1, e2⟩ := h.sj _ _ _ _ _ ((hSl _ _ _).1 r) hc.2
        rintro ⟨-, q⟩
        exact q ⟨e1, by rw [e2, ← hpl]; exact hd.2⟩
    · rw [if_neg hd] at hz2
      have := h.ce c z hz2
      rcases hth : z.th with _ | k <;> rw [hth] at this
      · exact ⟨this.1, fun k i r q => this.2 k i ((hSl _ _ _).1 r) q.1⟩
      · refine ⟨⟨this.1, ?_⟩, (hSl _ _ _).2 this.2⟩
        rintro ⟨rfl, q⟩
        exact hd ⟨(h.om k x hx c).2 ⟨z, hz2, hth⟩, by rw [hplE c z hz2]; exact q⟩
  · rcases hget k z hz with ⟨rfl, rfl⟩ | ⟨hk, hz⟩
    · show (closeL x.stack p x.opn V.cells).2.Pairwise _
      refine ((h.od k x hx).sublist c3).imp_of_mem fun {u w} hu hw r => ?_
      show ((closeL _ _ _ _).1.getD w VCell.zero).pl < ((closeL _ _ _ _).1.getD u VCell.zero).pl
      have h1 := (c2 u).1 hu
      have h2 := (c2 w).1 hw
      rw [hkeep u (fun q => by have := q.2; omega), hkeep w (fun q => by have := q.2; omega)]; exact r
    · refine (h.od k z hz).imp_of_mem fun {u w} hu hw r => ?_
      have hno : ∀ c ∈ z.opn, ¬ (c ∈ x.opn ∧ p ≤ plC V.cells c) := fun c hc q => by
        obtain ⟨y1, g1, g2⟩ := (h.om k z hz c).1 hc
        obtain ⟨y2, g3, g4⟩ := (h.om t x hx c).1 q.1
        rw [g1] at g3; injection g3 with g3; subst g3
        rw [g2] at g4; injection g4 with g4
        exact hk g4
      show ((closeL _ _ _ _).1.getD w VCell.zero).pl < ((closeL _ _ _ _).1.getD u VCell.zero).pl
      rw [hkeep u (hno u hu), hkeep w (hno w hw)]; exact r
  · show c ∈ z.opn ↔ ∃ y, (closeL x.stack p x.opn V.cells).1[c]? = some y ∧ y.th = some k
    have hE : (∃ y, (closeL x.stack p x.opn V.cells).1[c]? = some y ∧ y.th = some k) ↔ ¬ (c ∈ x.opn ∧ p ≤ plC V.cells c) ∧ ∃ y, V.cells[c]? = some y ∧ y.th = some k := by
      rw [c1]
      by_cases hd : c ∈ x.opn ∧ p ≤ plC V.cells c
      · rw [if_pos hd]
        constructor
        · rintro ⟨y, g1, g2⟩
          injection g1 with g1; subst g1; cases g2
        · exact fun q => absurd hd q.1
      · rw [if_neg hd]
        exact ⟨fun q => ⟨hd, q⟩, fun q => q.2⟩
    rw [hE]
    rcases hget k z hz with ⟨rfl, rfl⟩ | ⟨hk, hz⟩
    · show c ∈ (closeL x.stack p x.opn V.cells).2 ↔ _
      rw [c2, h.om k x hx c]
      constructor
      · rintro ⟨g1, g2⟩
        exact ⟨fun q => by have := q.2; omega, g1⟩
      · rintro ⟨g1, g2⟩
        refine ⟨g2, ?_⟩
        by_cases hlt : plC V.cells c < p
        · exact hlt
        · exact absurd ⟨g2, by omega⟩ g1
    · rw [h.om k z hz c]
      refine ⟨fun g => ⟨fun q => ?_, g⟩, fun g => g.2⟩
      obtain ⟨y1, g1, g2⟩ := g
      obtain ⟨y2, g3, g4⟩ := (h.om t x hx c).1 q.1
      rw [g1] at g3; injection g3 with g3; subst g3
      rw [g2] at g4; injection g4 with g4
      exact hk g4
end

end Go.Proofs.Qxb6500568aGreatDoor
