import Derived.Test.Qxb6500568aGreatDoorOg
namespace Go.Proofs.Qxb6500568aGreatDoor
open Ieee
set_option linter.unusedVariables false
set_option linter.unusedSimpArgs false
set_option linter.unusedSectionVars false

/-! Captures and new closures. -/

def plC (cs : List VCell) (c : Nat) : Nat := (cs.getD c VCell.zero).pl
/-- the cell of place pl among the open ones, or a new one put in at its place. -/
def capL (cs : List VCell) (pl new : Nat) : List Nat → Option Nat × List Nat
  | [] => (none, [new])
  | c :: r => if pl < plC cs c then ((capL cs pl new r).1, c :: (capL cs pl new r).2) else if plC cs c = pl then (some c, c :: r) else (none, new :: c :: r)
theorem capL_some {cs : List VCell} {pl new : Nat} : ∀ {l : List Nat} {c : Nat}, (capL cs pl new l).1 = some c → c ∈ l ∧ plC cs c = pl ∧ (capL cs pl new l).2 = l
  | [], c, h => by simp [capL] at h
  | d :: r, c, h => by
    unfold capL at h ⊢
    by_cases h1 : pl < plC cs d
    · rw [if_pos h1] at h ⊢
      obtain ⟨a, b, e⟩ := capL_some h
      exact ⟨List.mem_cons_of_mem _ a, b, by show d :: (capL cs pl new r).2 = _; rw [e]⟩
    · rw [if_neg h1] at h ⊢
      by_cases h2 : plC cs d = pl
      · rw [if_pos h2] at h ⊢
        injection h with h; subst h
        exact ⟨List.mem_cons_self, h2, rfl⟩
      · rw [if_neg h2] at h; cases h
theorem capL_none {cs : List VCell} {pl new : Nat} : ∀ {l : List Nat}, (capL cs pl new l).1 = none → l.Pairwise (fun c d => plC cs d < plC cs c) → (∀ c ∈ l, plC cs c ≠ pl) ∧ (∀ c, c ∈ (capL cs pl new l).2 ↔ c = new ∨ c ∈ l) ∧
    ∀ f : Nat → Nat, (∀ c ∈ l, f c = plC cs c) → f new = pl → (capL cs pl new l).2.Pairwise (fun c d => f d < f c)
  | [], h, _ => ⟨(fun c hc => by cases hc), (fun c => by simp [capL]), fun f _ _ => by simp [capL]⟩
  | d :: r, h, hp => by
    rw [List.pairwise_cons] at hp
    unfold capL at h ⊢
    by_cases h1 : pl < plC cs d
    · rw [if_pos h1] at h ⊢
      obtain ⟨a, b, e⟩ := capL_none h hp.2
      refine ⟨fun c hc => ?_, fun c => ?_, fun f hf hn => ?_⟩
      · rcases List.mem_cons.1 hc with rfl | hc
        · omega
        · exact a c hc
      · show c ∈ d :: (capL cs pl new r).2 ↔ _
        rw [List.mem_cons, b, List.mem_cons]
        constructor
        · rintro (q | q | q)
          · exact .inr (.inl q)
          · exact .inl q
          · exact .inr (.inr q)
        · rintro (q | q | q)
          · exact .inr (.inl q)
          · exact .inl q
          · exact .inr (.inr q)
      · show (d :: (capL cs pl new r).2).Pairwise _
        rw [List.pairwise_cons]
        refine ⟨fun c hc => ?_, e f (fun c hc => hf c (List.mem_cons_of_mem _ hc)) hn⟩
        rw [hf d List.mem_cons_self]
        rcases (b c).1 hc with rfl | hc
        · rw [hn]; exact h1
        · rw [hf c (List.mem_cons_of_mem _ hc)]; exact hp.1 c hc
    · rw [if_neg h1] at h ⊢
      by_cases h2 : plC cs d = pl
      · rw [if_pos h2] at h; cases h
      · rw [if_neg h2] at h ⊢
        have hlt : plC cs d < pl := by omega
        refine ⟨fun c hc => ?_, fun c => by simp, fun f hf hn => ?_⟩
        · rcases List.mem_cons.1 hc with rfl | hc
          · exact h2
          · have := hp.1 c hc; omega
        · rw [List.pairwise_cons, List.pairwise_cons]
          refine ⟨fun c hc => ?_, fun c hc => ?_, ?_⟩
          · rw [hn]
            rcases List.mem_cons.1 hc with rfl | hc
            · rw [hf c List.mem_cons_self]; exact hlt
            · rw [hf c (List.mem_cons_of_mem _ hc)]; have := hp.1 c hc; omega
          · rw [hf c (List.mem_cons_of_mem _ hc), hf d List.mem_cons_self]; exact hp.1 c hc
          · refine hp.2.imp_of_mem fun {u w} hu hw q => ?_
            rw [hf u (List.mem_cons_of_mem _ hu), hf w (List.mem_cons_of_mem _ hw)]; exact q

/-- the cell of the variable at a place, and the machine behind. -/
def capV (V : VS) (t pl : Nat) : Nat × VS :=
  let x := V.ths.getD t VTh.zero
  match (capL V.cells pl V.cells.length x.opn).1 with
  | some c => (c, V)
  | none => (V.cells.length, { V with cells := V.cells ++ [(⟨some t, pl, vNil⟩ : VCell)], ths := V.ths.set t { x with opn := (capL V.cells pl V.cells.length x.opn).2 } })

section
variable {V : VS} {a : AS} {κ : List Nat} {P : Nat → Nat → Prop}
theorem R.cap (h : R V a κ P) {t pl n : Nat} (hS : SlotAt V.ths a.ths t pl n) (hP : P t pl) :
    ∃ κ', κ <+: κ' ∧ R (capV V t pl).2 a κ' P ∧ (capV V t pl).1 < (capV V t pl).2.cells.length ∧ κ'.getD (capV V t pl).1 0 = n ∧ (∀ k i m, SlotAt (capV V t pl).2.ths a.ths k i m ↔ SlotAt V.ths a.ths k i m) := by
  obtain ⟨x, y, hx, hy, hs⟩ := hS
  have hlt := (List.getElem?_eq_some_iff.1 hx).1
  have hxD : V.ths.getD t VTh.zero = x := by rw [List.getD_eq_getElem?_getD, hx]; rfl
  unfold capV
  rw [hxD]
  dsimp only
  rcases hq : (capL V.cells pl V.cells.length x.opn).1 with _ | c
  · dsimp only
    obtain ⟨q1, q2, q3⟩ := capL_none hq (h.od t x hx)
    have hnk : n ∉ κ := fun hn => by
      obtain ⟨c, hc, e⟩ := List.getElem_of_mem hn
      have hcl : c < V.cells.length := by rw [← h.klen]; exact hc
      have hcg : V.cells[c]? = some V.cells[c] := List.getElem?_eq_getElem hcl
      have hce := h.ce c _ hcg
      have hkc : κ.getD c 0 = n := by rw [List.getD_eq_getElem?_getD, List.getElem?_eq_getElem hc, e]; rfl
      rw [hkc] at hce
      rcases hth : (V.cells[c]).th with _ | t' <;> rw [hth] at hce
      · exact hce.2 t pl ⟨x, y, hx, hy, hs⟩ hP
      · obtain ⟨e1, e2⟩ := h.sj _ _ _ _ _ hce.2 ⟨x, y, hx, hy, hs⟩
        subst e1
        refine q1 c ((h.om t' x hx c).2 ⟨_, hcg, hth⟩) ?_
        unfold plC
        rw [List.getD_eq_getElem?_getD, hcg]; exact e2
    have hget : ∀ k z, (V.ths.set t { x with opn := (capL V.cells pl V.cells.length x.opn).2 })[k]? = some z → (k = t ∧ z = { x with opn := (capL V.cells pl V.cells.length x.opn).2 }) ∨ (k ≠ t ∧ V.ths[k]? = some z) := fun k z hz => by
      rw [List.getElem?_set] at hz
      by_cases hk : k = t
      · subst hk; simp [hlt] at hz; exact .inl ⟨rfl, hz.symm⟩
      · have hk' : ¬ t = k := fun e => hk e.symm
        simp [hk'] at hz; exact .inr ⟨hk, hz⟩
    have hSl : ∀ k i m, SlotAt (V.ths.set t { x with opn := (capL V.cells pl V.cells.length x.opn).2 }) a.ths k i m ↔ SlotAt V.ths a.ths k i m := fun k i m => by
      constructor
      · rintro ⟨x1, y1, r1, r2, r3⟩
        rcases hget k x1 r1 with ⟨rfl, rfl⟩ | ⟨hk, r1⟩
        · exact ⟨x, y1, hx, r2, r3⟩
        · exact ⟨x1, y1, r1, r2, r3⟩
      · rintro ⟨x1, y1, r1, r2, r3⟩
        by_cases hk : k = t
        · subst hk
          rw [hx] at r1; injection r1 with r1; subst r1
          exact ⟨{ x with opn := (capL V.cells pl V.cells.length x.opn).2 }, y1, by rw [List.getElem?_set, if_pos rfl, if_pos hlt], r2, r3⟩
        · have hk' : ¬ t = k := fun e => hk e.symm
          exact ⟨x1, y1, by rw [List.getElem?_set]; simp [hk', r1], r2, r3⟩
    have hkg : ∀ c, c < V.cells.length → (κ ++ [n]).getD c 0 = κ.getD c 0 := fun c hc => by
      rw [List.getD_eq_getElem?_getD, List.getD_eq_getElem?_getD, List.getElem?_append_left (by rw [h.klen]; exact hc)]
    have hkn : (κ ++ [n]).getD V.cells.length 0 = n := by
      rw [List.getD_eq_getElem?_getD, ← h.klen]; simp
    have hpl : ∀ c, c < V.cells.length → ((V.cells ++ [(⟨some t, pl, vNil⟩ : VCell)]).getD c VCell.zero).pl = (V.cells.getD c VCell.zero).pl := fun c hc => by
      rw [List.getD_eq_getElem?_getD, List.getD_eq_getElem?_getD, List.getElem?_append_left hc]
    have hpn : ((V.cells ++ [(⟨some t, pl, vNil⟩ : VCell)]).getD V.cells.length VCell.zero).pl = pl := by
      rw [List.getD_eq_getElem?_getD]; simp
    have hol : ∀ (k : Nat) (z : VTh), V.ths[k]? = some z → ∀ c ∈ z.opn, c < V.cells.length := fun k z hz c hc => by
      obtain ⟨w, hw, -⟩ := (h.om k z hz c).1 hc
      exact (List.getElem?_eq_some_iff.1 hw).1
    refine ⟨κ ++ [n], List.prefix_append _ _, ⟨h.clen, fun c p cs hc => ?_, ?_, ?_, ?_, ?_, fun k z w hz hw => ?_, fun k i m z hq hz => ?_, fun k i k' i' m r1 r2 => h.sj k i k' i' m ((hSl _ _ _).1 r1) ((hSl _ _ _).1 r2), fun k i m r => h.sl k i m ((hSl _ _ _).1 r), fun c z hz => ?_, fun k z hz => ?_, fun k z hz c => ?_⟩, ?_, hkn, hSl⟩
    · have := h.clo c p cs hc
      refine ⟨this.1.trans ?_, fun k hk => by show k < (V.cells ++ [_]).length; have := this.2 k hk; simp; omega⟩
      congr 2
      exact List.map_congr_left fun k hk => (hkg k (this.2 k hk)).symm
    · show (κ ++ [n]).length = (V.cells ++ [_]).length
      simp [h.klen]
    · rw [List.nodup_append]
      exact ⟨h.knd, by simp, fun u hu w hw => by rw [List.mem_singleton.1 hw]; exact fun e => hnk (e ▸ hu)⟩
    · intro m hm
      rcases List.mem_append.1 hm with hm | hm
      · exact h.klt m hm
      · rw [List.mem_singleton.1 hm]; exact h.sl t pl n ⟨x, y, hx, hy, hs⟩
    · show (V.ths.set t _).length = _; rw [List.length_set]; exact h.tlen
    · rcases hget k z hz with ⟨rfl, rfl⟩ | ⟨hk, hz⟩
      · exact h.th k x w hx hw
      · exact h.th k z w hz hw
    · have hq' := (hSl _ _ _).1 hq
      rcases hget k z hz with ⟨rfl, rfl⟩ | ⟨hk, hz⟩
      · exact h.sv k i m x hq' hx
      · exact h.sv k i m z hq' hz
    · have hz : (V.cells ++ [(⟨some t, pl, vNil⟩ : VCell)])[c]? = some z := hz
      by_cases hc : c < V.cells.length
      · rw [List.getElem?_append_left hc] at hz
        have := h.ce c z hz
        rw [hkg c hc]
        rcases hth : z.th with _ | k <;> rw [hth] at this
        · exact ⟨this.1, fun k i r => this.2 k i ((hSl _ _ _).1 r)⟩
        · exact ⟨this.1, (hSl _ _ _).2 this.2⟩
      · rw [List.getElem?_append_right (by omega)] at hz
        rcases hd : c - V.cells.length with _ | d
        · rw [hd] at hz; simp at hz; subst hz
          have : c = V.cells.length := by omega
          subst this
          exact ⟨hP, by rw [hkn]; exact (hSl _ _ _).2 ⟨x, y, hx, hy, hs⟩⟩
        · rw [hd] at hz; simp at hz
    · rcases hget k z hz with ⟨rfl, rfl⟩ | ⟨hk, hz⟩
      · exact q3 (fun c => ((V.cells ++ [(⟨some k, pl, vNil⟩ : VCell)]).getD c VCell.zero).pl) (fun c hc => hpl c (hol k x hx c hc)) hpn
      · refine (h.od k z hz).imp_of_mem fun {u w} hu hw r => ?_
        show ((V.cells ++ [_]).getD w VCell.zero).pl < ((V.cells ++ [_]).getD u VCell.zero).pl
        rw [hpl u (hol k z hz u hu), hpl w (hol k z hz w hw)]; exact r
    · have hnew : ∀ w, (∃ y, (V.cells ++ [(⟨some t, pl, vNil⟩ : VCell)])[c]? = some y ∧ y.th = some w) ↔ (∃ y, V.cells[c]? = some y ∧ y.th = some w) ∨ (c = V.cells.length ∧ w = t) := fun w => by
        constructor
        · rintro ⟨y0, r1, r2⟩
          by_cases hc : c < V.cells.length
          · rw [List.getElem?_append_left hc] at r1; exact .inl ⟨y0, r1, r2⟩
          · rw [List.getElem?_append_right (by omega)] at r1
            rcases hd : c - V.cells.length with _ | d
            · rw [hd] at r1; simp at r1; subst r1
              injection r2 with r2
              exact .inr ⟨by omega, r2.symm⟩
            · rw [hd] at r1; simp at r1
        · rintro (⟨y0, r1, r2⟩ | ⟨r1, r2⟩)
          · exact ⟨y0, by rw [List.getElem?_append_left (List.getElem?_eq_some_iff.1 r1).1]; exact r1, r2⟩
          · subst r1; subst r2
            exact ⟨(⟨some w, pl, vNil⟩ : VCell), by simp, rfl⟩
      show c ∈ z.opn ↔ ∃ y, (V.cells ++ [(⟨some t, pl, vNil⟩ : VCell)])[c]? = some y ∧ y.th = some k
      rw [hnew]
      rcases hget k z hz with ⟨rfl, rfl⟩ | ⟨hk, hz⟩
      · show c ∈ (capL V.cells pl V.cells.length x.opn).2 ↔ _
        rw [q2, h.om k x hx c]
        constructor
        · rintro (r | r)
          · exact .inr ⟨r, rfl⟩
          · exact .inl r
        · rintro (r | ⟨r, -⟩)
          · exact .inr r
          · exact .inl r
      · rw [h.om k z hz c]
        constructor
        · exact .inl
        · rintro (r | ⟨-, r⟩)
          · exact r
          · exact absurd r hk
    · show V.cells.length < (V.cells ++ [_]).length; simp
  · dsimp only
    obtain ⟨q1, q2, q3⟩ := capL_some hq
    obtain ⟨w, hw, hwt⟩ := (h.om t x hx c).1 q1
    have hc := h.ce c w hw
    rw [hwt] at hc
    have hwp : w.pl = pl := by
      unfold plC at q2
      rw [List.getD_eq_getElem?_getD, hw] at q2; exact q2
    obtain ⟨x1, y1, r1, r2, r3⟩ := hc.2
    rw [hx] at r1; rw [hy] at r2; injection r1 with r1; injection r2 with r2; subst r1; subst r2
    rw [hwp] at r3
    exact ⟨κ, List.prefix_refl _, h, (List.getElem?_eq_some_iff.1 hw).1, Sl.fun (h.th t _ _ hx hy).2.2 r3 hs, fun _ _ _ => Iff.rfl⟩
/-- a new closure. -/
theorem R.newC (h : R V a κ P) {p : Nat} {cs : List Nat} (hc : ∀ k ∈ cs, k < V.cells.length) : R { V with clos := V.clos ++ [(p, cs)] } { a with clos := a.clos ++ [(p, cs.map fun k => κ.getD k 0)] } κ P := by
  refine ⟨by show (V.clos ++ [_]).length = (a.clos ++ [_]).length; simp [h.clen], fun c q ds hd => ?_, h.klen, h.knd, h.klt, h.tlen, h.th, h.sv, h.sj, h.sl, h.ce, h.od, h.om⟩
  have hd : (V.clos ++ [(p, cs)])[c]? = some (q, ds) := hd
  show (a.clos ++ [_])[c]? = _ ∧ _
  by_cases hl : c < V.clos.length
  · rw [List.getElem?_append_left hl] at hd
    rw [List.getElem?_append_left (by rw [← h.clen]; exact hl)]
    exact h.clo c q ds hd
  · rw [List.getElem?_append_right (by omega)] at hd
    rw [List.getElem?_append_right (by rw [← h.clen]; omega), ← h.clen]
    rcases he : c - V.clos.length with _ | e
    · rw [he] at hd; simp at hd; obtain ⟨rfl, rfl⟩ := hd
      exact ⟨rfl, hc⟩
    · rw [he] at hd; simp at hd
end

end Go.Proofs.Qxb6500568aGreatDoor
