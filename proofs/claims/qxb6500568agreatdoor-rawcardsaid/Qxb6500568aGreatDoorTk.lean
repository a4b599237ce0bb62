import Derived.Test.Qxb6500568aGreatDoorRl
/- What the machine's check asks, plainly. -/
namespace Go.Proofs.Qxb6500568aGreatDoor
open Ieee
set_option linter.unusedVariables false
set_option linter.unusedSimpArgs false
set_option linter.unusedSectionVars false

section
variable {stk : List PV} {P : PV → Prop}
/-- a frame d deep from the top. -/
theorem FrG.at : ∀ {fs : List VFr} {gs : List AFr} {hi d : Nat} {f : VFr}, FrG stk hi fs gs → fs[d]? = some f → ∃ g, gs[d]? = some g ∧ (f.clo = g.clo ∧ f.pc = g.pc ∧ f.prot = g.prot) ∧ f.ret ≤ f.base ∧ f.base + g.slots.length + g.ops.length ≤ hi ∧ (d = 0 → f.base + g.slots.length + g.ops.length = hi) ∧ (∀ f', 0 < d → fs[d - 1]? = some f' → f.base + g.slots.length + g.ops.length = f'.ret) ∧ (d + 1 = fs.length → f.ret = 0)
  | [], [], hi, d, f, h, hd => by cases hd
  | [], _ :: _, hi, d, f, h, hd => by cases h
  | _ :: _, [], hi, d, f, h, hd => by cases h
  | f0 :: fs, g0 :: gs, hi, 0, f, ⟨h1, h2, h3, h4, h5⟩, hd => by
    injection hd with hd
    subst hd
    refine ⟨g0, rfl, h1, h4, Nat.le_of_eq h2, fun _ => h2, fun f' h => by omega, fun hl => ?_⟩
    rw [List.length_cons] at hl
    have : fs = [] := List.eq_nil_of_length_eq_zero (by omega)
    subst this
    cases gs with
    | nil => exact h5
    | cons _ _ => cases h5
  | f0 :: fs, g0 :: gs, hi, d + 1, f, ⟨h1, h2, h3, h4, h5⟩, hd => by
    rw [List.getElem?_cons_succ] at hd
    obtain ⟨g, q1, q2, q3, q4, q5, q6, q7⟩ := FrG.at h5 hd
    refine ⟨g, by rw [List.getElem?_cons_succ]; exact q1, q2, q3, by omega, fun q => by omega, fun f' _ hf' => ?_, fun hl => q7 (by rw [List.length_cons] at hl; omega)⟩
    rw [Nat.add_sub_cancel] at hf'
    cases d with
    | zero =>
      injection hf' with hf'
      subst hf'
      exact q5 rfl
    | succ d =>
      rw [List.getElem?_cons_succ] at hf'
      exact q6 f' (Nat.succ_pos _) (by rw [Nat.add_sub_cancel]; exact hf')
theorem FrG.lens : ∀ {fs : List VFr} {gs : List AFr} {hi : Nat}, FrG stk hi fs gs → fs.length = gs.length
  | [], [], hi, h => rfl
  | [], _ :: _, hi, h => by cases h
  | _ :: _, [], hi, h => by cases h
  | f0 :: fs, g0 :: gs, hi, ⟨h1, h2, h3, h4, h5⟩ => by rw [List.length_cons, List.length_cons, FrG.lens h5]
theorem DF.at : ∀ {fs : List VFr} {gs : List AFr} {d : Nat} {f : VFr} {g : AFr}, DF P stk fs gs → fs[d]? = some f → gs[d]? = some g → (∀ f' g', fs[d + 1]? = some f' → gs[d + 1]? = some g' → f.ret + 1 ≤ f.base ∧ f.base ≤ f.ret + 4 ∧ f.base ≤ f'.base + g'.slots.length + 128) ∧ (d + 1 = fs.length → f.base = 0)
  | [], _, d, f, g, h, hd, _ => by cases hd
  | _ :: _, [], d, f, g, h, hd, hg => by cases hg
  | f0 :: fs, g0 :: gs, 0, f, g, ⟨h1, h2, h3⟩, hd, hg => by
    injection hd with hd
    subst hd
    refine ⟨fun f' g' hf hg' => ?_, fun hl => ?_⟩
    · cases fs with
      | nil => cases hf
      | cons a fs =>
        cases gs with
        | nil => cases hg'
        | cons b gs =>
          injection hf with hf
          injection hg' with hg'
          subst hf hg'
          exact h1
    · rw [List.length_cons] at hl
      have : fs = [] := List.eq_nil_of_length_eq_zero (by omega)
      subst this
      exact h1
  | f0 :: fs, g0 :: gs, d + 1, f, g, ⟨h1, h2, h3⟩, hd, hg => by
    rw [List.getElem?_cons_succ] at hd hg
    obtain ⟨q1, q2⟩ := DF.at h3 hd hg
    exact ⟨fun f' g' a b => q1 f' g' (by rwa [List.getElem?_cons_succ] at a) (by rwa [List.getElem?_cons_succ] at b), fun hl => q2 (by rw [List.length_cons] at hl; omega)⟩
/-- a frame deeper down ends below. -/
theorem FrG.below {fs : List VFr} {gs : List AFr} {hi d : Nat} {f f' : VFr} {g' : AFr} (h : FrG stk hi fs gs) (hd : fs[d]? = some f) : ∀ {e : Nat}, fs[d + 1 + e]? = some f' → gs[d + 1 + e]? = some g' → f'.base + g'.slots.length ≤ f.base := by
  intro e
  induction e generalizing f' g' with
  | zero =>
    intro h1 h2
    obtain ⟨g, q1, -, -, -, -, q6, -⟩ := h.at h1
    rw [h2] at q1
    cases q1
    have := q6 f (by omega) (by rw [show d + 1 + 0 - 1 = d by omega]; exact hd)
    obtain ⟨g0, -, -, q3, -⟩ := h.at hd
    omega
  | succ e ih =>
    intro h1 h2
    obtain ⟨g, q1, -, -, -, -, q6, -⟩ := h.at h1
    rw [h2] at q1
    cases q1
    have hl := (List.getElem?_eq_some_iff.1 h1).1
    obtain ⟨f2, hf2⟩ : ∃ f2, fs[d + 1 + e]? = some f2 := ⟨_, List.getElem?_eq_getElem (by omega)⟩
    obtain ⟨g2, hg2, -, q3, -⟩ := h.at hf2
    have e1 := ih hf2 hg2
    have := q6 f2 (by omega) (by rw [show d + 1 + (e + 1) - 1 = d + 1 + e by omega]; exact hf2)
    omega
theorem Sl.ex : ∀ {fs : List VFr} {gs : List AFr} {i n : Nat}, Sl fs gs i n → ∃ (d : Nat) (f : VFr) (g : AFr), fs[d]? = some f ∧ gs[d]? = some g ∧ f.base ≤ i ∧ i < f.base + g.slots.length
  | [], _, i, n, h => by cases h
  | _ :: _, [], i, n, h => by cases h
  | f :: fs, g :: gs, i, n, h => by
    rcases h with ⟨h1, h2⟩ | h
    · have := (List.getElem?_eq_some_iff.1 h2).1
      exact ⟨0, f, g, rfl, rfl, h1, by omega⟩
    · obtain ⟨d, f', g', q1, q2, q3⟩ := Sl.ex h
      exact ⟨d + 1, f', g', by rw [List.getElem?_cons_succ]; exact q1, by rw [List.getElem?_cons_succ]; exact q2, q3⟩
/-- every value of a stack. -/
theorem stk_all : ∀ {fs : List VFr} {gs : List AFr} {hi : Nat}, FrG stk hi fs gs → DF P stk fs gs → (∀ i n v, Sl fs gs i n → stk[i]? = some v → P v) → (∀ g ∈ gs, ∀ v ∈ g.ops, P v) → ∀ i v, i < hi → stk[i]? = some v → P v
  | [], [], hi, h, _, _, _, i, v, hi', _ => by
    have h : hi = 0 := h
    omega
  | [], _ :: _, hi, h, _, _, _, _, _, _, _ => by cases h
  | _ :: _, [], hi, h, _, _, _, _, _, _, _ => by cases h
  | f :: fs, g :: gs, hi, ⟨h1, h2, h3, h4, h5⟩, ⟨k1, k2, k3⟩, hs, ho, i, v, hi', hv => by
    by_cases q1 : i < f.ret
    · exact stk_all h5 k3 (fun i n v a b => hs i n v (.inr a) b) (fun g hg => ho g (List.mem_cons_of_mem _ hg)) i v q1 hv
    · by_cases q2 : i < f.base
      · exact k2 i v (by omega) q2 hv
      · by_cases q3 : i < f.base + g.slots.length
        · obtain ⟨n, hn⟩ : ∃ n, g.slots[i - f.base]? = some n := ⟨_, List.getElem?_eq_getElem (by omega)⟩
          exact hs i n v (.inl ⟨by omega, hn⟩) hv
        · obtain ⟨u, hu⟩ : ∃ u, g.ops.reverse[i - (f.base + g.slots.length)]? = some u := ⟨_, List.getElem?_eq_getElem (by rw [List.length_reverse]; omega)⟩
          have := h3 _ u hu
          rw [show f.base + g.slots.length + (i - (f.base + g.slots.length)) = i by omega, hv] at this
          cases this
          exact ho g List.mem_cons_self v (List.mem_reverse.1 (List.mem_of_getElem? hu))
end
section
variable {V : VS} {a : AS} {κ : List Nat} {Q : Nat → Nat → Prop}
theorem opn_nd (h : R V a κ Q) {t : Nat} {x : VTh} (hx : V.ths[t]? = some x) : x.opn.Nodup := by
  have := h.od t x hx
  unfold List.Nodup
  exact this.imp fun {c d} q e => by rw [e] at q; exact absurd q (Nat.lt_irrefl _)
theorem getD_map {α : Type} (l : List α) (z : α) : (List.range l.length).map (fun c => l.getD c z) = l := by
  apply List.ext_getElem?
  intro i
  rw [List.getElem?_map]
  by_cases h : i < l.length
  · rw [List.getElem?_range h, List.getElem?_eq_getElem h]
    show some (l.getD i z) = _
    rw [List.getD_eq_getElem?_getD, List.getElem?_eq_getElem h]; rfl
  · rw [List.getElem?_eq_none (by rw [List.length_range]; omega), List.getElem?_eq_none (by omega)]; rfl
theorem cnt_range {α : Type} (p : α → Bool) (l : List α) (z : α) : ((List.range l.length).filter fun c => p (l.getD c z)).length = l.countP p := by
  rw [← List.countP_eq_length_filter]
  have := List.countP_map (p := p) (f := fun c => l.getD c z) (l := List.range l.length)
  rw [getD_map] at this
  rw [this]
  rfl
/-- the open cells, counted. -/
theorem opn_cnt (h : R V a κ Q) : ((V.ths.map fun x => x.opn).flatten).length = V.cells.countP fun c => c.th.isSome := by
  rw [← cnt_range (fun c : VCell => c.th.isSome) V.cells VCell.zero]
  have hnd1 : ((V.ths.map fun x => x.opn).flatten).Nodup := by
    unfold List.Nodup
    rw [List.pairwise_flatten]
    refine ⟨fun l hl => ?_, ?_⟩
    · obtain ⟨x, hx, rfl⟩ := List.mem_map.1 hl
      obtain ⟨t, ht⟩ := List.mem_iff_getElem?.1 hx
      exact opn_nd h ht
    · rw [List.pairwise_map, List.pairwise_iff_getElem]
      intro i j hi hj hij c hc d hd e
      subst e
      obtain ⟨y, q1, q2⟩ := (h.om i _ (List.getElem?_eq_getElem hi) c).1 hc
      obtain ⟨y', q3, q4⟩ := (h.om j _ (List.getElem?_eq_getElem hj) c).1 hd
      rw [q1] at q3
      cases q3
      rw [q2] at q4
      cases q4
      omega
  have hnd2 : ((List.range V.cells.length).filter fun c => (V.cells.getD c VCell.zero).th.isSome).Nodup := List.nodup_range.filter _
  refine ((List.perm_ext_iff_of_nodup hnd1 hnd2).2 fun c => ?_).length_eq
  rw [List.mem_flatten, List.mem_filter, List.mem_range]
  constructor
  · rintro ⟨l, hl, hc⟩
    obtain ⟨x, hx, rfl⟩ := List.mem_map.1 hl
    obtain ⟨t, ht⟩ := List.mem_iff_getElem?.1 hx
    obtain ⟨y, q1, q2⟩ := (h.om t x ht c).1 hc
    refine ⟨(List.getElem?_eq_some_iff.1 q1).1, ?_⟩
    rw [List.getD_eq_getElem?_getD, q1]
    show y.th.isSome = true
    rw [q2]; rfl
  · rintro ⟨hc, hs⟩
    rw [List.getD_eq_getElem?_getD, List.getElem?_eq_getElem hc] at hs
    have hs : V.cells[c].th.isSome = true := hs
    obtain ⟨t, ht⟩ := Option.isSome_iff_exists.1 hs
    have := h.ce c _ (List.getElem?_eq_getElem hc)
    rw [ht] at this
    obtain ⟨-, x, y, hx, -⟩ := this
    exact ⟨x.opn, List.mem_map.2 ⟨x, List.mem_of_getElem? hx, rfl⟩, (h.om t x hx c).2 ⟨_, List.getElem?_eq_getElem hc, ht⟩⟩
end
end Go.Proofs.Qxb6500568aGreatDoor
