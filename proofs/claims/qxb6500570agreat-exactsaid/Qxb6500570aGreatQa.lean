import Derived.Test.Qxb6500570aGreatPp
/- Plain: what becomes of a node when lines come or go, and when it is copied. -/
namespace Go.Proofs.Qxb6500570aGreat
set_option linter.unusedVariables false
set_option linter.unusedSimpArgs false

abbrev nBad : Nd := nLeaf 5 0
def lnR (rows : Bool) : Int := if rows = true then 6 else 4
def gtR (rows : Bool) (r : Rf) : Int := if rows = true then r.r else r.c
def mvR (rows : Bool) (r : Rf) (v : Int) : Rf := if rows = true then { r with r := v } else { r with c := v }
def loI (ins : Bool) (at' x : Int) : Int := if ins = true then (if at' ≤ x then x + 1 else x) else (if at' < x then x - 1 else x)
def hiI (ins : Bool) (at' x : Int) : Int := if at' ≤ x then (if ins = true then x + 1 else x - 1) else x
def hcI (rows ins : Bool) (at' x : Int) : Int := if lnR rows ≤ hiI ins at' x then lnR rows - 1 else hiI ins at' x
def shP (rows ins : Bool) (at' : Int) (x : Nd) : Nd := if loI ins at' (gtR rows x.p) ≤ hcI rows ins at' (gtR rows x.p) then { x with p := mvR rows x.p (loI ins at' (gtR rows x.p)) } else nBad
def shQ (rows ins : Bool) (at' : Int) (x : Nd) : Nd :=
  if gtR rows x.p ≤ gtR rows x.q then (if loI ins at' (gtR rows x.p) ≤ hcI rows ins at' (gtR rows x.q) then { x with p := mvR rows x.p (loI ins at' (gtR rows x.p)), q := mvR rows x.q (hcI rows ins at' (gtR rows x.q)) } else nBad)
  else (if loI ins at' (gtR rows x.q) ≤ hcI rows ins at' (gtR rows x.p) then { x with p := mvR rows x.p (hcI rows ins at' (gtR rows x.p)), q := mvR rows x.q (loI ins at' (gtR rows x.q)) } else nBad)
def shN (rows ins : Bool) (at' : Int) (x : Nd) : Nd :=
  if x.k = 3 ∧ gridR x.p = true then shP rows ins at' x
  else if x.k = 4 ∧ gridR x.p = true ∧ gridR x.q = true then shQ rows ins at' x
  else x
/-- Where a cell's text comes from. -/
def srcI (rows ins : Bool) (at' : Int) (c : Nat) : Int :=
  if at' ≤ (if rows = true then ((c / 4 : Nat) : Int) else ((c % 4 : Nat) : Int)) then
    (if ins = true then (if (if rows = true then ((c / 4 : Nat) : Int) else ((c % 4 : Nat) : Int)) = at' then -1 else (c : Int) - (if rows = true then 4 else 1))
     else (if lnR rows ≤ (if rows = true then ((c / 4 : Nat) : Int) else ((c % 4 : Nat) : Int)) + 1 then -1 else (c : Int) + (if rows = true then 4 else 1)))
  else c
def cyR (dc dr : Int) (r : Rf) : Rf := ⟨if r.ac = true then r.c else r.c + dc, if r.ar = true then r.r else r.r + dr, r.ac, r.ar⟩
def okR (r : Rf) : Bool := decide (0 ≤ r.c) && decide (r.c ≤ 25) && decide (0 ≤ r.r) && decide (r.r ≤ 98)
theorem okR_iff {r : Rf} : okR r = true ↔ RfOK r := by unfold okR RfOK; simp [and_assoc]
def cyN (dc dr : Int) (x : Nd) : Nd :=
  if x.k = 3 then (if okR (cyR dc dr x.p) = true then { x with p := cyR dc dr x.p } else nBad)
  else if x.k = 4 then (if okR (cyR dc dr x.p) = true ∧ okR (cyR dc dr x.q) = true then { x with p := cyR dc dr x.p, q := cyR dc dr x.q } else nBad)
  else x

/-! ### the shape stays -/
def GOK (g : Nd → Nd) : Prop := ∀ x, g x = x ∨ (x.k = 3 ∧ ((g x).k = 3 ∨ (g x).k = 5)) ∨ (x.k = 4 ∧ ((g x).k = 4 ∨ (g x).k = 5))
theorem GOK.keep {g : Nd → Nd} (h : GOK g) {x : Nd} (h3 : x.k ≠ 3) (h4 : x.k ≠ 4) : g x = x := by
  rcases h x with q | q | q
  · exact q
  · exact absurd q.1 h3
  · exact absurd q.1 h4
theorem sg_map {n : List Nd} {g : Nd → Nd} (hg : GOK g) : ∀ (f : Nat) (lk : Bool) (k lo i : Nat) (arg : Bool), SgF n f lk k lo i arg → SgF (n.map g) f lk k lo i arg := by
  intro f
  induction f with
  | zero => intro lk k lo i arg h; exact h.elim
  | succ f ih =>
    intro lk k lo i arg h
    have hm : ∀ {j : Nat} {x : Nd}, n[j]? = some x → (n.map g)[j]? = some (g x) := fun h => by rw [List.getElem?_map, h]; rfl
    cases lk with
    | false =>
      obtain ⟨x, hx, h⟩ := h
      refine ⟨g x, hm hx, ?_⟩
      rcases h with h | h | h | h | h | ⟨h1, h2, h3, h4⟩ | ⟨h1, h2, h3, o, m, h4, h5, h6, h7, h8, h9, h10, h11⟩ | ⟨h1, h2, h3, fn, m, h4, h5, h6, h7⟩
      · rw [hg.keep (by omega) (by omega)]; exact .inl h
      · rw [hg.keep (by omega) (by omega)]; exact .inr (.inl h)
      · rcases hg x with q | q | q
        · rw [q]; exact .inr (.inr (.inl h))
        · rcases q.2 with q | q
          · exact .inr (.inr (.inl ⟨q, h.2⟩))
          · exact .inr (.inr (.inr (.inl ⟨q, h.2⟩)))
        · have := h.1; have := q.1; omega
      · rw [hg.keep (by omega) (by omega)]; exact .inr (.inr (.inr (.inl h)))
      · rcases hg x with q | q | q
        · rw [q]; exact .inr (.inr (.inr (.inr (.inl h))))
        · have := h.1; have := q.1; omega
        · rcases q.2 with q | q
          · exact .inr (.inr (.inr (.inr (.inl ⟨q, h.2⟩))))
          · exact .inr (.inr (.inr (.inl ⟨q, h.2.2⟩)))
      · rw [hg.keep (by omega) (by omega)]
        exact .inr (.inr (.inr (.inr (.inr (.inl ⟨h1, h2, h3, ih _ _ _ _ _ h4⟩)))))
      · rw [hg.keep (by omega) (by omega)]
        exact .inr (.inr (.inr (.inr (.inr (.inr (.inl ⟨h1, h2, h3, o, m, h4, h5, h6, h7, h8, h9, ih _ _ _ _ _ h10, ih _ _ _ _ _ h11⟩))))))
      · rw [hg.keep (by omega) (by omega)]
        exact .inr (.inr (.inr (.inr (.inr (.inr (.inr ⟨h1, h2, h3, fn, m, h4, h5, h6, ih _ _ _ _ _ h7⟩))))))
    | true =>
      obtain ⟨x, hx, k1, k2, k3, m, k4, k5, h⟩ := h
      refine ⟨g x, hm hx, ?_⟩
      rw [hg.keep (by omega) (by omega)]
      refine ⟨k1, k2, k3, m, k4, ih _ _ _ _ _ k5, ?_⟩
      rcases h with h | ⟨q1, q2, q3, q4⟩
      · exact .inl h
      · exact .inr ⟨q1, q2, q3, ih _ _ _ _ _ q4⟩
theorem done_map {n : List Nd} {g : Nd → Nd} (hg : GOK g) (h : DoneOK n) : DoneOK (n.map g) := by
  obtain ⟨h1, h2, f, h3⟩ := h
  unfold DoneOK
  rw [List.length_map]
  exact ⟨h1, h2, f, sg_map hg _ _ _ _ _ _ h3⟩
theorem nm_bad : NmOK nBad := nm_leaf (.inr (.inr ⟨rfl, rfl⟩))
theorem nm_p {x : Nd} {p : Rf} (hk : x.k = 3) (h : NmOK x) (hp : RfOK p) : NmOK { x with p := p } := by
  obtain ⟨h1, h2, h3⟩ := h
  refine ⟨hp, h2, ?_⟩
  unfold nmF at h3 ⊢
  rw [if_neg (by omega), if_pos hk] at h3
  show (if x.k = 1 ∨ x.k = 2 then _ else if x.k = 3 then _ else _) = _
  rw [if_neg (by omega), if_pos hk]
  rw [← h3]
theorem nm_pq {x : Nd} {p q : Rf} (hk : x.k = 4) (h : NmOK x) (hp : RfOK p) (hq : RfOK q) : NmOK { x with p := p, q := q } := by
  obtain ⟨h1, h2, h3⟩ := h
  refine ⟨hp, hq, ?_⟩
  unfold nmF at h3 ⊢
  rw [if_neg (by omega), if_neg (by omega), if_pos hk] at h3
  show (if x.k = 1 ∨ x.k = 2 then _ else if x.k = 3 then _ else if x.k = 4 then _ else _) = _
  rw [if_neg (by omega), if_neg (by omega), if_pos hk]
  rw [← h3]
theorem sh_gok {rows ins : Bool} {a : Int} : GOK (shN rows ins a) := by
  intro x
  unfold shN
  split
  · rename_i h
    refine .inr (.inl ⟨h.1, ?_⟩)
    unfold shP
    split
    · exact .inl h.1
    · exact .inr rfl
  · split
    · rename_i h
      refine .inr (.inr ⟨h.1, ?_⟩)
      unfold shQ
      split
      · split
        · exact .inl h.1
        · exact .inr rfl
      · split
        · exact .inl h.1
        · exact .inr rfl
    · exact .inl rfl
theorem lo_bd {rows ins : Bool} {a x y : Int} (ha : 0 ≤ a) (hx : 0 ≤ x ∧ x < lnR rows) (hy : 0 ≤ y ∧ y < lnR rows) (h : loI ins a x ≤ hcI rows ins a y) : (0 ≤ loI ins a x ∧ loI ins a x < lnR rows) ∧ (0 ≤ hcI rows ins a y ∧ hcI rows ins a y < lnR rows) := by
  have h1 : 0 ≤ loI ins a x := by
    unfold loI
    repeat' split
    all_goals omega
  have h2 : hcI rows ins a y < lnR rows := by
    unfold hcI
    split <;> omega
  omega
theorem mv_ok {rows : Bool} {r : Rf} {v : Int} (h : gridR r = true) (hv : 0 ≤ v ∧ v < lnR rows) : RfOK (mvR rows r v) := by
  have hg := grid_iff.1 h
  unfold mvR lnR RfOK at *
  cases rows
  · simp at hv ⊢; omega
  · simp at hv ⊢; omega
theorem gt_bd {rows : Bool} {r : Rf} (h : gridR r = true) : 0 ≤ gtR rows r ∧ gtR rows r < lnR rows := by
  have hg := grid_iff.1 h
  unfold gtR lnR
  cases rows <;> simp <;> omega
theorem sh_nm {rows ins : Bool} {a : Int} {x : Nd} (ha : 0 ≤ a) (h : NmOK x) : NmOK (shN rows ins a x) := by
  unfold shN
  split
  · rename_i hk
    unfold shP
    split
    · rename_i hl
      have := lo_bd ha (gt_bd hk.2) (gt_bd hk.2) hl
      exact nm_p hk.1 h (mv_ok hk.2 this.1)
    · exact nm_bad
  · split
    · rename_i hk
      unfold shQ
      split
      · split
        · rename_i hl
          have := lo_bd ha (gt_bd hk.2.1) (gt_bd hk.2.2) hl
          exact nm_pq hk.1 h (mv_ok hk.2.1 this.1) (mv_ok hk.2.2 this.2)
        · exact nm_bad
      · split
        · rename_i hl
          have := lo_bd ha (gt_bd hk.2.2) (gt_bd hk.2.1) hl
          exact nm_pq hk.1 h (mv_ok hk.2.1 this.2) (mv_ok hk.2.2 this.1)
        · exact nm_bad
    · exact h
theorem cy_gok {dc dr : Int} : GOK (cyN dc dr) := by
  intro x
  unfold cyN
  split
  · rename_i h
    refine .inr (.inl ⟨h, ?_⟩)
    split
    · exact .inl h
    · exact .inr rfl
  · split
    · rename_i h
      refine .inr (.inr ⟨h, ?_⟩)
      split
      · exact .inl h
      · exact .inr rfl
    · exact .inl rfl
theorem cy_nm {dc dr : Int} {x : Nd} (h : NmOK x) : NmOK (cyN dc dr x) := by
  unfold cyN
  split
  · rename_i hk
    split
    · rename_i ho
      exact nm_p hk h (okR_iff.1 ho)
    · exact nm_bad
  · split
    · rename_i hk
      split
      · rename_i ho
        exact nm_pq hk h (okR_iff.1 ho.1) (okR_iff.1 ho.2)
      · exact nm_bad
    · exact h
theorem aok_map {n : List Nd} {g : Nd → Nd} (hg : ∀ x, NmOK x → NmOK (g x)) (h : AOK n) : AOK (n.map g) := by
  intro y hy
  obtain ⟨x, hx, rfl⟩ := List.mem_map.1 hy
  exact hg x (h x hx)
theorem src_bd {rows ins : Bool} {a : Int} {c : Nat} (ha : 0 ≤ a) (hc : c < 24) : srcI rows ins a c = -1 ∨ ∃ d : Nat, d < 24 ∧ srcI rows ins a c = (d : Int) := by
  unfold srcI lnR
  cases rows <;> cases ins <;> simp only [Bool.false_eq_true, if_false, if_true]
  all_goals
    repeat' split
    all_goals first
      | exact .inl rfl
      | exact .inr ⟨c, hc, rfl⟩
      | exact .inr ⟨c - 4, by omega, by omega⟩
      | exact .inr ⟨c - 1, by omega, by omega⟩
      | exact .inr ⟨c + 4, by omega, by omega⟩
      | exact .inr ⟨c + 1, by omega, by omega⟩

end Go.Proofs.Qxb6500570aGreat
