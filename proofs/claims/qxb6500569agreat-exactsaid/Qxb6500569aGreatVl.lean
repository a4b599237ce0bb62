import Derived.Test.Qxb6500569aGreatVk
/- The index is kept up: rounds over the buckets, plainly. -/
namespace Go.Proofs.Qxb6500569aGreat
set_option linter.unusedVariables false
set_option linter.unusedSimpArgs false

theorem eo_next {P : Program} {n : Nat} {e : Nat → Option Value} {w w1 : World} {ri : Nat} {x : Operand} {v : Value} (hx : evO n e x = some (ptr ri)) (h : (Instr.next (ptr ri) false 0).run P w = .ok v w1) : EO P n e w (.next x false) v w1 := by
  intro ds dst ty ps af g
  have h' : (Instr.next (ptr ri) false ty).run P w = .ok v w1 := h
  simp [execOp, evO_eval hx, h']

theorem ItAt.blk_ne {H : Array Obj} {ri r s c b t : Nat} {seen : Array Nat} {cs : List Value} (h : ItAt H ri r s seen c) (hb : Blk H b cs t) : ri ≠ b := by
  intro e
  subst e
  have := h.symm.trans hb
  injection this with this
  cases this

theorem ItAt.map_ne {α : Type} {kv : α → Value} {H : Array Obj} {ri r s c q : Nat} {seen : Array Nat} {l : List (α × Value)} (h : ItAt H ri r s seen c) (hm : MapAt kv H q l) : ri ≠ q := by
  intro e
  subst e
  obtain ⟨es, ck, h1, _⟩ := hm
  have := h.symm.trans h1
  injection this with this
  cases this

theorem BKS.it {w w' : World} {L : List (Value × List Nat)} {ri r s c : Nat} {seen : Array Nat} (h : BKS w.heap L) (hI : ItAt w.heap ri r s seen c) (hf : Fram (fun b => b = ri) w w') : BKS w'.heap L :=
  h.fram hf (fun p hp b hb hx => by
    rcases (h.bk p hp).2 with ⟨h1, _⟩ | ⟨g, cap, l, h1, h2, _⟩
    · rw [h1] at hb; cases hb
    · rw [h1] at hb; cases hb
      exact hI.blk_ne h2 hx.symm)

section
variable (cls : List Cl2) (f : K2) (n : Nat)

def idsS (seen : Array Nat) (q : K4) (b : Nat) : List Nat := if b ∈ seen ∧ f = q.1 then idsK cls q ++ [n] else idsK cls q

def zipL (seen : Array Nat) (l : List (K4 × Value)) (bs : List Nat) : List (Value × List Nat) := (l.zip bs).map (fun p => (p.1.2, idsS cls f n seen p.1.1 p.2))

end

theorem zipL_nil {cls : List Cl2} {f : K2} {n : Nat} {l : List (K4 × Value)} {bs : List Nat} (h : bs.length = l.length) : zipL cls f n #[] l bs = l.map (fun p => (p.2, idsK cls p.1)) := by
  unfold zipL
  have : (l.zip bs).map (fun p => (p.1.2, idsS cls f n #[] p.1.1 p.2)) = ((l.zip bs).map Prod.fst).map (fun p => (p.2, idsK cls p.1)) := by
    rw [List.map_map]
    refine List.map_congr_left (fun p _ => ?_)
    simp [idsS]
  rw [this, List.map_fst_zip (by omega)]

theorem zipL_all {cls : List Cl2} {f : K2} {n : Nat} {seen : Array Nat} {l : List (K4 × Value)} {bs : List Nat} (h : bs.length = l.length) (ha : ∀ b ∈ bs, b ∈ seen) {ids' : K4 → List Nat} (hi : ∀ q, ids' q = idsK cls q ++ (if f = q.1 then [n] else [])) : zipL cls f n seen l bs = l.map (fun p => (p.2, ids' p.1)) := by
  unfold zipL
  have : (l.zip bs).map (fun p => (p.1.2, idsS cls f n seen p.1.1 p.2)) = ((l.zip bs).map Prod.fst).map (fun p => (p.2, ids' p.1)) := by
    rw [List.map_map]
    refine List.map_congr_left (fun p hp => ?_)
    have hb := ha p.2 (List.of_mem_zip hp).2
    simp only [idsS, Function.comp_apply, hi, hb, true_and]
    split <;> simp
  rw [this, List.map_fst_zip (by omega)]

theorem zipL_get {cls : List Cl2} {f : K2} {n : Nat} {seen : Array Nat} {l : List (K4 × Value)} {bs : List Nat} {i b : Nat} {q : K4} {v : Value} (hl : l[i]? = some (q, v)) (hb : bs[i]? = some b) : (zipL cls f n seen l bs)[i]? = some (v, idsS cls f n seen q b) := by
  unfold zipL
  rw [List.getElem?_map, (List.getElem?_zip_eq_some (z := ((q, v), b))).2 ⟨hl, hb⟩]
  rfl

theorem zipL_skip {cls : List Cl2} {f : K2} {n : Nat} {seen : Array Nat} {l : List (K4 × Value)} {bs : List Nat} {i b : Nat} {q : K4} {v : Value} (nd : bs.Nodup) (hl : l[i]? = some (q, v)) (hb : bs[i]? = some b) (hq : f ≠ q.1) : zipL cls f n (seen.push b) l bs = zipL cls f n seen l bs := by
  apply List.ext_getElem?
  intro j
  unfold zipL
  simp only [List.getElem?_map]
  cases hj : (l.zip bs)[j]? with
  | none => rfl
  | some p =>
    obtain ⟨h1, h2⟩ := List.getElem?_zip_eq_some.1 hj
    simp only [Option.map_some, idsS, Array.mem_push]
    by_cases hij : p.2 = b
    · have hji : j = i := by
        have hbl := (List.getElem?_eq_some_iff.1 h2).1
        have hbi := (List.getElem?_eq_some_iff.1 hb).1
        refine (List.getElem?_inj hbl nd).1 ?_
        rw [h2, hb, hij]
      subst hji
      rw [hl] at h1
      injection h1 with h1
      rw [← h1]
      simp [hq]
    · simp [hij]

theorem zipL_step {cls : List Cl2} {f : K2} {n : Nat} {seen : Array Nat} {l : List (K4 × Value)} {bs : List Nat} {i b : Nat} {q : K4} {v v' : Value} (nd : bs.Nodup) (hl : l[i]? = some (q, v)) (hb : bs[i]? = some b) (hq : f = q.1) : zipL cls f n (seen.push b) (l.set i (q, v')) bs = (zipL cls f n seen l bs).set i (v', idsK cls q ++ [n]) := by
  have hil := (List.getElem?_eq_some_iff.1 hl).1
  have hbi := (List.getElem?_eq_some_iff.1 hb).1
  apply List.ext_getElem?
  intro j
  rw [List.getElem?_set]
  by_cases hij : i = j
  · subst hij
    rw [zipL_get (q := q) (v := v') (b := b) (by rw [List.getElem?_set]; simp [hil]) hb]
    have : i < (zipL cls f n seen l bs).length := by simp [zipL]; omega
    rw [if_pos rfl, if_pos this]
    simp [idsS, hq]
  · rw [if_neg hij]
    unfold zipL
    simp only [List.getElem?_map]
    have e : ((l.set i (q, v')).zip bs)[j]? = (l.zip bs)[j]? := by
      cases hx : (l.zip bs)[j]? with
      | none =>
        rw [List.getElem?_eq_none_iff] at hx ⊢
        simpa using hx
      | some p =>
        obtain ⟨h1, h2⟩ := List.getElem?_zip_eq_some.1 hx
        exact List.getElem?_zip_eq_some.2 ⟨by rw [List.getElem?_set, if_neg hij]; exact h1, h2⟩
    rw [e]
    cases hj : (l.zip bs)[j]? with
    | none => rfl
    | some p =>
      obtain ⟨h1, h2⟩ := List.getElem?_zip_eq_some.1 hj
      have hne : p.2 ≠ b := by
        intro hx
        have hbl := (List.getElem?_eq_some_iff.1 h2).1
        exact hij ((List.getElem?_inj hbi nd).1 (by rw [hb, h2, hx]))
      simp only [Option.map_some, idsS, Array.mem_push]
      simp [hne]

/-- How many are left. -/
def leftN (bs : List Nat) (seen : Array Nat) : Nat := (bs.filter (fun b => decide (b ∉ seen))).length

theorem leftN_lt {bs : List Nat} {seen : Array Nat} {b : Nat} (hb : b ∈ bs) (hs : b ∉ seen) : leftN bs (seen.push b) < leftN bs seen := by
  unfold leftN
  induction bs with
  | nil => cases hb
  | cons x bs ih =>
    have mono : ∀ l : List Nat, (l.filter (fun y => decide (y ∉ seen.push b))).length ≤ (l.filter (fun y => decide (y ∉ seen))).length := by
      intro l
      induction l with
      | nil => simp
      | cons y l ih =>
        simp only [List.filter_cons, Array.mem_push]
        by_cases h1 : y ∈ seen
        · simp [h1]; simpa [Array.mem_push] using ih
        · by_cases h2 : y = b
          · simp [h1, h2, hs]
            have := ih
            simp only [Array.mem_push] at this
            simp at this ⊢
            omega
          · simp [h1, h2]; simpa [Array.mem_push] using ih
    by_cases hx : x = b
    · subst hx
      have := mono bs
      simp only [List.filter_cons, Array.mem_push] at this ⊢
      simp [hs] at this ⊢
      omega
    · have hb' : b ∈ bs := by rcases List.mem_cons.1 hb with h | h; exact absurd h.symm hx; exact h
      have := ih hb'
      simp only [List.filter_cons, Array.mem_push] at this ⊢
      by_cases h1 : x ∈ seen
      · simp [h1] at this ⊢; exact this
      · simp [h1, hx] at this ⊢; exact this

end Go.Proofs.Qxb6500569aGreat
