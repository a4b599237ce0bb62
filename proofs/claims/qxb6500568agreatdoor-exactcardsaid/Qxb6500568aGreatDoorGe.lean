import Derived.Test.Qxb6500568aGreatDoorHa
import Derived.Test.Qxb6500568aGreatDoorGd
/- Library: whose a block is. -/
namespace Go.Proofs.Qxb6500568aGreatDoor
set_option linter.unusedVariables false
set_option linter.unusedSimpArgs false

/-- New blocks, from s on, belong to t. -/
def nw (ow : Nat → Nat) (s t : Nat) : Nat → Nat := fun b => if s ≤ b then t else ow b
theorem nw_new {ow : Nat → Nat} {s t b : Nat} (h : s ≤ b) : nw ow s t b = t := if_pos h
theorem nw_old {ow : Nat → Nat} {s t b : Nat} (h : b < s) : nw ow s t b = ow b := if_neg (by omega)
/-- Of the old blocks nothing turns. -/
def Xt (w : World) (ow ow' : Nat → Nat) : Prop := ∀ b, b < w.heap.size → ow' b = ow b
theorem Xt.refl (w : World) (ow : Nat → Nat) : Xt w ow ow := fun _ _ => rfl
theorem Xt.trans {w w1 : World} {ow ow1 ow2 : Nat → Nat} (h : Xt w ow ow1) (hs : w.heap.size ≤ w1.heap.size) (h2 : Xt w1 ow1 ow2) : Xt w ow ow2 := fun b hb => (h2 b (by omega)).trans (h b hb)
theorem Xt.nw {w : World} {ow : Nat → Nat} {s t : Nat} (hs : w.heap.size ≤ s) : Xt w ow (nw ow s t) := fun b hb => nw_old (by omega)
theorem Xt.thenNw {w : World} {ow ow1 : Nat → Nat} {s t : Nat} (h : Xt w ow ow1) (hs : w.heap.size ≤ s) : Xt w ow (Go.Proofs.Qxb6500568aGreatDoor.nw ow1 s t) := fun b hb => (nw_old (by omega)).trans (h b hb)
/-- The blocks whose tags are in p. -/
def tg (ow : Nat → Nat) (p : Nat → Prop) : Nat → Prop := fun b => p (ow b)

theorem ow_ne {ow : Nat → Nat} {b c i j : Nat} (hb : ow b = i) (hc : ow c = j) (h : i ≠ j) : b ≠ c := fun e => h (by rw [← hb, ← hc, e])

/-- A slice of one's own whose block bears a tag. -/
structure OwT (w : World) (ow : Nat → Nat) (tag : Nat) (v : Value) (e k n : Nat) (xs : List Value) : Prop where
  o : Own w.heap v e k n xs
  t : ∀ b, v.ownBlock = some b → ow b = tag

section
variable {w w' : World} {ow ow' : Nat → Nat} {tag : Nat} {v : Value} {e k n : Nat} {xs : List Value} {G : Nat → Prop}

theorem OwT.far (h : OwT w ow tag v e k n xs) (f : Fram G w w') (hn : ∀ b, ow b = tag → b < w.heap.size → ¬ G b) (hE : Xt w ow ow') : OwT w' ow' tag v e k n xs :=
  ⟨h.o.fram f (fun b hb => hn b (h.t b hb) (h.o.lt hb)), fun b hb => by rw [hE b (h.o.lt hb)]; exact h.t b hb⟩
theorem OwT.nil (w : World) (ow : Nat → Nat) (tag e k : Nat) : OwT w ow tag (.slice none 0 0) e k 0 [] := ⟨Own.nil _ _ _, fun b hb => by simp [Value.ownBlock] at hb⟩
theorem OwT.take {a : Option Addr} {cap m : Nat} (h : OwT w ow tag (.slice a n cap) e k n xs) (hm : m ≤ n) : OwT w ow tag (.slice a m cap) e k m (xs.take (m * k)) :=
  ⟨h.o.take hm, fun b hb => h.t b (by cases a <;> exact hb)⟩
theorem OwT.form (h : OwT w ow tag v e k n xs) : ∃ a cap, v = .slice a n cap := h.o.form
theorem OwT.one (h : OwT w ow tag v e k n xs) : v.oneCell' = true := by obtain ⟨a, c, rfl⟩ := h.form; rfl
/-- Grown by an append. -/
theorem OwT.grow {v' : Value} {n' : Nat} {ys : List Value} (h : OwT w ow tag v e k n xs) (hon : Own w'.heap v' e k n' ys) (hnb : nob v v' w) (hs : w.heap.size ≤ w'.heap.size) : OwT w' (Go.Proofs.Qxb6500568aGreatDoor.nw ow w.heap.size tag) tag v' e k n' ys :=
  ⟨hon, fun b hb => by
    rcases hnb b hb with h' | h'
    · rw [nw_old (h.o.lt h')]; exact h.t b h'
    · exact nw_new h'⟩
theorem OwT.owns (h : OwT w ow tag v e k n xs) : ∀ b, own1 v b → ow b = tag := fun b hb => h.t b hb

variable {α : Type} {enc : α → List Value} {L : List α}
theorem OwT.at (hk : ∀ x, (enc x).length = k) {i : Nat} {x : α} (h : OwT w ow tag v e k L.length (rws enc L)) (hi0 : L[i]? = some x) :
    ∃ g cap l, v = .slice (some ⟨g, 0, none⟩) L.length cap ∧ Blk w.heap g l e ∧ L.length ≤ cap ∧ l.length = cap * k ∧ l.take (L.length * k) = rws enc L ∧ ow g = tag ∧ (∀ j y, L[j]? = some y → (l.drop (0 + j * k)).take k = enc y) := by
  have hl := (List.getElem?_eq_some_iff.1 hi0).1
  obtain ⟨g, cap, l, hV, hB, h1, h2, h3, h4⟩ := h.o.pos (by omega)
  refine ⟨g, cap, l, hV, hB, h1, h3, h4, h.t g (by rw [hV]; rfl), ?_⟩
  intro j y hj
  have hjl := (List.getElem?_eq_some_iff.1 hj).1
  rw [Nat.zero_add, ← rws_at hk hj, ← h4, List.drop_take, List.take_take]
  congr 1
  have : j * k + k ≤ L.length * k := by
    have := Nat.mul_le_mul_right k (show j + 1 ≤ L.length from hjl)
    rw [Nat.add_mul] at this
    omega
  omega
theorem OwT.mk' {g cap : Nat} {l : List Value} (hk : ∀ x, (enc x).length = k) (hB : Blk w.heap g l e) (h1 : L.length ≤ cap) (h2 : cap ≤ 9223372036854775807) (h3 : l.length = cap * k) (h4 : l.take (L.length * k) = rws enc L) (ht : ow g = tag) : OwT w ow tag (.slice (some ⟨g, 0, none⟩) L.length cap) e k L.length (rws enc L) :=
  ⟨⟨rws_len hk L, .inr ⟨g, cap, l, rfl, hB, h1, h2, h3, h4⟩⟩, fun b hb => by cases hb; exact ht⟩
theorem OwT.cap (h : OwT w ow tag v e k n xs) {g cap : Nat} (hv : v = .slice (some ⟨g, 0, none⟩) n cap) : cap ≤ 9223372036854775807 := by
  subst hv
  rcases h.o.2 with ⟨h1, h2⟩ | ⟨g', cap', l, h1, h2, h3, h4, _⟩
  · cases h1
  · cases h1; exact h4

/-- Part of a row put anew. -/
theorem seg_take {l cs : List Value} {N p m : Nat} (hm : cs.length = m) (hp : p + m ≤ N) (hN : N ≤ l.length) : (l.take p ++ cs ++ l.drop (p + m)).take N = (l.take N).take p ++ cs ++ (l.take N).drop (p + m) := by
  apply List.ext_getElem?
  intro i
  subst hm
  have e1 : min p N = p := by omega
  have e2 : min p l.length = p := by omega
  simp only [List.getElem?_take, List.getElem?_append, List.length_append, List.length_take, e1, e2, List.getElem?_drop, List.take_take]
  by_cases h1 : i < N
  · rw [if_pos h1]
    by_cases h2 : i < p
    · simp [h2, show i < p + cs.length by omega, h1]
    · by_cases h3 : i < p + cs.length
      · simp [h2, h3]
      · simp only [h3, if_false]
        rw [if_pos (by omega)]
  · rw [if_neg h1, if_neg (by omega), if_neg (by omega)]
theorem rws_put (hk : ∀ x, (enc x).length = k) : ∀ {L : List α} {i j m : Nat} {x x' : α} {cs : List Value}, L[i]? = some x → cs.length = m → j + m ≤ k → enc x' = (enc x).take j ++ cs ++ (enc x).drop (j + m) → (rws enc L).take (i * k + j) ++ cs ++ (rws enc L).drop (i * k + j + m) = rws enc (L.set i x')
  | y :: L, 0, j, m, x, x', cs, h, hm, hj, he => by
    simp only [List.getElem?_cons_zero, Option.some.injEq] at h
    subst h
    have e : rws enc (y :: L) = enc y ++ rws enc L := by simp [rws]
    have e' : rws enc ((y :: L).set 0 x') = enc x' ++ rws enc L := by simp [rws]
    rw [e, e', he, Nat.zero_mul, Nat.zero_add, List.take_append_of_le_length (by rw [hk]; omega), List.drop_append_of_le_length (by rw [hk]; omega)]
    simp only [List.append_assoc]
  | y :: L, i + 1, j, m, x, x', cs, h, hm, hj, he => by
    rw [List.getElem?_cons_succ] at h
    have ih := rws_put hk h hm hj he
    have e : rws enc (y :: L) = enc y ++ rws enc L := by simp [rws]
    have e' : rws enc ((y :: L).set (i + 1) x') = enc y ++ rws enc (L.set i x') := by simp [rws]
    have e1 : (i + 1) * k + j = (enc y).length + (i * k + j) := by rw [hk, Nat.add_mul]; omega
    have e2 : (enc y).length + (i * k + j) + m = (enc y).length + (i * k + j + m) := by omega
    rw [e, e', e1, e2, List.take_length_add_append, List.drop_length_add_append, ← ih]
    simp only [List.append_assoc]
/-- An element of an owned slice put anew in part. -/
theorem OwT.put {g cap : Nat} {l l' cs : List Value} {i j m : Nat} {x x' : α} (hk : ∀ x, (enc x).length = k) (hB : Blk w'.heap g l' e) (h1 : L.length ≤ cap) (h2 : cap ≤ 9223372036854775807) (h3 : l.length = cap * k) (h4 : l.take (L.length * k) = rws enc L) (ht : ow g = tag)
    (hl : l' = l.take (i * k + j) ++ cs ++ l.drop (i * k + j + m)) (hx : L[i]? = some x) (hm : cs.length = m) (hj : j + m ≤ k) (he : enc x' = (enc x).take j ++ cs ++ (enc x).drop (j + m)) : OwT w' ow tag (.slice (some ⟨g, 0, none⟩) L.length cap) e k L.length (rws enc (L.set i x')) := by
  have hil := (List.getElem?_eq_some_iff.1 hx).1
  have hb1 : i * k + k ≤ L.length * k := by
    have := Nat.mul_le_mul_right k (show i + 1 ≤ L.length from hil)
    rw [Nat.add_mul] at this; omega
  have hb2 : L.length * k ≤ cap * k := Nat.mul_le_mul_right k h1
  have key : l'.take (L.length * k) = rws enc (L.set i x') := by
    rw [hl, seg_take hm (by omega) (by omega), h4, rws_put hk hx hm hj he]
  have := OwT.mk' (w := w') (ow := ow) (tag := tag) (L := L.set i x') (cap := cap) hk hB (by rw [List.length_set]; exact h1) h2 (by
    rw [hl]; simp only [List.length_append, List.length_take, List.length_drop, hm]; omega) (by rw [List.length_set]; exact key) ht
  rwa [List.length_set] at this
end
end Go.Proofs.Qxb6500568aGreatDoor
