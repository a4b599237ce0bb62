import Derived.Test.Qxb6500568aGreatDoorFh
/- Lists of rows of one's own. -/
namespace Go.Proofs.Qxb6500568aGreatDoor
set_option linter.unusedVariables false
set_option linter.unusedSimpArgs false

/-- Rows, each told by so many cells. -/
def rws {α : Type} (enc : α → List Value) (L : List α) : List Value := L.flatMap enc

section
variable {α : Type} {enc : α → List Value} {et k : Nat}

theorem rws_app (A B : List α) : rws enc (A ++ B) = rws enc A ++ rws enc B := by simp [rws]
theorem rws_one (x : α) : rws enc [x] = enc x := by simp [rws]
theorem rws_len (hk : ∀ x, (enc x).length = k) : ∀ L : List α, (rws enc L).length = L.length * k
  | [] => by simp [rws]
  | x :: L => by
    have := rws_len hk L
    unfold rws at this ⊢
    rw [List.flatMap_cons, List.length_append, this, hk x, List.length_cons, Nat.add_mul]
    omega
theorem rws_at (hk : ∀ x, (enc x).length = k) : ∀ {L : List α} {i : Nat} {x : α}, L[i]? = some x → ((rws enc L).drop (i * k)).take k = enc x
  | y :: L, 0, x, h => by
    simp only [List.getElem?_cons_zero, Option.some.injEq] at h
    subst h
    rw [Nat.zero_mul, List.drop_zero]
    unfold rws
    rw [List.flatMap_cons, List.take_left' (hk y)]
  | y :: L, i + 1, x, h => by
    rw [List.getElem?_cons_succ] at h
    have := rws_at hk h
    have e : rws enc (y :: L) = enc y ++ rws enc L := by simp [rws]
    rw [e, show (i + 1) * k = k + i * k by rw [Nat.add_mul]; omega, ← List.drop_drop, List.drop_left' (hk y)]
    exact this
end

/-- A list of one's own, its block between lo and hi. -/
structure RWV {α : Type} (enc : α → List Value) (et k : Nat) (w : World) (V : Value) (L : List α) (lo hi : Nat) : Prop where
  own : Own w.heap V et k L.length (rws enc L)
  lo' : ∀ b, V.ownBlock = some b → lo ≤ b
  hi' : ∀ b, V.ownBlock = some b → b < hi

section
variable {α : Type} {enc : α → List Value} {et k : Nat} {w w' : World} {V : Value} {L : List α} {lo hi d : Nat} {F : Nat → Prop}

theorem RWV.framS (h : RWV enc et k w V L lo hi) (f : Fram F { w with drawn := d } w') (hn : ∀ b, lo ≤ b → b < hi → ¬ F b) : RWV enc et k w' V L lo hi :=
  ⟨(show Own ({ w with drawn := d } : World).heap V et k L.length (rws enc L) from h.own).fram f (fun b hb => hn b (h.lo' b hb) (h.hi' b hb)), h.lo', h.hi'⟩
theorem RWV.framN (h : RWV enc et k w V L lo hi) (f : Fram none' w w') : RWV enc et k w' V L lo hi := h.framS f (fun _ _ _ h => h)
theorem RWV.framO {c : Nat} (h : RWV enc et k w V L lo hi) (f : Fram (one c) w w') (hn : c < lo ∨ hi ≤ c) : RWV enc et k w' V L lo hi := h.framS f (fun b h1 h2 he => by simp only [one] at he; omega)
theorem RWV.wide {lo1 hi1 : Nat} (h : RWV enc et k w V L lo hi) (h1 : lo1 ≤ lo) (h2 : hi ≤ hi1) : RWV enc et k w V L lo1 hi1 :=
  ⟨h.own, fun b hb => by have := h.lo' b hb; omega, fun b hb => by have := h.hi' b hb; omega⟩
theorem RWV.nil (enc : α → List Value) (et k : Nat) (w : World) (lo hi : Nat) : RWV enc et k w (.slice none 0 0) [] lo hi := ⟨Own.nil _ _ _, fun b hb => by simp [Value.ownBlock] at hb, fun b hb => by simp [Value.ownBlock] at hb⟩

theorem RWV.at (hk : ∀ x, (enc x).length = k) {i : Nat} {x : α} (h : RWV enc et k w V L lo hi) (hi0 : L[i]? = some x) : ∃ g cap l, V = .slice (some ⟨g, 0, none⟩) L.length cap ∧ Blk w.heap g l et ∧ L.length ≤ cap ∧ l.length = cap * k ∧ lo ≤ g ∧ g < hi ∧ (∀ j y, L[j]? = some y → (l.drop (0 + j * k)).take k = enc y) := by
  have hl := (List.getElem?_eq_some_iff.1 hi0).1
  obtain ⟨g, cap, l, hV, hB, h1, h2, h3, h4⟩ := h.own.pos (by omega)
  refine ⟨g, cap, l, hV, hB, h1, h3, h.lo' g (by rw [hV]; rfl), h.hi' g (by rw [hV]; rfl), ?_⟩
  intro j y hj
  have hjl := (List.getElem?_eq_some_iff.1 hj).1
  rw [Nat.zero_add, ← rws_at hk hj, ← h4, List.drop_take, List.take_take]
  congr 1
  have : j * k + k ≤ L.length * k := by
    have := Nat.mul_le_mul_right k (show j + 1 ≤ L.length from hjl)
    rw [Nat.add_mul] at this
    omega
  omega

theorem row_cell {l : List Value} {i j : Nat} {cs : List Value} {v : Value} (h : (l.drop (0 + i * k)).take k = cs) (hv : cs[j]? = some v) : l[0 + i * k + j]? = some v := by
  rw [← h, List.getElem?_take] at hv
  split at hv
  · rw [List.getElem?_drop] at hv; exact hv
  · cases hv

/-- One appended. -/
theorem RWV.app {x : α} {V' : Value} (h : RWV enc et k w V L lo hi) (hon : Own w'.heap V' et k (L.length + 1) (rws enc L ++ enc x)) (hnb : nob V V' w) (hl : lo ≤ w.heap.size) (hh : hi ≤ w.heap.size) : RWV enc et k w' V' (L ++ [x]) lo w'.heap.size :=
  ⟨by rw [rws_app, rws_one, List.length_append]; exact hon, fun b hb => by
    rcases hnb b hb with h' | h'
    · exact h.lo' b h'
    · omega, fun b hb => hon.lt hb⟩
end

end Go.Proofs.Qxb6500568aGreatDoor
