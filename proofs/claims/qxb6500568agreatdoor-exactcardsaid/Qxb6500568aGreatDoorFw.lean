import Derived.Test.Qxb6500568aGreatDoorHa
/- Rows of values of one breadth: one of them read, written, in part or whole. -/
namespace Go.Proofs.Qxb6500568aGreatDoor
set_option linter.unusedVariables false
section
variable {α : Type} {enc : α → List Value} {k : Nat}

theorem rw_split {L : List α} {i : Nat} {x : α} (h : L[i]? = some x) : rws enc L = rws enc (L.take i) ++ (enc x ++ rws enc (L.drop (i + 1))) := by
  obtain ⟨hi, hx⟩ := List.getElem?_eq_some_iff.1 h
  have e : L = L.take i ++ ([x] ++ L.drop (i + 1)) := by
    rw [← hx, List.singleton_append, ← List.drop_eq_getElem_cons hi, List.take_append_drop]
  conv => lhs; rw [e]
  rw [rws_app, rws_app, rws_one]
theorem rw_tlen (hk : ∀ x, (enc x).length = k) {L : List α} {i : Nat} {x : α} (h : L[i]? = some x) : (rws enc (L.take i)).length = i * k := by
  have := (List.getElem?_eq_some_iff.1 h).1
  rw [rws_len hk, List.length_take, Nat.min_eq_left (by omega)]
theorem rw_set {L : List α} {i : Nat} {x x' : α} (h : L[i]? = some x) : rws enc (L.set i x') = rws enc (L.take i) ++ (enc x' ++ rws enc (L.drop (i + 1))) := by
  have hi := (List.getElem?_eq_some_iff.1 h).1
  rw [rw_split (L := L.set i x') (i := i) (x := x') (by simp [hi]), List.take_set_of_le (Nat.le_refl _), List.drop_set_of_lt (by omega)]
theorem rw_get (hk : ∀ x, (enc x).length = k) {L : List α} {i j o : Nat} {x : α} {v : Value} (h : L[i]? = some x) (he : o = i * k + j) (hj : (enc x)[j]? = some v) : (rws enc L)[o]? = some v := by
  have hl := rw_tlen (enc := enc) hk h
  have hjk := (List.getElem?_eq_some_iff.1 hj).1
  rw [rw_split h, List.getElem?_append_right (by omega), hl, he, Nat.add_sub_cancel_left, List.getElem?_append_left hjk, hj]
theorem rw_sub (hk : ∀ x, (enc x).length = k) {L : List α} {i j o m : Nat} {x : α} (h : L[i]? = some x) (he : o = i * k + j) (hm : j + m ≤ k) : ((rws enc L).drop o).take m = ((enc x).drop j).take m := by
  have hl := rw_tlen (enc := enc) hk h
  have hx := hk x
  rw [rw_split h, he, ← hl, List.drop_append, List.drop_eq_nil_of_le (by omega), Nat.add_sub_cancel_left, List.nil_append, List.drop_append_of_le_length (by omega), List.take_append_of_le_length (by rw [List.length_drop]; omega)]
theorem rw_agg (hk : ∀ x, (enc x).length = k) {L : List α} {i o : Nat} {x : α} (h : L[i]? = some x) (he : o = i * k) : ((rws enc L).drop o).take k = enc x := by
  rw [he]; exact rws_at hk h
theorem rw_puts (hk : ∀ x, (enc x).length = k) {L : List α} {i j o m : Nat} {x x' : α} {cs : List Value} (h : L[i]? = some x) (he : o = i * k + j) (hm : j + m ≤ k) (hx' : (enc x).take j ++ cs ++ (enc x).drop (j + m) = enc x') :
    (rws enc L).take o ++ cs ++ (rws enc L).drop (o + m) = rws enc (L.set i x') := by
  have hl := rw_tlen (enc := enc) hk h
  have hx := hk x
  rw [rw_set (x := x) h, ← hx']
  conv => lhs; rw [rw_split (enc := enc) h]
  rw [he, ← hl, List.take_append, List.take_of_length_le (by omega), Nat.add_sub_cancel_left, List.take_append_of_le_length (by omega), Nat.add_assoc, List.drop_append, List.drop_eq_nil_of_le (by omega), Nat.add_sub_cancel_left, List.nil_append, List.drop_append_of_le_length (by omega)]
  simp only [List.append_assoc]
theorem rw_put (hk : ∀ x, (enc x).length = k) {L : List α} {i j o : Nat} {x x' : α} {v : Value} (h : L[i]? = some x) (he : o = i * k + j) (hj : j < k) (hx' : (enc x).set j v = enc x') : (rws enc L).set o v = rws enc (L.set i x') := by
  have hl := rw_tlen (enc := enc) hk h
  have hx := hk x
  rw [rw_set (x := x) h, ← hx', rw_split h, he, ← hl, List.set_append_right _ _ (by omega), Nat.add_sub_cancel_left, List.set_append_left _ _ (by omega)]
theorem rw_puta (hk : ∀ x, (enc x).length = k) {L : List α} {i o : Nat} {x' : α} (hi : i < L.length) (he : o = i * k) : (rws enc L).take o ++ enc x' ++ (rws enc L).drop (o + k) = rws enc (L.set i x') := by
  have h : L[i]? = some L[i] := List.getElem?_eq_getElem hi
  refine rw_puts hk (j := 0) (m := k) h (by omega) (by omega) ?_
  rw [List.take_zero, List.nil_append, Nat.zero_add, List.drop_eq_nil_of_le (by rw [hk]; exact Nat.le_refl _), List.append_nil]
theorem rw_fit (hk : ∀ x, (enc x).length = k) {L : List α} {i j o m : Nat} (hi : i < L.length) (he : o = i * k + j) (hm : j + m ≤ k) : o + m ≤ (rws enc L).length := by
  rw [rws_len hk]
  have : i * k + k ≤ L.length * k := by rw [← Nat.succ_mul]; exact Nat.mul_le_mul_right k hi
  omega
end

end Go.Proofs.Qxb6500568aGreatDoor
