import Derived.Test.Qxb6500568aGreatDoorFb
/- Blocks told by a function from places to values. -/
namespace Go.Proofs.Qxb6500568aGreatDoor
set_option linter.unusedVariables false
set_option linter.unusedSimpArgs false

/-- The cells 0 .. n - 1. -/
abbrev cel (n : Nat) (f : Nat → Value) : List Value := (List.range n).map f
/-- One cell put anew; a row of cells put anew. -/
def pt (f : Nat → Value) (i : Nat) (v : Value) : Nat → Value := fun j => if j = i then v else f j
def pts (f : Nat → Value) (i : Nat) (cs : List Value) : Nat → Value := fun j => if i ≤ j ∧ j < i + cs.length then cs.getD (j - i) undef else f j

theorem cel_get {n i : Nat} {f : Nat → Value} (h : i < n) : (cel n f)[i]? = some (f i) := by simp [cel, h]
theorem cel_get' {n i : Nat} {f : Nat → Value} {v : Value} (h : i < n) (hv : f i = v) : (cel n f)[i]? = some v := by rw [cel_get h, hv]
theorem cel_set {n i : Nat} {f : Nat → Value} {v : Value} : (cel n f).set i v = cel n (pt f i v) := by
  apply List.ext_getElem?
  intro j
  simp only [cel, List.getElem?_set, List.length_map, List.length_range, List.getElem?_map, List.getElem?_range, pt]
  by_cases h1 : i = j
  · subst h1
    by_cases h2 : i < n <;> simp [h2, pt]
  · by_cases h2 : j < n
    · simp [h1, h2, pt, Ne.symm h1]
    · simp [h1, h2]
theorem cel_seg {n i m : Nat} {f : Nat → Value} {cs : List Value} (hm : cs.length = m) (h : i + m ≤ n) : (cel n f).take i ++ cs ++ (cel n f).drop (i + m) = cel n (pts f i cs) := by
  apply List.ext_getElem?
  intro j
  subst hm
  simp only [cel, List.getElem?_append, List.length_append, List.length_take, List.length_map, List.length_range, List.getElem?_take, List.getElem?_drop, List.getElem?_map, List.getElem?_range, pts]
  have hmin : min i n = i := by omega
  rw [hmin]
  by_cases h1 : j < i
  · have h2 : ¬ (i ≤ j ∧ j < i + cs.length) := by omega
    simp [pts, h1, h2, show j < i + cs.length by omega, show j < n by omega]
    omega
  · by_cases h3 : j < i + cs.length
    · have h4 : j - i < cs.length := by omega
      simp [pts, h1, h3, show i ≤ j by omega, show j < n by omega, h4, List.getD]
    · by_cases h5 : j < n
      · simp [pts, h1, h3, h5, show i + cs.length + (j - (i + cs.length)) = j by omega]
      · simp [h1, h3, h5, show i + cs.length + (j - (i + cs.length)) = j by omega]
theorem cel_sub {n o k : Nat} {f : Nat → Value} (h : o + k ≤ n) : ((cel n f).drop o).take k = cel k (fun j => f (o + j)) := by
  apply List.ext_getElem?
  intro j
  simp only [cel, List.getElem?_take, List.getElem?_drop, List.getElem?_map, List.getElem?_range]
  by_cases h1 : j < k
  · simp [h1, show o + j < n by omega]
  · simp [h1]
theorem cel_len {n : Nat} {f : Nat → Value} : (cel n f).length = n := by simp [cel]
theorem cel_congr {n : Nat} {f g : Nat → Value} (h : ∀ j, j < n → f j = g j) : cel n f = cel n g := by
  apply List.map_congr_left
  intro j hj
  exact h j (List.mem_range.1 hj)
theorem cel_of (l : List Value) : l = cel l.length (fun j => l.getD j undef) := by
  apply List.ext_getElem?
  intro j
  by_cases h : j < l.length
  · rw [cel_get h]; simp [List.getD, h]
  · simp [cel, h]

theorem pt_same {f : Nat → Value} {i : Nat} {v : Value} : pt f i v i = v := by simp [pt]
theorem pt_ne {f : Nat → Value} {i j : Nat} {v : Value} (h : j ≠ i) : pt f i v j = f j := by simp [pt, h]
theorem pts_in {f : Nat → Value} {i j : Nat} {cs : List Value} {v : Value} (h : cs[j]? = some v) : pts f i cs (i + j) = v := by
  have := (List.getElem?_eq_some_iff.1 h).1
  have e : cs[j] = v := by rw [List.getElem?_eq_getElem this] at h; exact Option.some.inj h
  simp [pts, this, List.getD, e]
theorem pts_out {f : Nat → Value} {i j : Nat} {cs : List Value} (h : j < i ∨ i + cs.length ≤ j) : pts f i cs j = f j := by
  unfold pts
  rw [if_neg (by omega)]

theorem cel_at {n i k : Nat} {f : Nat → Value} {v : Value} (h : i < n) (he : i = k) (hv : f k = v) : (cel n f)[i]? = some v := by subst he; exact cel_get' h hv
theorem cel_put {n i : Nat} {f : Nat → Value} {v : Value} (k : Nat) (he : i = k) : (cel n f).set i v = cel n (pt f k v) := by subst he; exact cel_set
theorem cel_puts {n i m : Nat} {f : Nat → Value} {cs : List Value} (k : Nat) (he : i = k) (hm : cs.length = m) (h : i + m ≤ n) : (cel n f).take i ++ cs ++ (cel n f).drop (i + m) = cel n (pts f k cs) := by subst he; exact cel_seg hm h
theorem cel_lt {n i : Nat} {f : Nat → Value} (h : i < n) : i < (cel n f).length := by rw [cel_len]; exact h

/-- A block of n cells. -/
abbrev FB (H : Array Obj) (b n : Nat) (f : Nat → Value) (t : TypeId) : Prop := Blk H b (cel n f) t

end Go.Proofs.Qxb6500568aGreatDoor
