import Derived.Test.Qxb6500569aGreatWb
/- The model heap in memory. -/
namespace Go.Proofs.Qxb6500569aGreat
set_option linter.unusedVariables false
set_option linter.unusedSimpArgs false

def ndc (nd : Nd) : List Value := [S nd.h, i64c nd.r] ++ nd.a.map i64c

def A4 (hp : List Nd) : Prop := ∀ nd ∈ hp, nd.a.length = 4

theorem ndc_len {nd : Nd} (h : nd.a.length = 4) : (ndc nd).length = 6 := by simp [ndc, h]

theorem ndcs_len : ∀ {hp : List Nd}, A4 hp → (hp.flatMap ndc).length = hp.length * 6
  | [], _ => rfl
  | nd :: hp, h => by
    have h1 := ndc_len (h nd (by simp))
    have h2 := ndcs_len (hp := hp) (fun x hx => h x (by simp [hx]))
    simp only [List.flatMap_cons, List.length_append, h1, h2, List.length_cons]
    omega

theorem ndcs_get : ∀ {hp : List Nd} {a j : Nat} {nd : Nd} {v : Value}, A4 hp → hp[a]? = some nd → (ndc nd)[j]? = some v → (hp.flatMap ndc)[a * 6 + j]? = some v
  | [], a, j, nd, v, _, h, _ => by simp at h
  | x :: hp, 0, j, nd, v, h4, h, hv => by
    simp at h; subst h
    have := (List.getElem?_eq_some_iff.1 hv).1
    rw [List.flatMap_cons, List.getElem?_append_left (by omega)]
    simpa using hv
  | x :: hp, a + 1, j, nd, v, h4, h, hv => by
    simp at h
    have h1 := ndc_len (h4 x (by simp))
    rw [List.flatMap_cons, List.getElem?_append_right (by omega), h1]
    have := ndcs_get (hp := hp) (fun y hy => h4 y (by simp [hy])) h hv
    rw [show (a + 1) * 6 + j - 6 = a * 6 + j by omega]
    exact this

theorem ndc_h (nd : Nd) : (ndc nd)[0]? = some (S nd.h) := rfl
theorem ndc_r (nd : Nd) : (ndc nd)[1]? = some (i64c nd.r) := rfl
theorem ndc_a {nd : Nd} {i k : Nat} (h : nd.a[i]? = some k) : (ndc nd)[2 + i]? = some (i64c k) := by
  unfold ndc
  rw [List.getElem?_append_right (by simp)]
  simp [h]

/-- The model heap at hb, its nodes in the slice V. -/
structure MH (H : Array Obj) (hb : Nat) (V : Value) (hp : List Nd) : Prop where
  blk : Blk H hb [V, .slice none 0 0, .slice none 0 0] 121
  own : Own H V 184 6 hp.length (hp.flatMap ndc)
  a4 : A4 hp

theorem MH.fram {F : Nat → Prop} {w w' : World} {hb : Nat} {V : Value} {hp : List Nd} (h : MH w.heap hb V hp) (hf : Fram F w w') (hn : ¬ F hb) (hv : ∀ b, V.ownBlock = some b → ¬ F b) : MH w'.heap hb V hp :=
  ⟨h.blk.fram hf hn, h.own.fram hf hv, h.a4⟩

theorem MH.none {w w' : World} {hb : Nat} {V : Value} {hp : List Nd} (h : MH w.heap hb V hp) (hf : Fram none' w w') : MH w'.heap hb V hp := h.fram hf (fun h => h) (fun _ _ h => h)

theorem a4_abs (R : RH) : A4 R.abs := by
  intro nd h
  obtain ⟨i, hi⟩ := List.getElem?_of_mem h
  obtain ⟨_, rfl⟩ := abs_some hi
  unfold RH.node
  split
  · exact pad4_length _
  · rfl

theorem own_cell {l xs : List Value} {m i : Nat} {v : Value} (h : l.take m = xs) (hv : xs[i]? = some v) : l[i]? = some v := own_get h hv

end Go.Proofs.Qxb6500569aGreat
