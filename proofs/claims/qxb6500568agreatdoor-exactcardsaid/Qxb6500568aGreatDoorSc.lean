import Derived.Test.Qxb6500568aGreatDoorWl
import Derived.Scope
namespace Go.Proofs.Qxb6500568aGreatDoor
set_option linter.unusedVariables false
set_option linter.unusedSimpArgs false

/-! Scopes with jumps to several labels. -/

/-- As Q; by a goto to a label of the scope: J. -/
def jmp (c : Code) (J : Nat → Act → World → Prop) (Q : Exit → Act → World → Prop) : Exit → Act → World → Prop
  | .goto l, a, w => match findLabel c l with | some _ => J l a w | none => Q (.goto l) a w
  | e, a, w => Q e a w

section
variable {P : Program} {n : Nat} {e : Nat → Option Value} {ds : List Deferred} {w : World} {a : Act} {Q : Exit → Act → World → Prop} {c : Code} {J : Nat → Act → World → Prop}

theorem x_sc (h : Q .normal a w) : jmp c J Q .normal a w := h
theorem x_scX {i : Nat} (h : Q (.exit i) a w) : jmp c J Q (.exit i) a w := h
theorem x_scR (h : Q .ret a w) : jmp c J Q .ret a w := h
theorem x_scP {ch : List PanicEntry} (h : Q (.panic ch) a w) : jmp c J Q (.panic ch) a w := h
theorem x_scG {l : Nat} (hf : (findLabel c l).isSome = true) (h : J l a w) : jmp c J Q (.goto l) a w := by
  show (match findLabel c l with | some _ => J l a w | none => Q (.goto l) a w)
  cases hx : findLabel c l with
  | none => rw [hx] at hf; cases hf
  | some r => exact h
theorem x_scN {l : Nat} (hf : (findLabel c l).isSome = false) (h : Q (.goto l) a w) : jmp c J Q (.goto l) a w := by
  show (match findLabel c l with | some _ => J l a w | none => Q (.goto l) a w)
  cases hx : findLabel c l with
  | none => exact h
  | some r => rw [hx] at hf; cases hf
theorem po_sc (h : PanOk Q) : PanOk (jmp c J Q) := fun ch a a' w hd hq => h ch a a' w hd hq

theorem c_scope (J : Nat → Nat → Act → World → Prop) (first : WC P c (jmp c (fun l a w => ∃ m, J l m a w) Q) a w)
    (pass : ∀ l m a w, J l m a w → ∀ rest, findLabel c l = some rest → WC P rest (jmp c (fun l a' w' => ∃ m', m' < m ∧ J l m' a' w') Q) a w) : WC P (Code.scope c) Q a w := by
  refine ⟨?_⟩
  intro b k cs
  have key : ∀ m l a w, J l m a w → ∀ rest, findLabel c l = some rest → ∃ e a' w', Q e a' w' ∧ Arrives P (lone (b.at a (.code rest :: .inScope c :: k)) cs w) b k cs e a' w' := by
    intro m
    induction m using Nat.strongRecOn with
    | _ m ih =>
      intro l a w hJ rest hr
      obtain ⟨e, a₁, w₁, hq, harr⟩ := (pass l m a w hJ rest hr).out b (.inScope c :: k) cs
      cases e with
      | normal => exact ⟨.normal, a₁, w₁, hq, Steps.trans harr (.one step_inScope)⟩
      | exit id => exact ⟨.exit id, a₁, w₁, hq, fun k' hk => harr k' (by simp [exitTo, hk])⟩
      | goto l' =>
        simp only [jmp] at hq
        cases hf : findLabel c l' with
        | none =>
          rw [hf] at hq
          exact ⟨.goto l', a₁, w₁, hq, fun k' hk => harr k' (by simp [gotoIn, hf, hk])⟩
        | some rest' =>
          rw [hf] at hq
          obtain ⟨m', hlt, hJ'⟩ := hq
          obtain ⟨e₂, a₂, w₂, hq₂, harr₂⟩ := ih m' hlt l' a₁ w₁ hJ' rest' hf
          exact ⟨e₂, a₂, w₂, hq₂, .of_steps (harr _ (by simp [gotoIn, hf])) harr₂⟩
      | ret => exact ⟨_, a₁, w₁, hq, harr⟩
      | panic ch => exact ⟨_, a₁, w₁, hq, harr⟩
      | outgrown => exact ⟨_, a₁, w₁, hq, harr⟩
  obtain ⟨e, a₁, w₁, hq, harr⟩ := first.out b (.inScope c :: k) cs
  cases e with
  | normal => exact ⟨.normal, a₁, w₁, hq, .head step_scope (Steps.trans harr (.one step_inScope))⟩
  | exit id => exact ⟨.exit id, a₁, w₁, hq, fun k' hk => .head step_scope (harr k' (by simp [exitTo, hk]))⟩
  | goto l' =>
    simp only [jmp] at hq
    cases hf : findLabel c l' with
    | none =>
      rw [hf] at hq
      exact ⟨.goto l', a₁, w₁, hq, fun k' hk => .head step_scope (harr k' (by simp [gotoIn, hf, hk]))⟩
    | some rest' =>
      rw [hf] at hq
      obtain ⟨m', hJ'⟩ := hq
      obtain ⟨e₂, a₂, w₂, hq₂, harr₂⟩ := key m' l' a₁ w₁ hJ' rest' hf
      exact ⟨e₂, a₂, w₂, hq₂, .of_steps (.head step_scope (harr _ (by simp [gotoIn, hf]))) harr₂⟩
  | ret => exact ⟨_, a₁, w₁, hq, .of_steps (.one step_scope) harr⟩
  | panic ch => exact ⟨_, a₁, w₁, hq, .of_steps (.one step_scope) harr⟩
  | outgrown => exact ⟨_, a₁, w₁, hq, .of_steps (.one step_scope) harr⟩

theorem wc_mono {Q' : Exit → Act → World → Prop} (h : WC P c Q a w) (hq : ∀ e a w, Q e a w → Q' e a w) : WC P c Q' a w := ⟨wp_mono h.out hq⟩

end
end Go.Proofs.Qxb6500568aGreatDoor
