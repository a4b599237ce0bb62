import Derived.Test.Qxb6500567aGreatPn
/- The sets of a program are sets of bytes. -/
namespace Go.Proofs.Qxb6500567aGreat
set_option linter.unusedVariables false
set_option linter.unusedSimpArgs false

def SOK : RE → Prop
  | .goto S => S < 2 ^ 256
  | .ret => True
  | .label _ => True
  | .seq a b => SOK a ∧ SOK b
  | .cond _ a b => SOK a ∧ SOK b
  | .rangeFunc _ _ xx a => SOK a
  | .block g a => SOK a
  | .skip => True
  | .region _ _ _ => True
  | .loop _ => True
  | .exit _ => True
  | .scope _ => True
  | .refuse _ => True

theorem WF.sok : ∀ {r : RE}, WF r → SOK r := by
  intro r
  induction r with
  | skip | region _ _ _ | exit _ | refuse _ | loop _ _ | scope _ _ | ret | label _ => intro _; trivial
  | goto S => exact id
  | seq a b ia ib => intro h; exact ⟨ia h.1, ib h.2⟩
  | cond _ a b ia ib => intro h; exact ⟨ia h.1, ib h.2⟩
  | rangeFunc _ _ xx a _ ia => intro h; exact ia h.1
  | block g a ia => intro h; exact ia h.1

theorem sok_chn {x : RE} (h : SOK x) : ∀ k, SOK (chn x k) := by
  intro k
  induction k with
  | zero => exact h
  | succ k ih => exact ⟨ih, h⟩

theorem sok_optn {x : RE} {lz : Bool} (h : SOK x) : ∀ k, SOK (optn x lz k) := by
  intro k
  induction k with
  | zero => trivial
  | succ k ih =>
    have hin : SOK (if k = 0 then x else .cat x (optn x lz k)) := by
      split
      · exact h
      · exact ⟨h, ih⟩
    have ho : optn x lz (k + 1) = if lz then .alt .emp (if k = 0 then x else .cat x (optn x lz k)) else .alt (if k = 0 then x else .cat x (optn x lz k)) .emp := rfl
    rw [ho]
    cases lz
    · exact ⟨hin, trivial⟩
    · exact ⟨trivial, hin⟩

theorem sok_tail {x t : RE} {mn : Nat} {mx : Option Nat} {lz : Bool} (h : SOK x) (ht : tailR x mn mx lz = some t) : SOK t := by
  unfold tailR at ht
  cases mx with
  | none => cases ht; exact h
  | some m =>
    simp only at ht
    split at ht
    · cases ht; exact sok_optn h _
    · cases ht

theorem sok_unr {x : RE} {mn : Nat} {mx : Option Nat} {lz : Bool} (h : SOK x) : SOK (unr x mn mx lz) := by
  unfold unr
  cases mn with
  | zero =>
    cases ht : tailR x 0 mx lz with
    | none => trivial
    | some t => exact sok_tail h ht
  | succ k =>
    cases ht : tailR x (k + 1) mx lz with
    | none => exact sok_chn h k
    | some t => exact ⟨sok_chn h k, sok_tail h ht⟩

theorem sok_if {a x : RE} (h : SOK x) : SOK (if shp a = 0 then .emp else if shp a = 1 then .set 0 else x) := by
  split
  · trivial
  · split
    · show (0 : Nat) < 2 ^ 256; exact Nat.two_pow_pos 256
    · exact h

theorem sok_core : ∀ (r : RE), SOK r → SOK (core r) := by
  intro r
  induction r with
  | skip | region _ _ _ | exit _ | refuse _ | loop _ _ | scope _ _ | ret | label _ => intro _; trivial
  | goto S => exact id
  | seq a b ia ib =>
    intro h
    simp only [core]
    split
    · exact ib h.2
    · split
      · exact ia h.1
      · exact ⟨ia h.1, ib h.2⟩
  | cond _ a b ia ib =>
    intro h
    simp only [core]
    split
    · exact ib h.2
    · split
      · exact ia h.1
      · refine ⟨?_, ?_⟩
        · repeat' split
          all_goals first | exact ia h.1 | trivial | exact Nat.two_pow_pos 256
        · repeat' split
          all_goals first | exact ib h.2 | trivial | exact Nat.two_pow_pos 256
  | rangeFunc _ _ xx a _ ia => intro h; simp only [core]; exact sok_unr (ia h)
  | block g a ia => intro h; simp only [core]; exact sok_if (ia h)

theorem sok_E : ∀ (r : RE) (pc : Nat), SOK r → ∀ S : Nat, Ins.chr S ∈ E r pc → S < 2 ^ 256 := by
  intro r
  induction r with
  | skip | region _ _ _ | exit _ | refuse _ | loop _ _ | scope _ _ => intro pc _ S h; simp [E] at h
  | ret => intro pc _ S h; simp [E, Ins.chr, Ins.bgn] at h
  | label l => intro pc _ S h; simp [E, Ins.chr, Ins.fin] at h
  | goto Z =>
    intro pc hz S h
    simp only [E, List.mem_singleton] at h
    cases h
    exact hz
  | seq a b ia ib =>
    intro pc hs S h
    simp only [E, List.mem_append] at h
    exact h.elim (ia _ hs.1 S) (ib _ hs.2 S)
  | cond _ a b ia ib =>
    intro pc hs S h
    simp only [E, List.mem_cons, List.mem_append] at h
    rcases h with h | h | h | h
    · cases h
    · exact ia _ hs.1 S h
    · cases h
    · exact ib _ hs.2 S h
  | rangeFunc _ _ xx a _ ia =>
    intro pc hs S h
    simp only [E, List.mem_cons, List.mem_append, List.not_mem_nil, or_false] at h
    rcases h with h | h | h
    · split at h <;> cases h
    · exact ia _ hs S h
    · cases h
  | block g a ia =>
    intro pc hs S h
    simp only [E, List.mem_cons, List.mem_append, List.not_mem_nil, or_false] at h
    rcases h with h | h | h
    · cases h
    · exact ia _ hs S h
    · cases h

theorem sok_child {r : RE} (hw : WF r) : SOK (child r) := sok_if (sok_core r hw.sok)

theorem codeOf_set {r : RE} (hw : WF r) : ∀ (pc S : Nat), (codeOf (child r))[pc]? = some (Ins.chr S) → S < 2 ^ 256 := by
  intro pc S h
  have := List.mem_of_getElem? h
  unfold codeOf at this
  rcases List.mem_append.1 this with h | h
  · exact sok_E _ _ (sok_child hw) S h
  · simp only [List.mem_singleton] at h
    cases h

end Go.Proofs.Qxb6500567aGreat
