import Derived.Test.Qxb6500569aGreatIa
/- Plain: the bounded printer. -/
namespace Go.Proofs.Qxb6500569aGreat
set_option linter.unusedVariables false
set_option linter.unusedSimpArgs false

def PR := Bool × List UInt8 × List Nat

def putK (g : Nat → List UInt8 → List Nat → Bool × List UInt8 × List Nat) : List Nat → UInt8 → List UInt8 → List Nat → Bool × List UInt8 × List Nat
  | [], _, out, nm => (true, out, nm)
  | k :: ks, sep, out, nm =>
    if 48 < out.length + 1 then (false, out ++ [sep], nm)
    else if (g k (out ++ [sep]) nm).1 then putK g ks 44 (g k (out ++ [sep]) nm).2.1 (g k (out ++ [sep]) nm).2.2
    else (false, (g k (out ++ [sep]) nm).2)

def nmAdd (nm : List Nat) (x : Nat) : List Nat := if x ∈ nm then nm else nm ++ [x]

def fin (b : Bool) (out : List UInt8) : List UInt8 := if b then out else out ++ [41]

def putF : Nat → List Nd → Nat → List UInt8 → List Nat → Bool × List UInt8 × List Nat
  | 0, _, _, out, nm => (false, out, nm)
  | f + 1, hp, a, out, nm =>
    match hOf hp (deref hp a) with
    | [] => (decide ((out ++ [95] ++ itoa (nm.idxOf (deref hp a))).length ≤ 48), out ++ [95] ++ itoa (nm.idxOf (deref hp a)), nmAdd nm (deref hp a))
    | c :: _ =>
      if (putK (putF f hp) (kidsOf hp (deref hp a)) 40 (out ++ [c]) nm).1 then
        (decide ((fin (kidsOf hp (deref hp a)).isEmpty (putK (putF f hp) (kidsOf hp (deref hp a)) 40 (out ++ [c]) nm).2.1).length ≤ 48), fin (kidsOf hp (deref hp a)).isEmpty (putK (putF f hp) (kidsOf hp (deref hp a)) 40 (out ++ [c]) nm).2.1, (putK (putF f hp) (kidsOf hp (deref hp a)) 40 (out ++ [c]) nm).2.2)
      else (false, (putK (putF f hp) (kidsOf hp (deref hp a)) 40 (out ++ [c]) nm).2)

theorem putF_var {f : Nat} {hp : List Nd} {a : Nat} {out : List UInt8} {nm : List Nat} (h : hOf hp (deref hp a) = []) :
    putF (f + 1) hp a out nm = (decide ((out ++ [95] ++ itoa (nm.idxOf (deref hp a))).length ≤ 48), out ++ [95] ++ itoa (nm.idxOf (deref hp a)), nmAdd nm (deref hp a)) := by
  rw [putF, h]

theorem putF_str {f : Nat} {hp : List Nd} {a : Nat} {out : List UInt8} {nm : List Nat} {c : UInt8} {r : List UInt8} (h : hOf hp (deref hp a) = c :: r) :
    putF (f + 1) hp a out nm = if (putK (putF f hp) (kidsOf hp (deref hp a)) 40 (out ++ [c]) nm).1 then
        (decide ((fin (kidsOf hp (deref hp a)).isEmpty (putK (putF f hp) (kidsOf hp (deref hp a)) 40 (out ++ [c]) nm).2.1).length ≤ 48), fin (kidsOf hp (deref hp a)).isEmpty (putK (putF f hp) (kidsOf hp (deref hp a)) 40 (out ++ [c]) nm).2.1, (putK (putF f hp) (kidsOf hp (deref hp a)) 40 (out ++ [c]) nm).2.2)
      else (false, (putK (putF f hp) (kidsOf hp (deref hp a)) 40 (out ++ [c]) nm).2) := by
  rw [putF, h]

theorem nmAdd_len (nm : List Nat) (x : Nat) : nm.length ≤ (nmAdd nm x).length ∧ (nmAdd nm x).length ≤ nm.length + 1 := by
  unfold nmAdd; split <;> simp

/-- A text grows; the names are never more than its bytes. -/
def Grows (g : Nat → List UInt8 → List Nat → Bool × List UInt8 × List Nat) : Prop :=
  ∀ k out nm, out.length ≤ (g k out nm).2.1.length ∧ (nm.length ≤ out.length → (g k out nm).2.2.length ≤ (g k out nm).2.1.length) ∧ ((g k out nm).1 = true → (g k out nm).2.1.length ≤ 48)

theorem putK_grows {g : Nat → List UInt8 → List Nat → Bool × List UInt8 × List Nat} (hg : Grows g) : ∀ (ks : List Nat) (sep : UInt8) (out : List UInt8) (nm : List Nat),
    out.length ≤ (putK g ks sep out nm).2.1.length ∧ (nm.length ≤ out.length → (putK g ks sep out nm).2.2.length ≤ (putK g ks sep out nm).2.1.length)
  | [], sep, out, nm => ⟨Nat.le_refl _, fun h => h⟩
  | k :: ks, sep, out, nm => by
    simp only [putK]
    obtain ⟨h1, h2, _⟩ := hg k (out ++ [sep]) nm
    simp only [List.length_append, List.length_singleton] at h1 h2
    split
    · exact ⟨by simp, fun h => by simp; omega⟩
    · split
      · obtain ⟨i1, i2⟩ := putK_grows hg ks 44 (g k (out ++ [sep]) nm).2.1 (g k (out ++ [sep]) nm).2.2
        exact ⟨by omega, fun h => i2 (h2 (by omega))⟩
      · exact ⟨by simp only; omega, fun h => h2 (by omega)⟩

theorem putF_grows : ∀ (f : Nat) (hp : List Nd), Grows (putF f hp)
  | 0, hp => fun k out nm => ⟨Nat.le_refl _, fun h => h, fun h => by cases h⟩
  | f + 1, hp => by
    intro k out nm
    cases hh : hOf hp (deref hp k) with
    | nil =>
      rw [putF_var hh]
      have := nmAdd_len nm (deref hp k)
      refine ⟨by simp, fun h => by simp; omega, fun h => ?_⟩
      simpa using h
    | cons c r =>
      rw [putF_str hh]
      obtain ⟨h1, h2⟩ := putK_grows (putF_grows f hp) (kidsOf hp (deref hp k)) 40 (out ++ [c]) nm
      simp only [List.length_append, List.length_singleton] at h1 h2
      split
      · have hf : ∀ b (o : List UInt8), o.length ≤ (fin b o).length := fun b o => by unfold fin; split <;> simp
        have hf' := hf (kidsOf hp (deref hp k)).isEmpty (putK (putF f hp) (kidsOf hp (deref hp k)) 40 (out ++ [c]) nm).2.1
        exact ⟨by simp only; omega, fun h => by have := h2 (by omega); simp only; omega, fun h => by simpa using h⟩
      · exact ⟨by simp only; omega, fun h => h2 (by omega), fun h => by cases h⟩

end Go.Proofs.Qxb6500569aGreat
