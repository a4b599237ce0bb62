import Derived.Test.Qxb6500568aGreatDoorQq
import Derived.Test.Qxb6500568aGreatDoorQl
import Derived.Test.Qxb6500568aGreatDoorRc
/- The machine at rest. -/
namespace Go.Proofs.Qxb6500568aGreatDoor
open Ieee
set_option linter.unusedVariables false
set_option linter.unusedSimpArgs false
set_option linter.unusedSectionVars false

/-- the number layer's blocks are no more the machine's. -/
theorem VOp.rg2 {E : VE} {w : World} {ow ow' : Nat → Nat} {L : VL} {V : Nat → Value} {U : Nat → Nat → Value} (h : VOp E w ow L V U) (hE : ∀ b, vmT (ow b) → ow b ≠ 412 → ow b ≠ 413 → ow' b = ow b) (hd : ∀ b, w.heap.size ≤ b → ow' b = 66) : VOp E w ow' L V U :=
  ⟨h.m, h.t, fun i hi => (h.a i hi).rg (fun b q => by rw [hE b (by rw [q]; unfold vmI at hi; unfold vmT; omega) (by rw [q]; unfold vmI at hi; omega) (by rw [q]; unfold vmI at hi; omega)]; exact q), fun j hj i hi => (h.u j hj i hi).rg (fun b q => by rw [hE b (by rw [q]; unfold thI at hi; unfold vmT; omega) (by rw [q]; unfold thI at hi; omega) (by rw [q]; unfold thI at hi; omega)]; exact q), by rw [hE _ (by rw [h.tm]; unfold vmT; omega) (by rw [h.tm]; decide) (by rw [h.tm]; decide)]; exact h.tm, by rw [hE _ (by rw [h.tt]; unfold vmT; omega) (by rw [h.tt]; decide) (by rw [h.tt]; decide)]; exact h.tt, h.nt, hd⟩
/-- what holds of the machine of variables when a run has come to its end by itself. -/
structure FinS (F : Fns) (s : AS) : Prop where
  f1 : 1 ≤ F.length
  f13 : F.length ≤ 13
  fok : ∀ k, FOK (fsAt F k)
  av : AV s
  sh : AT (Psf F) s
  bi : BI (Psf F) s
  tb : 1 ≤ s.tabs.length
  no : ∀ i, (thA s.ths i).st ≠ 4
/-- a machine that passes its check. -/
def Ck (L : VL) (T : List Tb) : Prop := (∃ (fuel : Nat) (out : Str), L.fu = i64c fuel ∧ L.A 11 = (out.length, out.map u8c) ∧ out.length ≤ 200) ∧ ((∃ e, Zr L e) ∨ ∃ F V s κ, VSL F L V s.fuel s.out 0 ∧ RZ (Psf F) V s κ ∧ s.tabs = T ∧ FinS F s)
end Go.Proofs.Qxb6500568aGreatDoor
