import Derived.Test.Qxb6500568aGreatDoorRl
/- The machine at rest, behind a run. -/
namespace Go.Proofs.Qxb6500568aGreatDoor
open Ieee
set_option linter.unusedVariables false
set_option linter.unusedSimpArgs false
set_option linter.unusedSectionVars false

/-- the number layer is no more the machine's. -/
def rt66 (ow : Nat → Nat) (x : Nat) : Nat := if ow x = 412 ∨ ow x = 413 then 66 else ow x
theorem rt66_no (ow : Nat → Nat) (x : Nat) : rt66 ow x ≠ 412 ∧ rt66 ow x ≠ 413 := by
  unfold rt66
  split
  · exact ⟨by decide, by decide⟩
  · omega
theorem rt66_old {ow : Nat → Nat} {x : Nat} (h : ow x ≠ 412 ∧ ow x ≠ 413) : rt66 ow x = ow x := if_neg (by omega)
theorem rt66_66 {ow : Nat → Nat} {x : Nat} (h : ow x = 66) : rt66 ow x = 66 := by rw [rt66_old (by omega)]; exact h
/-- the number layer's blocks. -/
def NumB (nb : Nat) (w : World) (ow : Nat → Nat) : Prop := ∃ bb l, Blk w.heap nb [.slice (some ⟨bb, 0, none⟩) 24 24] 72 ∧ Blk w.heap bb l 5 ∧ l.length = 24 ∧ ow nb = 66 ∧ ow bb = 66
section
variable {C : VC} {w : World} {ow : Nat → Nat} {s : AS} {fuel : Nat} {out : Str}
theorem NmV.nb (h : NmV C w ow) : NumB C.nb w (rt66 ow) := by
  obtain ⟨bb, l, h1, h2, h3, h4, h5⟩ := h
  exact ⟨bb, l, h1, h2, h3, by unfold rt66; rw [if_pos (.inl h4)], by unfold rt66; rw [if_pos (.inr h5)]⟩
theorem vt_rt {E : VE} {nb xb : Nat} {L : VL} {T : List Tb} {Vv : Nat → Value} {U : Nat → Nat → Value} (op : VOp E w ow L Vv U) (ht : RTab w ow nb xb T) : VT E nb xb w (rt66 ow) L T :=
  ⟨⟨Vv, U, op.rg2 (fun b q h1 h2 => rt66_old ⟨h1, h2⟩) (fun b hb => rt66_66 (op.df b hb))⟩, ht.rg (fun b q => rt66_old (by unfold rtag at q; omega))⟩
theorem AMq.rest (h : AMq C w ow s) (hs : FinS C.F s) : ∃ L, VT C.E C.nb C.xb w (rt66 ow) L s.tabs ∧ Ck L s.tabs ∧ NumB C.nb w (rt66 ow) := by
  obtain ⟨V, κ, Vv, U, h1, h2⟩ := h
  obtain ⟨L, op, vl⟩ := h1.ex
  exact ⟨L, vt_rt op h1.tb, ⟨⟨s.fuel, s.out, vl.f, vl.o, hs.av.out⟩, .inr ⟨C.F, V, s, κ, vl, h2, rfl, hs⟩⟩, h1.nm.nb⟩
theorem MOZ.rest (h : MOZ C w ow fuel out) (ho : out.length ≤ 200) : ∃ L T, VT C.E C.nb C.xb w (rt66 ow) L T ∧ Ck L T ∧ NumB C.nb w (rt66 ow) := by
  obtain ⟨L, Vv, U, T, op, ⟨⟨h1, h2⟩, h3⟩, h4, h5⟩ := h
  exact ⟨L, T, vt_rt op h4, ⟨⟨fuel, out, h1, h2, ho⟩, .inl h3⟩, h5.nb⟩
end
end Go.Proofs.Qxb6500568aGreatDoor
