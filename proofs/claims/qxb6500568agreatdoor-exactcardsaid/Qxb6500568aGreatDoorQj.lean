import Derived.Test.Qxb6500568aGreatDoorQh
import Derived.Test.Qxb6500568aGreatDoorQi
/- The machine: its loop. -/
namespace Go.Proofs.Qxb6500568aGreatDoor
open Ieee
set_option linter.unusedVariables false
set_option linter.unusedSimpArgs false
set_option linter.unusedSectionVars false

section
variable {C : VC} {w : World} {ow : Nat → Nat} {s b : AS} {n : Nat}
/-- at the head of the loop: the state opened. -/
theorem LI.pe (h : LI C b (n + 1) s) (hq : AMq C w ow s) : ∃ y gs g fg fc p ids op x, mkA s y gs g s.vars = s ∧ PE C fg fc w ow s y gs g s.vars p ids op x ∧ LI C b n (astep (Psf C.F) s) := by
  obtain ⟨op, x, hs, hl⟩ := h.step
  have hT := h.sh.tr hs.d
  have hc := hT.lt
  have hne : s.th.frs ≠ [] := hT.ne
  rcases hf : s.th.frs with _ | ⟨g, gs⟩
  · exact absurd hf hne
  have hmk := mk_self (th_get hc) hf
  obtain ⟨fg, fc, hR⟩ := hq.fr hc hne
  have hmem : s.th ∈ s.ths := List.mem_of_getElem? (th_get hc)
  have hgc := h.sh.fr _ hmem g (by rw [hf]; exact List.mem_cons_self)
  have hk : s.clos[g.clo]? = some (s.clos[g.clo].1, s.clos[g.clo].2) := List.getElem?_eq_getElem hgc
  have hp := (h.sh.cl _ _ _ hk).1
  unfold Psf at hp
  rw [List.length_map] at hp
  refine ⟨s.th, gs, g, fg, fc, _, _, op, x, hmk, ⟨by rw [hmk]; exact hR, hc, hk, hp, by rw [hmk]; exact h.av, by rw [hmk]; exact hs, h.pk, ?_, h.tb⟩, hl⟩
  have h1 := hs.c
  rw [← hmk, mk_pro hc hk, mk_fr hc] at h1
  unfold cod at h1
  rw [pr_psf] at h1
  have h1 : (fsAt C.F s.clos[g.clo].1).code[g.pc]? = some (op, x) := h1
  obtain ⟨V, κ, Vv, U, k1, -⟩ := hq
  have h2 := (k1.co.fok s.clos[g.clo].1).2.2.2.2.1 _ (List.mem_of_getElem? h1)
  omega
end
end Go.Proofs.Qxb6500568aGreatDoor
