import Derived.Test.Qxb6500568aGreatDoorHm
/- The machine: plain instructions, all. -/
namespace Go.Proofs.Qxb6500568aGreatDoor
open Ieee
set_option linter.unusedVariables false
set_option linter.unusedSimpArgs false
set_option linter.unusedSectionVars false

section
variable {C : VC} {w : World} {ow : Nat → Nat} {a : AS} {y : ATh} {gs : List AFr} {g : AFr} {vars : List PV} {fg fc p op z : Nat} {ids : List Nat}
theorem plainA (E : PE C fg fc w ow a y gs g vars p ids op z) (h : ¬ (21 ≤ op ∧ op ≤ 24) ∧ op ≠ 26 ∧ op ≠ 27) : RetP Tryz.prog 247 [ptr C.E.mb, i64c a.cur, tptr C a.cur, fpt fg gs.length, prt C p, u8n op, i64c z] w (PlR C fg fc w ow a y gs g (aplain (Psf C.F) op z (mkA a y gs g vars))) (AE C (kH a) w ow (aplain (Psf C.F) op z (mkA a y gs g vars))) := by
  have h1 := E.sn.r.1
  have h2 := E.sn.r.2.1
  have : op = 1 ∨ op = 2 ∨ op = 3 ∨ op = 4 ∨ op = 5 ∨ op = 6 ∨ op = 7 ∨ op = 8 ∨ op = 9 ∨ op = 10 ∨ op = 11 ∨ op = 12 ∨ op = 13 ∨ op = 14 ∨ op = 15 ∨ op = 16 ∨ op = 17 ∨ op = 18 ∨ op = 19 ∨ op = 20 ∨ op = 25 ∨ op = 28 ∨ op = 29 ∨ op = 30 ∨ op = 31 ∨ op = 32 := by omega
  rcases this with rfl | rfl | rfl | rfl | rfl | rfl | rfl | rfl | rfl | rfl | rfl | rfl | rfl | rfl | rfl | rfl | rfl | rfl | rfl | rfl | rfl | rfl | rfl | rfl | rfl | rfl
  · exact plain_1 E
  · exact plain_2 E
  · exact plain_3 E
  · exact plain_4 E
  · exact plain_5 E
  · exact plain_6 E
  · exact plain_7 E
  · exact plain_8 E
  · exact plain_9 E
  · exact plain_10 E
  · exact plain_11 E
  · exact plain_12 E
  · exact plain_13 E
  · rcases Nat.lt_or_ge a.tabs.length 12 with q | q
    · exact plain_14b E q
    · exact plain_14a E q
  · exact plain_15 E
  · exact plain_16 E
  · exact plain_17 E
  · exact plain_18 E
  · exact plain_19 E
  · exact plain_20 E
  · exact plain_25 E
  · rcases Nat.lt_or_ge a.clos.length 24 with q | q
    · exact plain_28b E q
    · exact plain_28a E q
  · exact plain_29 E
  · exact plain_30 E
  · exact plain_31 E
  · exact plain_32 E
end
end Go.Proofs.Qxb6500568aGreatDoor
