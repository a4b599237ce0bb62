import Derived.Test.Qxb6500568aGreatDoorHq
/- The machine: the checks ahead of an instruction. -/
namespace Go.Proofs.Qxb6500568aGreatDoor
open Ieee
set_option linter.unusedVariables false
set_option linter.unusedSimpArgs false
set_option linter.unusedSectionVars false

section
variable {C : VC} {w : World} {ow : Nat → Nat} {a : AS} {y : ATh} {gs : List AFr} {g : AFr} {vars : List PV} {fg fc p op z : Nat} {ids : List Nat}
theorem soundA (E : PE C fg fc w ow a y gs g vars p ids op z) : Ret Tryz.prog 241 [ptr C.E.mb, tptr C a.cur, fpt fg gs.length, prt C p, u8n op, i64c z] w (fun r w' => r = .bool true ∧ Fram none' w w') := by
  have h1 := E.sn.r.1
  have h2 := E.sn.r.2.1
  have : op = 1 ∨ op = 2 ∨ op = 3 ∨ op = 4 ∨ op = 5 ∨ op = 6 ∨ op = 7 ∨ op = 8 ∨ op = 9 ∨ op = 10 ∨ op = 11 ∨ op = 12 ∨ op = 13 ∨ op = 14 ∨ op = 15 ∨ op = 16 ∨ op = 17 ∨ op = 18 ∨ op = 19 ∨ op = 20 ∨ op = 21 ∨ op = 22 ∨ op = 23 ∨ op = 24 ∨ op = 25 ∨ op = 26 ∨ op = 27 ∨ op = 28 ∨ op = 29 ∨ op = 30 ∨ op = 31 ∨ op = 32 := by omega
  rcases this with rfl | rfl | rfl | rfl | rfl | rfl | rfl | rfl | rfl | rfl | rfl | rfl | rfl | rfl | rfl | rfl | rfl | rfl | rfl | rfl | rfl | rfl | rfl | rfl | rfl | rfl | rfl | rfl | rfl | rfl | rfl | rfl
  · exact snd_1 E
  · exact snd_2 E
  · exact snd_3 E
  · exact snd_4 E
  · exact snd_5 E
  · exact snd_6 E
  · exact snd_7 E
  · exact snd_8 E
  · exact snd_9 E
  · exact snd_10 E
  · exact snd_11 E
  · exact snd_12 E
  · exact snd_13 E
  · exact snd_14 E
  · exact snd_15 E
  · exact snd_16 E
  · exact snd_17 E
  · exact snd_18 E
  · exact snd_19 E
  · exact snd_20 E
  · exact snd_21 E
  · exact snd_22 E
  · exact snd_23 E
  · exact snd_24 E
  · exact snd_25 E
  · exact snd_26 E
  · exact snd_27 E
  · exact snd_28 E
  · exact snd_29 E
  · exact snd_30 E
  · exact snd_31 E
  · exact snd_32 E
/-- what an instruction needs, and by what the stack grows. -/
def effN (op : Nat) : Int := if op = 26 then 0 else needO op 0
def effG (op : Nat) : Int := if op = 1 ∨ op = 2 ∨ op = 3 ∨ op = 4 ∨ op = 5 ∨ op = 7 ∨ op = 9 ∨ op = 14 ∨ op = 28 ∨ op = 31 ∨ op = 32 then 1 else if op = 6 ∨ op = 8 ∨ op = 10 ∨ op = 22 ∨ op = 25 then (-1) else if op = 23 ∨ op = 24 ∨ op = 18 ∨ op = 19 ∨ op = 20 then 0 else if op = 11 ∨ op = 15 ∨ op = 16 ∨ op = 17 ∨ op = 13 then (-1) else if op = 27 then (-2) else if op = 12 then (-3) else 0
theorem effA (h : 1 ≤ op ∧ op ≤ 32) : Ret Tryz.prog 242 [u8n op] w (fun r w' => r = .tuple #[.int .i8 (effN op), .int .i8 (effG op)] ∧ Fram none' w w') := by
  have : op = 1 ∨ op = 2 ∨ op = 3 ∨ op = 4 ∨ op = 5 ∨ op = 6 ∨ op = 7 ∨ op = 8 ∨ op = 9 ∨ op = 10 ∨ op = 11 ∨ op = 12 ∨ op = 13 ∨ op = 14 ∨ op = 15 ∨ op = 16 ∨ op = 17 ∨ op = 18 ∨ op = 19 ∨ op = 20 ∨ op = 21 ∨ op = 22 ∨ op = 23 ∨ op = 24 ∨ op = 25 ∨ op = 26 ∨ op = 27 ∨ op = 28 ∨ op = 29 ∨ op = 30 ∨ op = 31 ∨ op = 32 := by omega
  rcases this with rfl | rfl | rfl | rfl | rfl | rfl | rfl | rfl | rfl | rfl | rfl | rfl | rfl | rfl | rfl | rfl | rfl | rfl | rfl | rfl | rfl | rfl | rfl | rfl | rfl | rfl | rfl | rfl | rfl | rfl | rfl | rfl
  · exact eff_1
  · exact eff_2
  · exact eff_3
  · exact eff_4
  · exact eff_5
  · exact eff_6
  · exact eff_7
  · exact eff_8
  · exact eff_9
  · exact eff_10
  · exact eff_11
  · exact eff_12
  · exact eff_13
  · exact eff_14
  · exact eff_15
  · exact eff_16
  · exact eff_17
  · exact eff_18
  · exact eff_19
  · exact eff_20
  · exact eff_21
  · exact eff_22
  · exact eff_23
  · exact eff_24
  · exact eff_25
  · exact eff_26
  · exact eff_27
  · exact eff_28
  · exact eff_29
  · exact eff_30
  · exact eff_31
  · exact eff_32
end
end Go.Proofs.Qxb6500568aGreatDoor
