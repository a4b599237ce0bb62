import Derived.Test.Qxb6500568aGreatDoorJl
/- The compiler made; the threads' driver made. -/
namespace Go.Proofs.Qxb6500568aGreatDoor
open Ieee
set_option linter.unusedVariables false
set_option linter.unusedSimpArgs false
set_option linter.unusedSectionVars false

/-- a row as made. -/
def zr0 : ZRow := ⟨.pointer none, .pointer none, i64c 0, .slice none 0 0, i64c 0, .slice none 0 0, .slice none 0 0, .map none, .map none, .slice none 0 0, .slice none 0 0⟩
theorem New18 {w : World} {ow : Nat → Nat} {sb db : Nat} : Ret Tryz.prog 18 [ptr sb, ptr db] w (fun v w' => ∃ cb, v = ptr cb ∧ w.heap.size ≤ cb ∧ Fram none' w w' ∧ ∃ ow', Xt w ow ow' ∧ CpR w' ow' cb (ptr sb) (ptr db)) := by
  have hF : Fram none' w w := Fram.refl _ _
  refine ret_of Tryz.func18 rfl Tryz.ntmps18 rfl ?_
  refine c_seq (fun K1 hK1 => ?_)
  refine c_reg ?_ -- region 0 comp.go:23
  refine wl (ro_assign rfl) ?_
  refine wl_nil (x_then (hK1 _ _ ?_))
  clear hK1 K1
  refine forget [(0, _), (1, _)] ⟨rfl, rfl, trivial⟩ (fun e => ?_)
  refine c_seq (fun K2 hK2 => ?_)
  refine c_reg ?_ -- region 1 comp.go:24
  refine wl (ro_move rfl) ?_
  refine wl (ro_move rfl) ?_
  refine wl_make (len := 13) (cap := 13) rfl rfl se_92 ze_199 (by simp) (by omega) (by omega) rfl bb_199 (fun b7 w1 hbb7 hB F1 => ?_)
  have hbsb7 := Nat.le_trans hF.size hbb7
  replace hF := hF.thenDrew.thenN F1
  refine wl (ro_build rfl bld_94_0_1_3) ?_
  refine wl_box rfl rfl (fun b9 w2 hbb9 hP F2 => ?_)
  have hbsb9 := Nat.le_trans hF.size hbb9
  have hneb7b9 : b7 < b9 := Nat.lt_of_lt_of_le hB.lt hbb9
  replace hF := hF.thenDrew.thenN F2
  replace hB := F2.blkN hB
  refine wl (ro_assign rfl) ?_
  refine wl_nil (x_then (hK2 _ _ ?_))
  clear hK2 K2
  refine c_ret ?_
  refine bp_ret Tryz.results18 rfl ?_
  refine ⟨b9, rfl, by omega, hF, ot (ot ow b7 191) b9 190, fun b hb ↦ by rw [ot_old (by omega), ot_old (by omega)], ⟨⟨b7, _, _, 0, [], List.replicate 13 zr0, none, hP, by rw [ot_old (by omega), ot_self], OwT.nil _ _ _ _ _, List.length_replicate, hB, ⟨rfl, rfl⟩, fun j r hr ↦ ?_⟩, ot_self _ _ _⟩⟩
  have e : r = zr0 := by
    have := List.mem_of_getElem? hr
    exact (List.mem_replicate.1 this).2
  subst e
  exact ⟨⟨[], [], [], [], []⟩, ⟨OwT.nil _ _ _ _ _, OwT.nil _ _ _ _ _, OwT.nil _ _ _ _ _, OwT.nil _ _ _ _ _, [], OwT.nil _ _ _ _ _, rfl⟩, rfl, fun t k q ↦ by cases q⟩
end Go.Proofs.Qxb6500568aGreatDoor
