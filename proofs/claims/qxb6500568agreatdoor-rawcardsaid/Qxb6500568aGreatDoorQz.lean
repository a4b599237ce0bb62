import Derived.Test.Qxb6500568aGreatDoorCards
import Derived.Test.Qxb6500568aGreatDoorTie
import Derived.SevenTiedAt
/- The closed facts of Raw's card, one by one. -/
namespace Go.Proofs.Qxb6500568aGreatDoor.raw
open Go
set_option linter.unusedVariables false
set_option maxRecDepth 100000
theorem c_wf : Rows.rawRow.wfByText (OpenSpec.ofChange Rows.rawSpec) = true := by kernel_rfl
theorem c_main : Tryz.pinned.checked.prog.mainIs = some (true, "104c980cc0984bd7994bcaaf498c3c8a88651cd91091b94e2c8876e6cf6cc181".toList) := by kernel_rfl
theorem c_looks : true = Tryz.pinned.checked.prog.looks [] := by kernel_rfl
theorem c_goes : false = Rows.rawRow.goesBy Tryz.pinned.checked.prog := by kernel_rfl
theorem c_named : Tryz.prog.funcNamed Rows.rawRow.func = some 3 := by kernel_rfl
theorem c_stand : ([9, 3].all fun u => !Tryz.prog.wantsStandIn u) = true := by kernel_rfl
theorem c_par (f : FuncId) (fn : Func) (hf : Tryz.pinned.checked.prog.funcNamed Rows.rawRow.func = some f) (hfn : Tryz.pinned.checked.prog.funcs[f]? = some fn) : true = Tryz.pinned.checked.prog.looks [] ∧ ∀ (j : Nat) t, fn.params[j]? = some t → Tryz.pinned.checked.prog.wantsStandIn t = false := by
  obtain rfl : f = 3 := Option.some.inj (c_named.symm.trans hf) |>.symm
  obtain rfl : fn = Tryz.f3 := (Option.some.inj (Tryz.func3.symm.trans hfn)).symm
  exact ⟨c_looks, fun j t ht => by
    rw [Tryz.params3] at ht
    have hm : t ∈ [9, 3] := by simpa using Array.mem_of_getElem? ht
    exact (show Tryz.prog.wantsStandIn t = false by simpa using List.all_eq_true.1 c_stand t hm)⟩
theorem card_of (h : Rows.rawRow.holds Tryz.pinned (OpenSpec.ofChange Rows.rawSpec)) : Rows.RawCardSaid :=
  Claim7.holds_tied_plain_at .later [] [.data, .data, .data] true (true, "104c980cc0984bd7994bcaaf498c3c8a88651cd91091b94e2c8876e6cf6cc181") true h (fun _ h => by cases h) c_wf (fun _ h => by cases h) raw_row_tie rfl ⟨rfl, rfl⟩ c_main rfl c_par c_goes
end Go.Proofs.Qxb6500568aGreatDoor.raw
