import Derived.Test.Qxb6500568aGreatDoorCards
import Derived.Test.Qxb6500568aGreatDoorTie
import Derived.SevenTiedAt
/- The closed facts of Exact's card, one by one. -/
namespace Go.Proofs.Qxb6500568aGreatDoor.exact
open Go
set_option linter.unusedVariables false
set_option maxRecDepth 100000
theorem c_wf : Rows.exactRow.wfByText (OpenSpec.ofChange Rows.exactSpec) = true := by kernel_rfl
theorem c_main : Tryz.pinned.checked.prog.mainIs = some (true, "104c980cc0984bd7994bcaaf498c3c8a88651cd91091b94e2c8876e6cf6cc181".toList) := by kernel_rfl
theorem c_looks : true = Tryz.pinned.checked.prog.looks [] := by kernel_rfl
theorem c_goes : false = Rows.exactRow.goesBy Tryz.pinned.checked.prog := by kernel_rfl
theorem c_named : Tryz.prog.funcNamed Rows.exactRow.func = some 4 := by kernel_rfl
theorem c_stand : ([33].all fun u => !Tryz.prog.wantsStandIn u) = true := by kernel_rfl
theorem c_par (f : FuncId) (fn : Func) (hf : Tryz.pinned.checked.prog.funcNamed Rows.exactRow.func = some f) (hfn : Tryz.pinned.checked.prog.funcs[f]? = some fn) : true = Tryz.pinned.checked.prog.looks [] ∧ ∀ (j : Nat) t, fn.params[j]? = some t → Tryz.pinned.checked.prog.wantsStandIn t = false := by
  obtain rfl : f = 4 := Option.some.inj (c_named.symm.trans hf) |>.symm
  obtain rfl : fn = Tryz.f4 := (Option.some.inj (Tryz.func4.symm.trans hfn)).symm
  exact ⟨c_looks, fun j t ht => by
    rw [Tryz.params4] at ht
    have hm : t ∈ [33] := by simpa using Array.mem_of_getElem? ht
    exact (show Tryz.prog.wantsStandIn t = false by simpa using List.all_eq_true.1 c_stand t hm)⟩
theorem card_of (h : Rows.exactRow.holds Tryz.pinned (OpenSpec.ofChange Rows.exactSpec)) : Rows.ExactCardSaid :=
  Claim7.holds_tied_plain_at .later [] [.data, .data, .data] true (true, "104c980cc0984bd7994bcaaf498c3c8a88651cd91091b94e2c8876e6cf6cc181") true h (fun _ h => by cases h) c_wf (fun _ h => by cases h) exact_row_tie rfl ⟨rfl, rfl⟩ c_main rfl c_par c_goes
end Go.Proofs.Qxb6500568aGreatDoor.exact
