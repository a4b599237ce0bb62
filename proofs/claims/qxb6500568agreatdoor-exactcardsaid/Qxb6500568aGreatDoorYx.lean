import Derived.Test.Qxb6500568aGreatDoorYwa
import Derived.Test.Qxb6500568aGreatDoorYwb
import Derived.Test.Qxb6500568aGreatDoorYwc
import Derived.Test.Qxb6500568aGreatDoorYwd
import Derived.Test.Qxb6500568aGreatDoorYwe
import Derived.Test.Qxb6500568aGreatDoorYwf
import Derived.Test.Qxb6500568aGreatDoorYwg
import Derived.Test.Qxb6500568aGreatDoorYwh
import Derived.Test.Qxb6500568aGreatDoorYwi
/- The interpreter: step. -/
namespace Go.Proofs.Qxb6500568aGreatDoor
open Ieee
set_option linter.unusedVariables false
set_option linter.unusedSimpArgs false
set_option linter.unusedSectionVars false

theorem step33 {G : Arena} {root : Nat} {np : Value} {tb rb : Nat} {nv : Value} {w : World} {ow : Nat → Nat} {β τ : List Nat} {m : Nat} {s : IS} (hR : RM G root np tb rb nv w ow β τ m s) (hG : 0 < G.length) (hAG : AOK G) (h0K : (nd G 0).K = 0) (hI : IA G root s) (ht0 : 0 < s.tabs.length) (hm : m ≤ 19900) :
    Ret Tryz.prog 33 [ptr rb] w (fun r w' => r = .tuple #[] ∧ ∃ bs τ', RP G root np tb rb nv w ow (β ++ bs) (τ ++ τ') (m + 12) (istep G root s) w') := by
  obtain ⟨T, h, P0, hT0⟩ := hI.w
  obtain ⟨⟨tk, tn, tx, te⟩, r, rfl⟩ : ∃ t r, T = t :: r := by
    cases T with
    | nil => exact hT0.elim
    | cons t r => exact ⟨t, r, rfl⟩
  have htk := P0.t
  have hrg : 1 ≤ tk ∧ tk ≤ 28 := by
    by_cases h3 : tk = 3
    · omega
    · obtain ⟨-, -, -, -, hk, -⟩ := hT0.inv (t := ⟨tk, tn, tx, te⟩) h3
      refine ⟨?_, hk.rg⟩
      refine Nat.pos_of_ne_zero fun q => ?_
      subst q
      exact hk
  have hc : tk = 1 ∨ tk = 2 ∨ tk = 3 ∨ tk = 4 ∨ tk = 5 ∨ tk = 6 ∨ tk = 7 ∨ tk = 8 ∨ tk = 9 ∨ tk = 10 ∨ tk = 11 ∨ tk = 12 ∨ tk = 13 ∨ tk = 14 ∨ tk = 15 ∨ tk = 16 ∨ tk = 17 ∨ tk = 18 ∨ tk = 19 ∨ tk = 20 ∨ tk = 21 ∨ tk = 22 ∨ tk = 23 ∨ tk = 24 ∨ tk = 25 ∨ tk = 26 ∨ tk = 27 ∨ tk = 28 := by omega
  rcases hc with rfl | rfl | rfl | rfl | rfl | rfl | rfl | rfl | rfl | rfl | rfl | rfl | rfl | rfl | rfl | rfl | rfl | rfl | rfl | rfl | rfl | rfl | rfl | rfl | rfl | rfl | rfl | rfl
  · exact step33_1 hR hG hAG h0K hI ht0 hm htk
  · exact step33_2 hR hG hAG h0K hI ht0 hm htk
  · exact step33_3 hR hG hAG h0K hI ht0 hm htk
  · exact step33_4 hR hG hAG h0K hI ht0 hm htk
  · exact step33_5 hR hG hAG h0K hI ht0 hm htk
  · exact step33_6 hR hG hAG h0K hI ht0 hm htk
  · exact step33_7 hR hG hAG h0K hI ht0 hm htk
  · exact step33_8 hR hG hAG h0K hI ht0 hm htk
  · exact step33_9 hR hG hAG h0K hI ht0 hm htk
  · exact step33_10 hR hG hAG h0K hI ht0 hm htk
  · exact step33_11 hR hG hAG h0K hI ht0 hm htk
  · exact step33_12 hR hG hAG h0K hI ht0 hm htk
  · exact step33_13 hR hG hAG h0K hI ht0 hm htk
  · exact step33_14 hR hG hAG h0K hI ht0 hm htk
  · exact step33_15 hR hG hAG h0K hI ht0 hm htk
  · exact step33_16 hR hG hAG h0K hI ht0 hm htk
  · exact step33_17 hR hG hAG h0K hI ht0 hm htk
  · exact step33_18 hR hG hAG h0K hI ht0 hm htk
  · exact step33_19 hR hG hAG h0K hI ht0 hm htk
  · exact step33_20 hR hG hAG h0K hI ht0 hm htk
  · exact step33_21 hR hG hAG h0K hI ht0 hm htk
  · exact step33_22 hR hG hAG h0K hI ht0 hm htk
  · exact step33_23 hR hG hAG h0K hI ht0 hm htk
  · exact step33_24 hR hG hAG h0K hI ht0 hm htk
  · exact step33_25 hR hG hAG h0K hI ht0 hm htk
  · exact step33_26 hR hG hAG h0K hI ht0 hm htk
  · exact step33_27 hR hG hAG h0K hI ht0 hm htk
  · exact step33_28 hR hG hAG h0K hI ht0 hm htk

end Go.Proofs.Qxb6500568aGreatDoor
