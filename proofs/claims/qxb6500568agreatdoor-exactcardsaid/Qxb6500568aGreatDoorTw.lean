import Derived.Test.Qxb6500568aGreatDoorCards
import Derived.Test.Qxb6500568aGreatDoorTie
import Derived.Test.Qxb6500568aGreatDoorQv
import Derived.Test.Qxb6500568aGreatDoorTv
import Derived.Test.Qxb6500568aGreatDoorTy
import Derived.Test.Qxb6500568aGreatDoorTz
import Derived.WalkKit
import Derived.ProofKit
import Derived.OpenShut
import Derived.ShutString
import Derived.SliceStrings
import Derived.SevenTiedAt
import Derived.Stop.Joined
/- The row and the card of Exact. -/
namespace Go.Proofs.Qxb6500568aGreatDoor.exact
open Go.ChangeShapes Go.WideShapes Go.ChangeAt Go.RowKit
open Go.ChangeMaps (open_string shut_string)
set_option linter.unusedVariables false

theorem own : ownKnob Tryz.prog.godebug = none := by kernel_rfl
theorem laidOut : laidOutB Tryz.prog = true := by kernel_rfl
theorem cells9 : Tryz.prog.cellsOf 9 = 1 := by kernel_rfl
theorem cells3 : Tryz.prog.cellsOf 3 = 1 := by kernel_rfl
theorem cells61 : Tryz.prog.cellsOf 61 = 6 := by kernel_rfl

theorem len_ok {a : ByteArray} (h : a.size ≤ maxLen) : a.data.toList.length ≤ 9223372036854775807 := by
  rw [Array.length_toList]
  exact Nat.le_trans h (Nat.le_of_ble_eq_true rfl)

theorem cells_get {w : World} {base : Nat} {a : Addr} {n : Nat} {cs : List Value} (h : w.cells? base a n = some cs) : cs.length = n ∧ ∀ j x, cs[j]? = some x → w.cell? (a.add j) = some x := by
  unfold World.cells? at h
  split at h
  · have hl : cs.length = n := by simpa using mapM_some_length h
    refine ⟨hl, fun j x hj => ?_⟩
    have hjn : j < n := by have := (List.getElem?_eq_some_iff.1 hj).1; omega
    have := mapM_some_get h j j (by simp [hjn])
    rw [this, hj]
  · cases h

set_option maxRecDepth 100000 in
theorem op_of {H : Type} {enc : TypeId × Value → H} {w : World} {base : Nat} {spare : Nat → Bool} {held : Bool} {n : Nat} {a : Addr} {y : DataW H × List MemPlace}
    (h : (w.cells? base a (Tryz.prog.cellsOf 61)).bind (DataW.trod enc Tryz.prog w base spare held n 61) = some y) :
    ∃ o : Op6, OpB o ∧ a.spot = none ∧ ∀ j x, (opc o)[j]? = some x → w.cell? (a.add j) = some x := by
  rw [cells61] at h
  obtain ⟨cs, hcs, hy⟩ := Option.bind_eq_some_iff.1 h
  obtain ⟨hl, hg⟩ := cells_get hcs
  obtain ⟨xs, m, _, _, _, hxl, hf⟩ := DataW.trod_struct Tryz.underlying61 hy
  match cs, hl with
  | [c0, c1, c2, c3, c4, c5], _ =>
    have hxl : xs.length = 6 := hxl
    have f0 : DataW.trod enc Tryz.prog w base spare held m 3 (([c0, c1, c2, c3, c4, c5].drop 0).take (Tryz.prog.cellsOf 3)) = xs[0]? := hf 0 _ rfl
    have f1 : DataW.trod enc Tryz.prog w base spare held m 3 (([c0, c1, c2, c3, c4, c5].drop 1).take (Tryz.prog.cellsOf 3)) = xs[1]? := hf 1 _ rfl
    have f2 : DataW.trod enc Tryz.prog w base spare held m 3 (([c0, c1, c2, c3, c4, c5].drop 2).take (Tryz.prog.cellsOf 3)) = xs[2]? := hf 2 _ rfl
    have f3 : DataW.trod enc Tryz.prog w base spare held m 3 (([c0, c1, c2, c3, c4, c5].drop 3).take (Tryz.prog.cellsOf 3)) = xs[3]? := hf 3 _ rfl
    have f4 : DataW.trod enc Tryz.prog w base spare held m 9 (([c0, c1, c2, c3, c4, c5].drop 4).take (Tryz.prog.cellsOf 9)) = xs[4]? := hf 4 _ rfl
    have f5 : DataW.trod enc Tryz.prog w base spare held m 9 (([c0, c1, c2, c3, c4, c5].drop 5).take (Tryz.prog.cellsOf 9)) = xs[5]? := hf 5 _ rfl
    rw [List.getElem?_eq_getElem (by omega)] at f0 f1 f2 f3 f4 f5
    rw [cells3] at f0 f1 f2 f3
    rw [cells9] at f4 f5
    simp only [List.drop_zero, List.drop_succ_cons, List.take_succ_cons, List.take_zero] at f0 f1 f2 f3 f4 f5
    obtain ⟨v0, e0, _, _⟩ := DataW.trod_int Tryz.underlying3 f0
    obtain ⟨v1, e1, _, wf1⟩ := DataW.trod_int Tryz.underlying3 f1
    obtain ⟨v2, e2, _, wf2⟩ := DataW.trod_int Tryz.underlying3 f2
    obtain ⟨v3, e3, _, wf3⟩ := DataW.trod_int Tryz.underlying3 f3
    obtain ⟨v4, e4, _, z4⟩ := DataW.trod_string Tryz.underlying9 f4
    obtain ⟨v5, e5, _, z5⟩ := DataW.trod_string Tryz.underlying9 f5
    simp only [List.cons.injEq, and_true] at e0 e1 e2 e3 e4 e5
    subst e0 e1 e2 e3 e4 e5
    refine ⟨(v0, v1, v2, v3, v4.data.toList, v5.data.toList), ?_, ?_, ?_⟩
    · simp only [Lit.wf, Bool.and_eq_true, decide_eq_true_eq] at wf1 wf2 wf3
      exact ⟨wf1.1, wf1.2, wf2.1, wf2.2, wf3.1, wf3.2, len_ok z4, len_ok z5⟩
    · have := hg 0 _ rfl
      exact World.cell?_spot this
    · intro j x hj
      exact hg j x hj

set_option maxRecDepth 100000 in
theorem sc_of {H : Type} {enc : TypeId × Value → H} {w : World} {base : Nat} {spare : Nat → Bool} {held : Bool} {fuel : Nat} {v : Value} {x : DataW H × List MemPlace}
    (h : DataW.trod enc Tryz.prog w base spare held fuel 33 [v] = some x) : ∃ os, ScV w v os ∧ os.length ≤ 9223372036854775807 := by
  rcases DataW.trod_slice Tryz.underlying33 h with ⟨hcs, _⟩ | ⟨a, len, cap, elems, rest, n, _, hcs, _, _, hlc, hcm, hel, hcell, _⟩
  · simp only [List.cons.injEq, and_true] at hcs
    subst hcs
    exact ⟨[], ⟨none, 0, rfl, fun i o h => by simp at h⟩, by simp⟩
  · simp only [List.cons.injEq, and_true] at hcs
    subst hcs
    by_cases hl0 : len = 0
    · subst hl0
      exact ⟨[], ⟨some a, cap, rfl, fun i o h => by simp at h⟩, by simp⟩
    have each0 : ∀ i, i < len → ∃ o : Op6, OpB o ∧ (a.add (i * 6)).spot = none ∧ ∀ j x, (opc o)[j]? = some x → w.cell? ((a.add (i * 6)).add j) = some x := by
      intro i hi
      have := hcell i hi
      rw [List.getElem?_eq_getElem (by omega)] at this
      obtain ⟨o, h1, h2, h3⟩ := op_of this
      rw [cells61] at h2 h3
      exact ⟨o, h1, h2, h3⟩
    obtain ⟨b, off, sp⟩ := a
    have hsp : sp = none := by
      obtain ⟨o, _, h2, _⟩ := each0 0 (by omega)
      simpa [Addr.add] using h2
    subst hsp
    have each : ∀ i, i < len → ∃ o : Op6, OpB o ∧ ∀ j x, (opc o)[j]? = some x → w.cell? ⟨b, off + i * 6 + j, none⟩ = some x := by
      intro i hi
      obtain ⟨o, h1, _, h3⟩ := each0 i hi
      refine ⟨o, h1, fun j x hj => ?_⟩
      have := h3 j x hj
      rwa [Addr.add_lit, Addr.add_lit] at this
    have build : ∀ k, k ≤ len → ∃ os : List Op6, os.length = k ∧ ∀ (i : Nat) (o : Op6), os[i]? = some o → OpB o ∧ ∀ j x, (opc o)[j]? = some x → w.cell? ⟨b, off + i * 6 + j, none⟩ = some x := by
      intro k
      induction k with
      | zero => intro _; exact ⟨[], rfl, fun i o h => by simp at h⟩
      | succ k ih =>
        intro hk
        obtain ⟨os, h1, h2⟩ := ih (by omega)
        obtain ⟨o, ho⟩ := each k (by omega)
        refine ⟨os ++ [o], by simp [h1], ?_⟩
        intro i o' hi
        by_cases hik : i < os.length
        · rw [List.getElem?_append_left hik] at hi
          exact h2 i o' hi
        · have hlt := (List.getElem?_eq_some_iff.1 hi).1
          simp at hlt
          have : i = k := by omega
          subst this
          rw [List.getElem?_append_right (by omega), h1] at hi
          simp at hi
          subst hi
          exact ho
    obtain ⟨os, hol, hos⟩ := build len (Nat.le_refl _)
    refine ⟨os, ⟨some ⟨b, off, none⟩, cap, by rw [hol], ?_⟩, ?_⟩
    · intro i o hi
      obtain ⟨h1, h3⟩ := hos i o hi
      exact ⟨h1, b, off, rfl, h3⟩
    · have : maxLen ≤ 9223372036854775807 := by decide
      omega

theorem walk {w : World} {v : Value} {os : List Op6} (hL : laidMetH Tryz.prog rowLaid w) (h : ScV w v os) (hb : os.length ≤ 9223372036854775807) :
    Calls Tryz.prog 4 #[v] w fun e w' => e = .returned (.bool true) ∧ Below w.heap.size w w' := by
  have := Exact4 (laid_gv hL) h hb
  refine Calls.mono (show Calls Tryz.prog 4 #[v] w _ from this) ?_
  rintro e w' ⟨_, he, rfl, hF⟩
  exact ⟨he, hF.below (fun _ _ h => h)⟩

set_option maxRecDepth 100000 in
theorem lifted (os : Os) (started : os.Started) (H : Type) (enc : TypeId × Value → H) :
    ReturnsInHanded {} Tryz.checked os 4 .any (fun w args => (Rows.exactSpec.pre enc Tryz.prog Tryz.f4 Rows.exactRow.domain false w args ∧ laidMetH Tryz.prog rowLaid w) ∧ sizedMet enc Tryz.prog Tryz.f4 (OpenSpec.ofChange Rows.exactSpec) false w args)
      (Rows.exactSpec.post enc Tryz.prog Tryz.f4 false true false false) := by
  refine returnsInHanded_of_change_and (C := Tryz.checked) (X := fun w _ => laidMetH Tryz.prog rowLaid w) (fun _ _ _ hh h => h.of_heap hh) own started (by kernel_rfl) Tryz.func4
    (ChangeSpec.witness_shaped (enc := enc) (C := Tryz.checked) (os := os) (X := fun w _ => laidMetH Tryz.prog rowLaid w) false (World.laidAll Tryz.prog os rowLaid) #[.slice none 0 0] 8 (World.laidAll_os _ _ _)
      (World.shaped_of_ZipB (by kernel_rfl) (by kernel_rfl)) (by kernel_rfl) (by kernel_rfl) (by kernel_rfl)
      (by rw [MakeChecks.laidMetH_plain _ _ _ (by kernel_rfl)]; exact laidMet_laidAll _ (by kernel_rfl) (by kernel_rfl))) ?_
  intro W base args ds gs before hval0 hW hc _ hL _
  have hval : ∀ (j : Nat) t v, Tryz.f4.params[j]? = some t → args[j]? = some v → Value.okWide Tryz.prog W .any base t v := hval0
  have hW' := hW
  obtain ⟨p, q, hA0, hV, rfl, hfz, hnd⟩ := hW
  have hA : DataW.TrodAll enc Tryz.prog W 0 (fun _ => true) true Tryz.f4.params.toList args.toList ds p := hA0
  rw [Tryz.params4] at hA hval
  obtain ⟨v0, vs0, d0, ds0, p0, q0, hargs, rfl, rfl, h0, r0⟩ := trodAll_cons hA
  obtain ⟨rfl, rfl, rfl⟩ := trodAll_nil r0
  obtain rfl : args = #[v0] := by cases args; simp_all
  obtain ⟨rfl, rfl⟩ := trodVars_none hV
  obtain ⟨a0, len, cap, rfl⟩ := okWide_slice Tryz.underlying33 (hval 0 33 v0 rfl rfl)
  clear hA0 hval0
  have h0k := h0
  obtain ⟨fuel, hf⟩ := h0
  have hlt : ∀ x ∈ p0, x.block < W.heap.size := fun x hx => hW'.lt x (by simp [hx])
  have hts : ∃ os, ScV W (.slice a0 len cap) os ∧ os.length ≤ 9223372036854775807 := sc_of hf
  obtain ⟨os, hT, hb⟩ := hts
  refine (walk hL hT hb).mono fun e W' ⟨he, hg⟩ => ?_
  subst he
  refine ⟨_, rfl, _, _, _, [], p0 ++ [], [], hW', trodAll_cons_mk (shut_bool Tryz.underlying4 _) trodAll_mk0, ?_, rfl, hg.frame _, fun h => by cases h⟩
  exact trodAll_cons_mk (Below.trod laidOut (by kernel_rfl) (of_decide_eq_true (by kernel_rfl)) h0k hg hlt) trodAll_mk0

theorem fnamed : Tryz.pinned.checked.prog.funcNamed Rows.exactRow.func = some 4 := by kernel_rfl
theorem over : Rows.exactRow.holds Tryz.pinned (OpenSpec.ofChange Rows.exactSpec) :=
  OpenClaim.holds_of_wide 4 Tryz.f4 rfl rfl rfl rfl rfl rfl rfl ⟨rfl, rfl, rfl, rfl, rfl⟩ rfl rfl rfl rfl rfl fnamed Tryz.func4 closed
    (of_decide_eq_true (by kernel_rfl)) (by unfold Func.isWrapper; first | (rw [if_pos (by decide +kernel)]; kernel_rfl) | (rw [if_neg (by decide +kernel)]; exact ⟨rfl, rfl⟩))
    (fun os started H enc _ => lifted os started H enc)

theorem card_holds : Rows.ExactCardSaid := card_of over

end Go.Proofs.Qxb6500568aGreatDoor.exact

namespace Go.Proofs.Qxb6500568aGreatDoor

/-- The statement. -/
theorem exact_card_proved : Rows.ExactCardSaid := exact.card_holds

end Go.Proofs.Qxb6500568aGreatDoor
