import Derived.Test.Qxb6500568aGreatDoorKi
/- The image read. -/
namespace Go.Proofs.Qxb6500568aGreatDoor
open Ieee
set_option linter.unusedVariables false
set_option linter.unusedSimpArgs false
set_option linter.unusedSectionVars false

def VL.protos (L : VL) (F : Fns) : VL := F.foldl VL.proto L
theorem VL.protos_tk (L : VL) {F : Fns} {k : Nat} {f : FS} (h : F[k]? = some f) : L.protos (F.take (k + 1)) = (L.protos (F.take k)).proto f := by
  unfold VL.protos
  rw [List.take_add_one, h, Option.toList_some, List.foldl_append]
  rfl
theorem VL.proto_2 (L : VL) (f : FS) : (L.proto f).A 2 = ((L.A 2).1 + 1, (L.A 2).2 ++ vpc f (L.A 3).1 (L.A 4).1 (L.A 5).1) := by
  unfold VL.proto
  rw [VL.appA_self, VL.appA_ne _ (by decide), VL.appA_ne _ (by decide), VL.appA_ne _ (by decide)]
theorem VL.proto_3 (L : VL) (f : FS) : (L.proto f).A 3 = ((L.A 3).1 + f.ups.length, (L.A 3).2 ++ rws upc f.ups) := by
  unfold VL.proto
  rw [VL.appA_ne _ (by decide), VL.appA_ne _ (by decide), VL.appA_ne _ (by decide), VL.appA_self]
theorem VL.proto_4 (L : VL) (f : FS) : (L.proto f).A 4 = ((L.A 4).1 + f.ks.length, (L.A 4).2 ++ rws pvc f.ks) := by
  unfold VL.proto
  rw [VL.appA_ne _ (by decide), VL.appA_ne _ (by decide), VL.appA_self, VL.appA_ne _ (by decide)]
theorem VL.proto_5 (L : VL) (f : FS) : (L.proto f).A 5 = ((L.A 5).1 + f.code.length, (L.A 5).2 ++ rws inc f.code) := by
  unfold VL.proto
  rw [VL.appA_ne _ (by decide), VL.appA_self, VL.appA_ne _ (by decide), VL.appA_ne _ (by decide)]
/-- the counts are within the image. -/
theorem VL.protos_bd : ∀ (F : Fns) (L : VL), ((L.protos F).A 2).1 = (L.A 2).1 + F.length ∧ ((L.protos F).A 3).1 ≤ (L.A 3).1 + (F.flatMap fby).length ∧ ((L.protos F).A 4).1 ≤ (L.A 4).1 + (F.flatMap fby).length ∧ ((L.protos F).A 5).1 ≤ (L.A 5).1 + (F.flatMap fby).length
  | [], L => ⟨rfl, Nat.le_refl _, Nat.le_refl _, Nat.le_refl _⟩
  | f :: F, L => by
    obtain ⟨h2, h3, h4, h5⟩ := VL.protos_bd F (L.proto f)
    have e : L.protos (f :: F) = (L.proto f).protos F := rfl
    rw [VL.proto_2] at h2
    rw [VL.proto_3] at h3
    rw [VL.proto_4] at h4
    rw [VL.proto_5] at h5
    have hk := ks_sum f.ks
    have hf := fby_len f
    unfold fb at hf
    simp only at h2 h3 h4 h5
    rw [e, List.flatMap_cons, List.length_append, List.length_cons]
    refine ⟨by omega, by omega, by omega, by omega⟩
/-- the first row stays first. -/
theorem VL.protos_hd : ∀ (F : Fns) (L : VL), ∃ t, ((L.protos F).A 2).2 = (L.A 2).2 ++ t
  | [], L => ⟨[], by rw [List.append_nil]; rfl⟩
  | f :: F, L => by
    obtain ⟨t, h⟩ := VL.protos_hd F (L.proto f)
    rw [VL.proto_2] at h
    exact ⟨_, h.trans (List.append_assoc _ _ _)⟩
end Go.Proofs.Qxb6500568aGreatDoor
