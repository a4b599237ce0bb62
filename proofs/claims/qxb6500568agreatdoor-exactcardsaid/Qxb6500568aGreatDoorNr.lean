import Derived.Test.Qxb6500568aGreatDoorNq
namespace Go.Proofs.Qxb6500568aGreatDoor
open Ieee
set_option linter.unusedVariables false
set_option linter.unusedSimpArgs false
set_option linter.unusedSectionVars false

/-! The code of a loop's body before its breaks are patched: they bear the operand 65535. -/

def holeF (x : Nat) (i : Nat × Nat) : Nat × Nat := if i = (21, 65535) then (21, x) else i
def HoP (q : Out) : Prop := ∀ x, q.1 x = (q.1 65535).map (holeF x)
theorem hole_ok {c : Cod} (h : OpsOK c) (x : Nat) : c.map (holeF x) = c := by
  rw [show c = c.map id by simp]
  rw [List.map_map]
  refine List.map_congr_left fun i hi => ?_
  have := (h i hi).2
  show holeF x i = i
  unfold holeF
  rw [if_neg]
  intro e
  rw [e] at this
  exact absurd this (by decide)
/-- code that does not hang on the exit. -/
def CoP (q : Out) : Prop := ∀ x y, q.1 x = q.1 y
theorem CoP.ho {q : Out} (h : CoP q) (ho : OpsOK (q.1 0)) : HoP q := fun x => by rw [h x 0, h 65535 0, hole_ok ho]
def CoT (t : Tr) : Prop := ∀ (md : Nat) (ch : Chn) (base a : Nat) (S : Fns), CoP (cmp t md ch base a S)
section
variable {ta tb : Tr}
theorem co_lit {k : Nat} : CoT (Ex.lit k) := fun md ch base a S x y => rfl
theorem co_num {k : Nat} : CoT (Ex.num k) := fun md ch base a S x y => rfl
theorem co_str {s : Str} : CoT (Ex.str s) := fun md ch base a S x y => rfl
theorem co_name {s : Str} : CoT (Ex.name s) := fun md ch base a S x y => rfl
theorem co_func {n : Nat} {ps : List Str} {b : Tr} : CoT (Ex.func n ps b) := fun md ch base a S x y => rfl
theorem co_index (ha : CoT ta) (hb : CoT tb) : CoT (Ex.index ta tb) := fun md ch base a S x y => by
  show _ ++ _ ++ _ = _ ++ _ ++ _
  rw [ha 0 ch 0 a S x y, hb 0 ch 0 _ _ x y]
theorem co_call (ha : CoT ta) (hb : CoT tb) : CoT (Ex.call ta tb) := fun md ch base a S x y => by
  show _ ++ _ ++ _ = _ ++ _ ++ _
  rw [ha 0 ch 0 a S x y, hb 0 ch 0 _ _ x y]
theorem co_bin {op : Nat} (ha : CoT ta) (hb : CoT tb) : CoT (Ex.bin op ta tb) := fun md ch base a S x y => by
  show _ ++ _ ++ _ = _ ++ _ ++ _
  rw [ha 0 ch 0 a S x y, hb 0 ch 0 _ _ x y]
theorem co_land (ha : CoT ta) (hb : CoT tb) : CoT (Ex.land ta tb) := fun md ch base a S x y => by
  show _ ++ _ ++ _ = _ ++ _ ++ _
  rw [ha 0 ch 0 a S x y, hb 0 ch 0 _ _ x y]
theorem co_lor (ha : CoT ta) (hb : CoT tb) : CoT (Ex.lor ta tb) := fun md ch base a S x y => by
  show _ ++ _ ++ _ = _ ++ _ ++ _
  rw [ha 0 ch 0 a S x y, hb 0 ch 0 _ _ x y]
theorem co_un {op : Nat} (ha : CoT ta) : CoT (Ex.un op ta) := fun md ch base a S x y => by
  show _ ++ _ = _ ++ _
  rw [ha 0 ch 0 a S x y]
theorem co_table (ha : CoT ta) : CoT (Ex.table ta) := fun md ch base a S x y => by
  show _ :: _ = _ :: _
  rw [ha 1 ch 0 (a + 1) S x y]
theorem co_nil : CoT ExL.nil := fun md ch base a S x y => rfl
theorem co_cons (ha : CoT ta) (hb : CoT tb) : CoT (ExL.cons ta tb) := fun md ch base a S x y => by
  have e0 : cmp (ExL.cons ta tb) md ch base a S = if md = 0 then (fun x => (cmp ta 0 ch 0 a S).1 x ++ (cmp tb 0 ch 0 (a + ln (cmp ta 0 ch 0 a S)) (cmp ta 0 ch 0 a S).2).1 x, (cmp tb 0 ch 0 (a + ln (cmp ta 0 ch 0 a S)) (cmp ta 0 ch 0 a S).2).2) else (fun x => (cmp ta 0 ch 0 a S).1 x ++ [(13, md)] ++ (cmp tb (md + 1) ch 0 (a + ln (cmp ta 0 ch 0 a S) + 1) (cmp ta 0 ch 0 a S).2).1 x, (cmp tb (md + 1) ch 0 (a + ln (cmp ta 0 ch 0 a S) + 1) (cmp ta 0 ch 0 a S).2).2) := rfl
  rw [e0]
  by_cases h : md = 0
  · rw [if_pos h]
    show _ ++ _ = _ ++ _
    rw [ha 0 ch 0 a S x y, hb 0 ch 0 _ _ x y]
  · rw [if_neg h]
    show _ ++ _ ++ _ = _ ++ _ ++ _
    rw [ha 0 ch 0 a S x y, hb (md + 1) ch 0 _ _ x y]
end
theorem co_all (G : Arena) : ∀ k, (∀ e n, IsE G n e → szT e ≤ k → CoT e) ∧ (∀ l n, IsEL G n l → szT l ≤ k → CoT l)
  | 0 => ⟨fun e n _ h => by have := szT_pos e; omega, fun e n _ h => by have := szT_pos e; omega⟩
  | k + 1 => by
    obtain ⟨hE, hA⟩ := co_all G k
    refine ⟨fun e n h hk => ?_, fun l n h hk => ?_⟩
    · rcases h.inv with ⟨_, rfl⟩ | ⟨_, rfl⟩ | ⟨_, rfl⟩ | ⟨_, rfl⟩ | ⟨a, b, rfl⟩ | ⟨f, zs, rfl⟩ | ⟨c, ps, b, rfl⟩ | ⟨zs, rfl⟩ | ⟨op, a, b, rfl⟩ | ⟨op, a, rfl⟩ | ⟨a, b, rfl⟩ | ⟨a, b, rfl⟩
      · exact co_lit
      · exact co_num
      · exact co_str
      · exact co_name
      · obtain ⟨-, -, ha, hb⟩ := IsE_index.1 h
        have hk : 1 + szT a + szT b ≤ k + 1 := hk
        exact co_index (hE a _ ha (by omega)) (hE b _ hb (by omega))
      · obtain ⟨-, -, ha, hb⟩ := IsE_call.1 h
        have hk : 1 + szT f + szT zs ≤ k + 1 := hk
        exact co_call (hE f _ ha (by omega)) (hA zs _ hb (by omega))
      · exact co_func
      · obtain ⟨-, -, hb⟩ := IsE_table.1 h
        have hk : 1 + szT zs ≤ k + 1 := hk
        exact co_table (hA zs _ hb (by omega))
      · obtain ⟨-, -, -, ha, hb⟩ := IsE_bin.1 h
        have hk : 1 + szT a + szT b ≤ k + 1 := hk
        exact co_bin (hE a _ ha (by omega)) (hE b _ hb (by omega))
      · obtain ⟨-, -, -, ha⟩ := IsE_un.1 h
        have hk : 1 + szT a ≤ k + 1 := hk
        exact co_un (hE a _ ha (by omega))
      · obtain ⟨-, -, ha, hb⟩ := IsE_land.1 h
        have hk : 1 + szT a + szT b ≤ k + 1 := hk
        exact co_land (hE a _ ha (by omega)) (hE b _ hb (by omega))
      · obtain ⟨-, -, ha, hb⟩ := IsE_lor.1 h
        have hk : 1 + szT a + szT b ≤ k + 1 := hk
        exact co_lor (hE a _ ha (by omega)) (hE b _ hb (by omega))
    · rcases h.inv with rfl | ⟨e, l, rfl⟩
      · exact co_nil
      · obtain ⟨-, ha, hb⟩ := IsEL_cons.1 h
        have hk : 1 + szT e + szT l ≤ k + 1 := hk
        exact co_cons (hE e _ ha (by omega)) (hA l _ hb (by omega))

end Go.Proofs.Qxb6500568aGreatDoor
