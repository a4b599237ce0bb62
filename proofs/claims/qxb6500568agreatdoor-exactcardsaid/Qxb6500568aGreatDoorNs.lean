import Derived.Test.Qxb6500568aGreatDoorNr
namespace Go.Proofs.Qxb6500568aGreatDoor
open Ieee
set_option linter.unusedVariables false
set_option linter.unusedSimpArgs false
set_option linter.unusedSectionVars false

/-! Statements: only breaks hang on the exit. -/

theorem OpsOK.l {c d : Cod} (h : OpsOK (c ++ d)) : OpsOK c := fun i hi => h i (List.mem_append_left _ hi)
theorem OpsOK.r {c d : Cod} (h : OpsOK (c ++ d)) : OpsOK d := fun i hi => h i (List.mem_append_right _ hi)
def HoT (t : Tr) : Prop := ∀ (md : Nat) (ch : Chn) (base a : Nat) (S : Fns), OpsOK ((cmp t md ch base a S).1 0) → HoP (cmp t md ch base a S)
theorem CoT.ho {t : Tr} (h : CoT t) : HoT t := fun md ch base a S ho => (h md ch base a S).ho ho
section
variable {ta tb tc td : Tr}
theorem co_loc {s : Str} : CoT (St.loc s) := fun md ch base a S x y => rfl
theorem co_locV {s : Str} (ha : CoT ta) : CoT (St.locV s ta) := fun md ch base a S x y => by
  show _ ++ _ = _ ++ _
  rw [ha 0 ch 0 a S x y]
theorem co_loc2 {s t : Str} (ha : CoT ta) (hb : CoT tb) : CoT (St.loc2 s t ta tb) := fun md ch base a S x y => by
  show _ ++ _ ++ _ = _ ++ _ ++ _
  rw [ha 0 ch 0 a S x y, hb 0 ch 0 _ _ x y]
theorem co_locFn {s : Str} {n : Nat} {ps : List Str} {b : Tr} : CoT (St.locFn s n ps b) := fun md ch base a S x y => rfl
theorem co_setN {s : Str} (ha : CoT ta) : CoT (St.setN s ta) := fun md ch base a S x y => by
  show _ ++ _ = _ ++ _
  rw [ha 0 ch 0 a S x y]
theorem co_setI (ha : CoT ta) (hb : CoT tb) (hc : CoT tc) : CoT (St.setI ta tb tc) := fun md ch base a S x y => by
  show _ ++ _ ++ _ ++ _ = _ ++ _ ++ _ ++ _
  rw [ha 0 ch 0 a S x y, hb 0 ch 0 _ _ x y, hc 0 ch 0 _ _ x y]
theorem co_scall (ha : CoT ta) (hb : CoT tb) : CoT (St.call ta tb) := fun md ch base a S x y => by
  show _ ++ _ ++ _ = _ ++ _ ++ _
  rw [ha 0 ch 0 a S x y, hb 0 ch 0 _ _ x y]
theorem co_whl (ha : CoT ta) : CoT (St.whl ta tb) := fun md ch base a S x y => by
  show _ ++ _ ++ _ ++ _ = _ ++ _ ++ _ ++ _
  rw [ha 0 ch 0 a S x y]
theorem co_for2 {s : Str} (ha : CoT ta) (hb : CoT tb) : CoT (St.for2 s ta tb tc) := fun md ch base a S x y => by
  show _ ++ _ ++ _ ++ _ ++ _ = _ ++ _ ++ _ ++ _ ++ _
  rw [ha 0 ch 0 a S x y, hb 0 _ 0 _ _ x y]
theorem co_for3 {s : Str} (ha : CoT ta) (hb : CoT tb) (hd : CoT td) : CoT (St.for3 s ta tb td tc) := fun md ch base a S x y => by
  show _ ++ _ ++ _ ++ _ ++ _ ++ _ = _ ++ _ ++ _ ++ _ ++ _ ++ _
  rw [ha 0 ch 0 a S x y, hb 0 _ 0 _ _ x y, hd 0 _ 0 _ _ x y]
theorem co_forIn {s t : Str} (ha : CoT ta) : CoT (St.forIn s t ta tb) := fun md ch base a S x y => by
  show _ ++ _ ++ _ ++ _ = _ ++ _ ++ _ ++ _
  rw [ha 0 ch 0 a S x y]
theorem co_ret0 : CoT St.ret0 := fun md ch base a S x y => rfl
theorem co_ret1 (ha : CoT ta) : CoT (St.ret1 ta) := fun md ch base a S x y => by
  show _ ++ _ = _ ++ _
  rw [ha 0 ch 0 a S x y]
theorem co_ret2 (ha : CoT ta) (hb : CoT tb) : CoT (St.ret2 ta tb) := fun md ch base a S x y => by
  show _ ++ _ ++ _ = _ ++ _ ++ _
  rw [ha 0 ch 0 a S x y, hb 0 ch 0 _ _ x y]
theorem co_nilB : CoT StL.nil := fun md ch base a S x y => rfl
theorem ho_brk : HoT St.brk := fun md ch base a S ho x => by
  have e0 : ∀ x, (cmp St.brk md ch base a S).1 x = (if base < (hL ch).length then [(29, base), (21, x)] else [(21, x)]) := fun x => rfl
  rw [e0, e0]
  split
  · show _ = [holeF x (29, base), holeF x (21, 65535)]
    unfold holeF
    rw [if_neg (by simp), if_pos rfl]
  · show _ = [holeF x (21, 65535)]
    unfold holeF
    rw [if_pos rfl]
theorem ho_consB (ha : HoT ta) (hb : HoT tb) : HoT (StL.cons ta tb) := fun md ch base a S ho x => by
  have e0 : ∀ x, (cmp (StL.cons ta tb) md ch base a S).1 x = (cmp ta 0 ch base a S).1 x ++ (cmp tb md (loc ch (aftS (hL ch) ta)) base (a + ln (cmp ta 0 ch base a S)) (cmp ta 0 ch base a S).2).1 x := fun x => rfl
  rw [e0] at ho
  rw [e0, e0, List.map_append, ← ha 0 ch base a S ho.l x, ← hb md _ base _ _ ho.r x]
theorem ho_iff (ha : CoT ta) (hb : HoT tb) (hc : HoT tc) : HoT (St.iff ta tb tc) := fun md ch base a S ho x => by
  have e0 : (cmp (St.iff ta tb tc) md ch base a S) = ((let q := cmp ta 0 ch 0 a S
     let q2 := cmp tb (hL ch).length ch base (a + ln q + 1) q.2
     let q3 := cmp tc (hL ch).length ch base (a + ln q + 1 + ln q2 + 1) q2.2
     (fun x => q.1 x ++ [(22, a + ln q + 1 + ln q2 + 1)] ++ q2.1 x ++ [(21, a + ln q + 1 + ln q2 + 1 + ln q3)] ++ q3.1 x, q3.2)) : Out) := rfl
  dsimp only at e0
  rw [e0] at ho ⊢
  have h1 := (ha 0 ch 0 a S).ho ho.l.l.l.l x
  have h2 := hb (hL ch).length ch base (a + ln (cmp ta 0 ch 0 a S) + 1) (cmp ta 0 ch 0 a S).2 ho.l.l.r x
  have h3 := hc (hL ch).length ch base _ _ ho.r x
  have g1 := hole_ok ho.l.l.l.r x
  have g2 := hole_ok ho.l.r x
  dsimp only
  rw [List.map_append, List.map_append, List.map_append, List.map_append, g1, g2, ← h1, ← h2, ← h3]
end
theorem ho_all (G : Arena) : ∀ k, (∀ s n, IsS G n s → szT s ≤ k → HoT s) ∧ (∀ l n, IsSL G n l → szT l ≤ k → HoT l)
  | 0 => ⟨fun e n _ h => by have := szT_pos e; omega, fun e n _ h => by have := szT_pos e; omega⟩
  | k + 1 => by
    obtain ⟨hS, hB⟩ := ho_all G k
    have hE : ∀ {e n}, IsE G n e → CoT e := fun {e n} h => (co_all G (szT e)).1 e n h (Nat.le_refl _)
    have hA : ∀ {e n}, IsEL G n e → CoT e := fun {e n} h => (co_all G (szT e)).2 e n h (Nat.le_refl _)
    refine ⟨fun s n h hk => ?_, fun l n h hk => ?_⟩
    · rcases h.inv with ⟨s, rfl⟩ | ⟨s, v, rfl⟩ | ⟨s, t, f, zs, rfl⟩ | ⟨s, c, ps, b, rfl⟩ | ⟨s, v, rfl⟩ | ⟨a, b, v, rfl⟩ | ⟨f, zs, rfl⟩ | ⟨c, t, e, rfl⟩ | ⟨c, b, rfl⟩ | ⟨s, a, l, b, rfl⟩ | ⟨s, a, l, p, b, rfl⟩ | ⟨s, t, c, b, rfl⟩ | rfl | ⟨a, rfl⟩ | ⟨a, b, rfl⟩ | rfl
      · exact co_loc.ho
      · obtain ⟨-, -, -, ha⟩ := IsS_locV.1 h
        exact (co_locV (hE ha)).ho
      · obtain ⟨-, -, -, -, -, ha, hb⟩ := IsS_loc2.1 h
        exact (co_loc2 (hE ha) (hA hb)).ho
      · exact co_locFn.ho
      · obtain ⟨-, -, -, -, -, ha⟩ := IsS_setN.1 h
        exact (co_setN (hE ha)).ho
      · obtain ⟨-, -, -, -, ha, hb, hv⟩ := IsS_setI.1 h
        exact (co_setI (hE ha) (hE hb) (hE hv)).ho
      · obtain ⟨-, -, -, -, ha, hb⟩ := IsS_call.1 h
        exact (co_scall (hE ha) (hA hb)).ho
      · obtain ⟨-, -, ha, hb, hc⟩ := IsS_iff.1 h
        have hk : 1 + szT c + szT t + szT e ≤ k + 1 := hk
        exact ho_iff (hE ha) (hB t _ hb (by omega)) (hB e _ hc (by omega))
      · obtain ⟨-, -, ha, hb⟩ := IsS_whl.1 h
        exact (co_whl (hE ha)).ho
      · obtain ⟨-, -, -, -, ha, -, hb, -, hc⟩ := IsS_for2.1 h
        exact (co_for2 (hE ha) (hE hb)).ho
      · obtain ⟨-, -, -, -, ha, -, hb, -, hp, -, hc⟩ := IsS_for3.1 h
        exact (co_for3 (hE ha) (hE hb) (hE hp)).ho
      · obtain ⟨-, -, -, ha, hb⟩ := IsS_forIn.1 h
        exact (co_forIn (hE ha)).ho
      · exact co_ret0.ho
      · obtain ⟨-, -, ha, -⟩ := IsS_ret1.1 h
        exact (co_ret1 (hE ha)).ho
      · obtain ⟨-, -, ha, hb⟩ := IsS_ret2.1 h
        exact (co_ret2 (hE ha) (hE hb)).ho
      · exact ho_brk
    · rcases h.inv with rfl | ⟨e, l, rfl⟩
      · exact co_nilB.ho
      · obtain ⟨-, ha, hb⟩ := IsSL_cons.1 h
        have hk : 1 + szT e + szT l ≤ k + 1 := hk
        exact ho_consB (hS e _ ha (by omega)) (hB l _ hb (by omega))

end Go.Proofs.Qxb6500568aGreatDoor
