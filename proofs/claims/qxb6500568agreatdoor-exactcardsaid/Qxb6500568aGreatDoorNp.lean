import Derived.Test.Qxb6500568aGreatDoorNo
namespace Go.Proofs.Qxb6500568aGreatDoor
open Ieee
set_option linter.unusedVariables false
set_option linter.unusedSimpArgs false
set_option linter.unusedSectionVars false

/-! Bounds of every tree; of the whole program. -/

theorem nd_pos {G : Arena} {n : Nat} {t : Tr} (h : IsE G n t) : 1 ≤ ndT t := by
  rcases h.inv with ⟨_, rfl⟩ | ⟨_, rfl⟩ | ⟨_, rfl⟩ | ⟨_, rfl⟩ | ⟨a, b, rfl⟩ | ⟨f, zs, rfl⟩ | ⟨c, ps, b, rfl⟩ | ⟨zs, rfl⟩ | ⟨op, a, b, rfl⟩ | ⟨op, a, rfl⟩ | ⟨a, b, rfl⟩ | ⟨a, b, rfl⟩
  · exact Nat.le_refl 1
  · exact Nat.le_refl 1
  · exact Nat.le_refl 1
  · exact Nat.le_refl 1
  · show 1 ≤ 1 + ndT a + ndT b; omega
  · show 1 ≤ 1 + ndT f + ndT zs; omega
  · show 1 ≤ 1 + ps.length + ndT b; omega
  · show 1 ≤ 1 + ndT zs; omega
  · show 1 ≤ 1 + ndT a + ndT b; omega
  · show 1 ≤ 1 + ndT a; omega
  · show 1 ≤ 1 + ndT a + ndT b; omega
  · show 1 ≤ 1 + ndT a + ndT b; omega
theorem aft_le {G : Arena} {n : Nat} {t : Tr} {lp : Bool} (h : IsS G n t) (m : Nat) (hw : W t lp m) (hm : m ≤ 12) : aftN m t ≤ 12 := by
  rcases h.inv with ⟨s, rfl⟩ | ⟨s, v, rfl⟩ | ⟨s, t, f, zs, rfl⟩ | ⟨s, c, ps, b, rfl⟩ | ⟨s, v, rfl⟩ | ⟨a, b, v, rfl⟩ | ⟨f, zs, rfl⟩ | ⟨c, t, e, rfl⟩ | ⟨c, b, rfl⟩ | ⟨s, a, l, b, rfl⟩ | ⟨s, a, l, p, b, rfl⟩ | ⟨s, t, c, b, rfl⟩ | rfl | ⟨a, rfl⟩ | ⟨a, b, rfl⟩ | rfl
  · have hw : NmW s ∧ m + 1 ≤ 12 := hw
    exact hw.2
  · have hw : NmW s ∧ m + 1 ≤ 12 ∧ dE v ≤ 128 ∧ W v false m := hw
    exact hw.2.1
  · have hw : NmW s ∧ NmW t ∧ m + 2 ≤ 12 ∧ CallW f zs ∧ W f false m ∧ W zs false m := hw
    exact hw.2.2.1
  · have hw : NmW s ∧ m + 1 ≤ 12 ∧ FnW c ps ∧ W b false ps.length := hw
    exact hw.2.1
  all_goals exact hm

theorem bd_all (G : Arena) : ∀ k, (∀ e n lp, IsE G n e → szT e ≤ k → BdC e 3 0 lp) ∧ (∀ l n lp, IsEL G n l → szT l ≤ k → BdC l 0 0 lp) ∧
    (∀ s n lp, IsS G n s → szT s ≤ k → BdC s 0 0 lp) ∧ (∀ l n lp, IsSL G n l → szT l ≤ k → BdC l 0 3 lp)
  | 0 => ⟨fun e n lp _ h => by have := szT_pos e; omega, fun e n lp _ h => by have := szT_pos e; omega, fun e n lp _ h => by have := szT_pos e; omega, fun e n lp _ h => by have := szT_pos e; omega⟩
  | k + 1 => by
    obtain ⟨hE, hA, hS, hB⟩ := bd_all G k
    refine ⟨fun e n lp h hk => ?_, fun l n lp h hk => ?_, fun s n lp h hk => ?_, fun l n lp h hk => ?_⟩
    · rcases h.inv with ⟨_, rfl⟩ | ⟨_, rfl⟩ | ⟨_, rfl⟩ | ⟨_, rfl⟩ | ⟨a, b, rfl⟩ | ⟨f, zs, rfl⟩ | ⟨c, ps, b, rfl⟩ | ⟨zs, rfl⟩ | ⟨op, a, b, rfl⟩ | ⟨op, a, rfl⟩ | ⟨a, b, rfl⟩ | ⟨a, b, rfl⟩
      · exact bd_lit (IsE_lit.1 h).2.2
      · exact bd_num
      · exact bd_str
      · exact bd_name
      · obtain ⟨-, -, ha, hb⟩ := IsE_index.1 h
        have hk : 1 + szT a + szT b ≤ k + 1 := hk
        exact bd_index (hE a _ _ ha (by omega)) (hE b _ _ hb (by omega))
      · obtain ⟨-, -, ha, hb⟩ := IsE_call.1 h
        have hk : 1 + szT f + szT zs ≤ k + 1 := hk
        exact bd_call (hE f _ _ ha (by omega)) (hA zs _ _ hb (by omega))
      · obtain ⟨-, -, -, -, hb⟩ := IsE_func.1 h
        have hk : 1 + szT b ≤ k + 1 := hk
        exact bd_func (hB b _ _ hb (by omega))
      · obtain ⟨-, -, hb⟩ := IsE_table.1 h
        have hk : 1 + szT zs ≤ k + 1 := hk
        exact bd_table (hA zs _ _ hb (by omega))
      · obtain ⟨-, -, -, ha, hb⟩ := IsE_bin.1 h
        have hk : 1 + szT a + szT b ≤ k + 1 := hk
        exact bd_bin (hE a _ _ ha (by omega)) (hE b _ _ hb (by omega))
      · obtain ⟨-, -, -, ha⟩ := IsE_un.1 h
        have hk : 1 + szT a ≤ k + 1 := hk
        exact bd_un (hE a _ _ ha (by omega))
      · obtain ⟨-, -, ha, hb⟩ := IsE_land.1 h
        have hk : 1 + szT a + szT b ≤ k + 1 := hk
        exact bd_land (hE a _ _ ha (by omega)) (hE b _ _ hb (by omega))
      · obtain ⟨-, -, ha, hb⟩ := IsE_lor.1 h
        have hk : 1 + szT a + szT b ≤ k + 1 := hk
        exact bd_lor (hE a _ _ ha (by omega)) (hE b _ _ hb (by omega))
    · rcases h.inv with rfl | ⟨e, l, rfl⟩
      · exact bd_nilA
      · obtain ⟨-, ha, hb⟩ := IsEL_cons.1 h
        have hk : 1 + szT e + szT l ≤ k + 1 := hk
        exact bd_consA (hE e _ _ ha (by omega)) (hA l _ _ hb (by omega)) (nd_pos ha)
    · rcases h.inv with ⟨s, rfl⟩ | ⟨s, v, rfl⟩ | ⟨s, t, f, zs, rfl⟩ | ⟨s, c, ps, b, rfl⟩ | ⟨s, v, rfl⟩ | ⟨a, b, v, rfl⟩ | ⟨f, zs, rfl⟩ | ⟨c, t, e, rfl⟩ | ⟨c, b, rfl⟩ | ⟨s, a, l, b, rfl⟩ | ⟨s, a, l, p, b, rfl⟩ | ⟨s, t, c, b, rfl⟩ | rfl | ⟨a, rfl⟩ | ⟨a, b, rfl⟩ | rfl
      · exact bd_loc
      · obtain ⟨-, -, -, ha⟩ := IsS_locV.1 h
        have hk : 1 + szT v ≤ k + 1 := hk
        exact bd_locV (hE v _ _ ha (by omega))
      · obtain ⟨-, -, -, -, -, ha, hb⟩ := IsS_loc2.1 h
        have hk : 1 + szT f + szT zs ≤ k + 1 := hk
        exact bd_loc2 (hE f _ _ ha (by omega)) (hA zs _ _ hb (by omega))
      · obtain ⟨-, -, -, -, -, -, -, hb⟩ := IsS_locFn.1 h
        have hk : 1 + szT b ≤ k + 1 := hk
        exact bd_locFn (hB b _ _ hb (by omega))
      · obtain ⟨-, -, -, -, -, ha⟩ := IsS_setN.1 h
        have hk : 1 + szT v ≤ k + 1 := hk
        exact bd_setN (hE v _ _ ha (by omega))
      · obtain ⟨-, -, -, -, ha, hb, hv⟩ := IsS_setI.1 h
        have hk : 1 + szT a + szT b + szT v ≤ k + 1 := hk
        exact bd_setI (hE a _ _ ha (by omega)) (hE b _ _ hb (by omega)) (hE v _ _ hv (by omega))
      · obtain ⟨-, -, -, -, ha, hb⟩ := IsS_call.1 h
        have hk : 1 + szT f + szT zs ≤ k + 1 := hk
        exact bd_scall (hE f _ _ ha (by omega)) (hA zs _ _ hb (by omega))
      · obtain ⟨-, -, ha, hb, hc⟩ := IsS_iff.1 h
        have hk : 1 + szT c + szT t + szT e ≤ k + 1 := hk
        exact bd_iff (hE c _ _ ha (by omega)) (hB t _ _ hb (by omega)) (hB e _ _ hc (by omega))
      · obtain ⟨-, -, ha, hb⟩ := IsS_whl.1 h
        have hk : 1 + szT c + szT b ≤ k + 1 := hk
        exact bd_whl (hE c _ _ ha (by omega)) (hB b _ _ hb (by omega))
      · obtain ⟨-, -, -, -, ha, -, hb, -, hc⟩ := IsS_for2.1 h
        have hk : 1 + szT a + szT l + szT b ≤ k + 1 := hk
        exact bd_for2 (hE a _ _ ha (by omega)) (hE l _ _ hb (by omega)) (hB b _ _ hc (by omega))
      · obtain ⟨-, -, -, -, ha, -, hb, -, hp, -, hc⟩ := IsS_for3.1 h
        have hk : 1 + szT a + szT l + szT p + szT b ≤ k + 1 := hk
        exact bd_for3 (hE a _ _ ha (by omega)) (hE l _ _ hb (by omega)) (hE p _ _ hp (by omega)) (hB b _ _ hc (by omega))
      · obtain ⟨-, -, -, ha, hb⟩ := IsS_forIn.1 h
        have hk : 1 + szT c + szT b ≤ k + 1 := hk
        exact bd_forIn (hE c _ _ ha (by omega)) (hB b _ _ hb (by omega))
      · exact bd_ret0
      · obtain ⟨-, -, ha, -⟩ := IsS_ret1.1 h
        have hk : 1 + szT a ≤ k + 1 := hk
        exact bd_ret1 (hE a _ _ ha (by omega))
      · obtain ⟨-, -, ha, hb⟩ := IsS_ret2.1 h
        have hk : 1 + szT a + szT b ≤ k + 1 := hk
        exact bd_ret2 (hE a _ _ ha (by omega)) (hE b _ _ hb (by omega))
      · exact bd_brk
    · rcases h.inv with rfl | ⟨e, l, rfl⟩
      · exact bd_nilB
      · obtain ⟨-, ha, hb⟩ := IsSL_cons.1 h
        have hk : 1 + szT e + szT l ≤ k + 1 := hk
        exact bd_consB (hS e _ _ ha (by omega)) (hB l _ _ hb (by omega)) (fun m => aft_le ha m)

/-- the whole program's functions are within all bounds. -/
theorem prog_bd {G : Arena} {root n : Nat} {t : StL} (hr : IsSL G root t) (hW : W t false 0) (hn : (0 :: numsT t).Nodup) (hl : ∀ k ∈ 0 :: numsT t, k < n) (h13 : n ≤ 13) (hnd : ndT t ≤ 300) :
    (∀ k, FOK (fsAt (progF t n) k)) ∧ tot (progF t n) ≤ 30012 ∧ (progF t n).length = n ∧ (fsAt (progF t n) 0).ups = [] ∧ (fsAt (progF t n) 0).np = 0 := by
  have hz : ∀ k, fsAt (List.replicate n FS.zero) k = FS.zero := fun k => by
    unfold fsAt
    rw [List.getD_eq_getElem?_getD, List.getElem?_replicate]
    by_cases h : k < n <;> simp [h]
  have hc : ChOK (List.replicate n FS.zero) 0 [] := by
    refine ⟨?_, ?_, ?_⟩ <;> rw [hz] <;> rfl
  have hf : Fit (List.replicate n FS.zero) 0 [] (numsT t) := ⟨hn, fun k hk => by rw [List.length_replicate]; exact hl k hk⟩
  have hB : BD (List.replicate n FS.zero) 0 [] := by
    refine ⟨fun k => ?_, by show (fsAt _ 0).ups = []; rw [hz]; rfl, (fun p hp => by cases hp), by rw [List.length_replicate]; exact h13⟩
    rw [hz]
    exact ⟨by decide, by decide, by decide, (fun v hv => by cases hv), .nil, 0, by decide, .nil⟩
  have ht : tot (List.replicate n FS.zero) = 0 := by
    unfold tot
    rw [List.map_replicate, show fb FS.zero = 0 from rfl]
    simp
  have m := mo_all t 0 0 [] [] 0 0 _ hc hf
  have b := (bd_all G (szT t)).2.2.2 t root false hr (Nat.le_refl _) 0 0 [] [] 0 0 _ hc hf hB hW (by simp) (by simp) (by omega) (by rw [ht]; omega)
  have e : progF t n = List.modify (cmp t 0 [(0, [])] 0 0 (List.replicate n FS.zero)).2 0 (fun f => { f with code := (cmp t 0 [(0, [])] 0 0 (List.replicate n FS.zero)).1 0 ++ [(2, 0), (2, 0), (27, 0)] }) := rfl
  have h1 := b.tl
  rw [ht] at h1
  generalize cmp t 0 [(0, [])] 0 0 (List.replicate n FS.zero) = q at *
  have hl2 : 0 < q.2.length := by rw [m.mo.len, List.length_replicate]; exact hl 0 List.mem_cons_self
  have hm : ∀ k, fsAt (progF t n) k = if k = 0 then { fsAt q.2 0 with code := q.1 0 ++ [(2, 0), (2, 0), (27, 0)] } else fsAt q.2 k := fun k => by rw [e]; exact fsAt_mod hl2
  have hn0 : 0 ∉ numsT t := (List.nodup_cons.1 hn).1
  refine ⟨fun k => ?_, ?_, ?_, ?_, ?_⟩
  · rw [hm]
    by_cases hk : k = 0
    · rw [if_pos hk]
      obtain ⟨f1, f2, f3, f4, f5, f6⟩ := b.bd.f 0
      exact ⟨f1, f2, f3, f4, (b.ops 0 lt0).app (.cons (by decide) (by decide) (.cons (by decide) (by decide) (.cons (by decide) (by decide) .nil))), f6⟩
    · rw [if_neg hk]; exact b.bd.f k
  · have := tot_mod (f := fun f => { f with code := q.1 0 ++ [(2, 0), (2, 0), (27, 0)] }) (c := 3 * (ln q + 3)) (fun g => by simp only [fb, List.length_append, List.length_cons, List.length_nil, ln]; omega) q.2 0
    rw [e]
    omega
  · rw [e, List.length_modify, m.mo.len, List.length_replicate]
  · rw [hm, if_pos rfl]
    exact b.bd.c
  · rw [hm, if_pos rfl]
    have := (m.mo.ext 0 hn0).np
    rw [hz] at this
    exact this

end Go.Proofs.Qxb6500568aGreatDoor
