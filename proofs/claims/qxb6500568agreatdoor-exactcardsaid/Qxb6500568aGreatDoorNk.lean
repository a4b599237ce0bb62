import Derived.Test.Qxb6500568aGreatDoorNj
namespace Go.Proofs.Qxb6500568aGreatDoor
open Ieee
set_option linter.unusedVariables false
set_option linter.unusedSimpArgs false
set_option linter.unusedSectionVars false

/-! Every tree of the parser is compiled to what it should be. -/

theorem cor_all (G : Arena) : ∀ k, (∀ e n lp m, IsE G n e → W e lp m → szT e ≤ k → CorE e) ∧ (∀ l n lp m, IsEL G n l → W l lp m → szT l ≤ k → CorA l ∧ CorI l) ∧
    (∀ s n lp m, IsS G n s → W s lp m → szT s ≤ k → CorS s lp) ∧ (∀ l n lp m, IsSL G n l → W l lp m → szT l ≤ k → CorB l lp)
  | 0 => ⟨fun e n lp m _ _ h => by have := szT_pos e; omega, fun e n lp m _ _ h => by have := szT_pos e; omega, fun e n lp m _ _ h => by have := szT_pos e; omega, fun e n lp m _ _ h => by have := szT_pos e; omega⟩
  | k + 1 => by
    obtain ⟨hE, hA, hS, hB⟩ := cor_all G k
    refine ⟨fun e n lp m h hw hk => ?_, fun l n lp m h hw hk => ?_, fun s n lp m h hw hk => ?_, fun l n lp m h hw hk => ?_⟩
    · rcases h.inv with ⟨_, rfl⟩ | ⟨_, rfl⟩ | ⟨_, rfl⟩ | ⟨_, rfl⟩ | ⟨a, b, rfl⟩ | ⟨f, zs, rfl⟩ | ⟨c, ps, b, rfl⟩ | ⟨zs, rfl⟩ | ⟨op, a, b, rfl⟩ | ⟨op, a, rfl⟩ | ⟨a, b, rfl⟩ | ⟨a, b, rfl⟩
      · intro j' L' r' b' x' a' S' F'; exact cor_lit
      · intro j' L' r' b' x' a' S' F'; exact cor_num
      · intro j' L' r' b' x' a' S' F'; exact cor_str
      · intro j' L' r' b' x' a' S' F'; exact cor_name
      · obtain ⟨-, -, ha, hb⟩ := IsE_index.1 h
        have hw : W a false m ∧ W b false m := hw
        have hk : 1 + szT a + szT b ≤ k + 1 := hk
        intro j' L' r' b' x' a' S' F'; exact cor_index (hE a _ _ _ ha hw.1 (by omega)) (hE b _ _ _ hb hw.2 (by omega))
      · obtain ⟨-, -, ha, hb⟩ := IsE_call.1 h
        have hw : lenE zs ≤ 3 ∧ W f false m ∧ W zs false m := hw
        have hk : 1 + szT f + szT zs ≤ k + 1 := hk
        intro j' L' r' b' x' a' S' F'; exact cor_call (hE f _ _ _ ha hw.2.1 (by omega)) (hA zs _ _ _ hb hw.2.2 (by omega)).1 hw.1
      · obtain ⟨-, -, -, -, hb⟩ := IsE_func.1 h
        have hw : FnW c ps ∧ W b false ps.length := hw
        have hk : 1 + szT b ≤ k + 1 := hk
        intro j' L' r' b' x' a' S' F'; exact cor_func (hB b _ _ _ hb hw.2 (by omega)) hw.1
      · obtain ⟨-, -, hb⟩ := IsE_table.1 h
        have hw : W zs false m := hw
        have hk : 1 + szT zs ≤ k + 1 := hk
        intro j' L' r' b' x' a' S' F'; exact cor_table (hA zs _ _ _ hb hw (by omega)).2
      · obtain ⟨-, -, -, ha, hb⟩ := IsE_bin.1 h
        have hw : (op = 20 ∨ (11 ≤ op ∧ op ≤ 16) ∨ (1 ≤ op ∧ op ≤ 6)) ∧ W a false m ∧ W b false m := hw
        have hk : 1 + szT a + szT b ≤ k + 1 := hk
        intro j' L' r' b' x' a' S' F'; exact cor_bin (hE a _ _ _ ha hw.2.1 (by omega)) (hE b _ _ _ hb hw.2.2 (by omega)) hw.1
      · obtain ⟨-, -, -, ha⟩ := IsE_un.1 h
        have hw : (1 ≤ op ∧ op ≤ 3) ∧ W a false m := hw
        have hk : 1 + szT a ≤ k + 1 := hk
        intro j' L' r' b' x' a' S' F'; exact cor_un (hE a _ _ _ ha hw.2 (by omega)) hw.1
      · obtain ⟨-, -, ha, hb⟩ := IsE_land.1 h
        have hw : W a false m ∧ W b false m := hw
        have hk : 1 + szT a + szT b ≤ k + 1 := hk
        intro j' L' r' b' x' a' S' F'; exact cor_land (hE a _ _ _ ha hw.1 (by omega)) (hE b _ _ _ hb hw.2 (by omega))
      · obtain ⟨-, -, ha, hb⟩ := IsE_lor.1 h
        have hw : W a false m ∧ W b false m := hw
        have hk : 1 + szT a + szT b ≤ k + 1 := hk
        intro j' L' r' b' x' a' S' F'; exact cor_lor (hE a _ _ _ ha hw.1 (by omega)) (hE b _ _ _ hb hw.2 (by omega))
    · rcases h.inv with rfl | ⟨e, l, rfl⟩
      · exact ⟨fun {_ _ _ _ _ _ _ _} => cor_nilA, fun {_ _ _ _ _ _ _ _ _} => cor_nilI⟩
      · obtain ⟨-, ha, hb⟩ := IsEL_cons.1 h
        have hw : W e false m ∧ W l false m := hw
        have hk : 1 + szT e + szT l ≤ k + 1 := hk
        have h1 : CorE e := hE e _ _ _ ha hw.1 (by omega)
        have h2 := hA l _ _ _ hb hw.2 (by omega)
        exact ⟨fun {_ _ _ _ _ _ _ _} => cor_consA h1 h2.1, fun {_ _ _ _ _ _ _ _ _} => cor_consI h1 h2.2⟩
    · rcases h.inv with ⟨s, rfl⟩ | ⟨s, v, rfl⟩ | ⟨s, t, f, zs, rfl⟩ | ⟨s, c, ps, b, rfl⟩ | ⟨s, v, rfl⟩ | ⟨a, b, v, rfl⟩ | ⟨f, zs, rfl⟩ | ⟨c, t, e, rfl⟩ | ⟨c, b, rfl⟩ | ⟨s, a, l, b, rfl⟩ | ⟨s, a, l, p, b, rfl⟩ | ⟨s, t, c, b, rfl⟩ | rfl | ⟨a, rfl⟩ | ⟨a, b, rfl⟩ | rfl
      · have hw : NmW s ∧ m + 1 ≤ 12 := hw
        intro j' L' r' b' x' a' S' F' lc'; exact cor_loc hw.1
      · obtain ⟨-, -, -, ha⟩ := IsS_locV.1 h
        have hw : NmW s ∧ m + 1 ≤ 12 ∧ dE v ≤ 128 ∧ W v false m := hw
        have hk : 1 + szT v ≤ k + 1 := hk
        intro j' L' r' b' x' a' S' F' lc'; exact cor_locV (hE v _ _ _ ha hw.2.2.2 (by omega)) hw.1 hw.2.2.1
      · obtain ⟨-, -, -, -, -, ha, hb⟩ := IsS_loc2.1 h
        have hw : NmW s ∧ NmW t ∧ m + 2 ≤ 12 ∧ CallW f zs ∧ W f false m ∧ W zs false m := hw
        have hk : 1 + szT f + szT zs ≤ k + 1 := hk
        intro j' L' r' b' x' a' S' F' lc'; exact cor_loc2 (hE f _ _ _ ha hw.2.2.2.2.1 (by omega)) (hA zs _ _ _ hb hw.2.2.2.2.2 (by omega)).1 hw.1 hw.2.1 hw.2.2.2.1
      · obtain ⟨-, -, -, -, -, -, -, hb⟩ := IsS_locFn.1 h
        have hw : NmW s ∧ m + 1 ≤ 12 ∧ FnW c ps ∧ W b false ps.length := hw
        have hk : 1 + szT b ≤ k + 1 := hk
        intro j' L' r' b' x' a' S' F' lc'; exact cor_locFn (hB b _ _ _ hb hw.2.2.2 (by omega)) hw.1 hw.2.2.1
      · obtain ⟨-, -, -, -, -, ha⟩ := IsS_setN.1 h
        have hw : NmW s ∧ dE v ≤ 128 ∧ W v false m := hw
        have hk : 1 + szT v ≤ k + 1 := hk
        intro j' L' r' b' x' a' S' F' lc'; exact cor_setN (hE v _ _ _ ha hw.2.2 (by omega)) hw.2.1
      · obtain ⟨-, -, -, -, ha, hb, hv⟩ := IsS_setI.1 h
        have hw : dE a ≤ 128 ∧ 1 + dE b ≤ 128 ∧ 2 + dE v ≤ 128 ∧ W a false m ∧ W b false m ∧ W v false m := hw
        have hk : 1 + szT a + szT b + szT v ≤ k + 1 := hk
        intro j' L' r' b' x' a' S' F' lc'; exact cor_setI (hE a _ _ _ ha hw.2.2.2.1 (by omega)) (hE b _ _ _ hb hw.2.2.2.2.1 (by omega)) (hE v _ _ _ hv hw.2.2.2.2.2 (by omega)) hw.1 hw.2.1 hw.2.2.1
      · obtain ⟨-, -, -, -, ha, hb⟩ := IsS_call.1 h
        have hw : CallW f zs ∧ W f false m ∧ W zs false m := hw
        have hk : 1 + szT f + szT zs ≤ k + 1 := hk
        intro j' L' r' b' x' a' S' F' lc'; exact cor_scall (hE f _ _ _ ha hw.2.1 (by omega)) (hA zs _ _ _ hb hw.2.2 (by omega)).1 hw.1
      · obtain ⟨-, -, ha, hb, hc⟩ := IsS_iff.1 h
        have hw : dE c ≤ 128 ∧ W c false m ∧ W t lp m ∧ W e lp m := hw
        have hk : 1 + szT c + szT t + szT e ≤ k + 1 := hk
        intro j' L' r' b' x' a' S' F' lc'; exact cor_iff (hE c _ _ _ ha hw.2.1 (by omega)) (hB t _ _ _ hb hw.2.2.1 (by omega)) (hB e _ _ _ hc hw.2.2.2 (by omega)) hw.1
      · obtain ⟨-, -, ha, hb⟩ := IsS_whl.1 h
        have hw : dE c ≤ 128 ∧ W c false m ∧ W b true m := hw
        have hk : 1 + szT c + szT b ≤ k + 1 := hk
        intro j' L' r' b' x' a' S' F' lc'; exact cor_whl (hE c _ _ _ ha hw.2.1 (by omega)) (hB b _ _ _ hb hw.2.2 (by omega)) hw.1
      · obtain ⟨-, -, -, -, ha, -, hb, -, hc⟩ := IsS_for2.1 h
        have hw : NmW s ∧ m + 4 ≤ 12 ∧ dE a ≤ 128 ∧ dE l ≤ 128 ∧ W a false m ∧ W l false (m + 1) ∧ W b true (m + 4) := hw
        have hk : 1 + szT a + szT l + szT b ≤ k + 1 := hk
        intro j' L' r' b' x' a' S' F' lc'; exact cor_for2 (hE a _ _ _ ha hw.2.2.2.2.1 (by omega)) (hE l _ _ _ hb hw.2.2.2.2.2.1 (by omega)) (hB b _ _ _ hc hw.2.2.2.2.2.2 (by omega)) hw.1 hw.2.2.1 hw.2.2.2.1
      · obtain ⟨-, -, -, -, ha, -, hb, -, hp, -, hc⟩ := IsS_for3.1 h
        have hw : NmW s ∧ m + 4 ≤ 12 ∧ dE a ≤ 128 ∧ dE l ≤ 128 ∧ dE p ≤ 128 ∧ W a false m ∧ W l false (m + 1) ∧ W p false (m + 2) ∧ W b true (m + 4) := hw
        have hk : 1 + szT a + szT l + szT p + szT b ≤ k + 1 := hk
        intro j' L' r' b' x' a' S' F' lc'; exact cor_for3 (hE a _ _ _ ha hw.2.2.2.2.2.1 (by omega)) (hE l _ _ _ hb hw.2.2.2.2.2.2.1 (by omega)) (hE p _ _ _ hp hw.2.2.2.2.2.2.2.1 (by omega)) (hB b _ _ _ hc hw.2.2.2.2.2.2.2.2 (by omega)) hw.1 hw.2.2.1 hw.2.2.2.1 hw.2.2.2.2.1
      · obtain ⟨-, -, -, ha, hb⟩ := IsS_forIn.1 h
        have hw : NmW s ∧ NmW t ∧ m + 4 ≤ 12 ∧ dE c ≤ 128 ∧ W c false m ∧ W b true (m + 4) := hw
        have hk : 1 + szT c + szT b ≤ k + 1 := hk
        intro j' L' r' b' x' a' S' F' lc'; exact cor_forIn (hE c _ _ _ ha hw.2.2.2.2.1 (by omega)) (hB b _ _ _ hb hw.2.2.2.2.2 (by omega)) hw.1 hw.2.1 hw.2.2.2.1
      · intro j' L' r' b' x' a' S' F' lc'; exact cor_ret0
      · obtain ⟨-, -, ha, -⟩ := IsS_ret1.1 h
        have hw : dE a ≤ 127 ∧ W a false m := hw
        have hk : 1 + szT a ≤ k + 1 := hk
        intro j' L' r' b' x' a' S' F' lc'; exact cor_ret1 (hE a _ _ _ ha hw.2 (by omega)) hw.1
      · obtain ⟨-, -, ha, hb⟩ := IsS_ret2.1 h
        have hw : dE a ≤ 128 ∧ 1 + dE b ≤ 128 ∧ W a false m ∧ W b false m := hw
        have hk : 1 + szT a + szT b ≤ k + 1 := hk
        intro j' L' r' b' x' a' S' F' lc'; exact cor_ret2 (hE a _ _ _ ha hw.2.2.1 (by omega)) (hE b _ _ _ hb hw.2.2.2 (by omega)) hw.1 hw.2.1
      · have hw : lp = true := hw
        subst hw
        intro j' L' r' b' x' a' S' F' lc'; exact cor_brk
    · rcases h.inv with rfl | ⟨e, l, rfl⟩
      · intro j' L0' L' r' b' x' a' S' F' lc'; exact cor_nilB
      · obtain ⟨-, ha, hb⟩ := IsSL_cons.1 h
        have hw : W e lp m ∧ W l lp (aftN m e) := hw
        have hk : 1 + szT e + szT l ≤ k + 1 := hk
        intro j' L0' L' r' b' x' a' S' F' lc'; exact cor_consB (hS e _ _ _ ha hw.1 (by omega)) (hB l _ _ _ hb hw.2 (by omega))

theorem prog_fnd {G : Arena} {root n : Nat} {t : StL} (hr : IsSL G root t) (hW : W t false 0) (h0 : (nd G 0).A = 0) (hn : (0 :: numsT t).Nodup) (hl : ∀ k ∈ 0 :: numsT t, k < n) :
    FnD G root (Psf (progF t n)) (Fsf (progF t n)) 0 0 ∧ Fsf (progF t n) 0 = ⟨[], []⟩ := by
  have hz : ∀ k, fsAt (List.replicate n FS.zero) k = FS.zero := fun k => by
    unfold fsAt
    rw [List.getD_eq_getElem?_getD, List.getElem?_replicate]
    by_cases h : k < n <;> simp [h]
  have hc : ChOK (List.replicate n FS.zero) 0 [] := by
    refine ⟨?_, ?_, ?_⟩ <;> rw [hz] <;> rfl
  have hf : Fit (List.replicate n FS.zero) 0 [] (numsT t) := ⟨hn, fun k hk => by rw [List.length_replicate]; exact hl k hk⟩
  have m := mo_all t 0 0 [] [] 0 0 _ hc hf
  have hB : CorB t false := (cor_all G (szT t)).2.2.2 t root false 0 hr hW (Nat.le_refl _)
  have hb := fun F => @hB 0 [] [] [] 0 0 0 (List.replicate n FS.zero) F []
  have e : progF t n = List.modify (cmp t 0 [(0, [])] 0 0 (List.replicate n FS.zero)).2 0 (fun f => { f with code := (cmp t 0 [(0, [])] 0 0 (List.replicate n FS.zero)).1 0 ++ [(2, 0), (2, 0), (27, 0)] }) := rfl
  have hb : ∀ F, Ok F (List.replicate n FS.zero) 0 [] (numsT t) (cmp t 0 [(0, [])] 0 0 (List.replicate n FS.zero)) 0 0 → CB (Psf F) (Fsf F) 0 [] [] [] t 0 (0 + ln (cmp t 0 [(0, [])] 0 0 (List.replicate n FS.zero))) := fun F hok => hb F hok (Nat.zero_le _) (fun q => by cases q)
  generalize cmp t 0 [(0, [])] 0 0 (List.replicate n FS.zero) = q at *
  have hl2 : 0 < q.2.length := by rw [m.mo.len, List.length_replicate]; exact hl 0 List.mem_cons_self
  have hm : ∀ k, fsAt (progF t n) k = if k = 0 then { fsAt q.2 0 with code := q.1 0 ++ [(2, 0), (2, 0), (27, 0)] } else fsAt q.2 k := fun k => by rw [e]; exact fsAt_mod hl2
  have hn0 : 0 ∉ numsT t := (List.nodup_cons.1 hn).1
  have h00 := hm 0
  rw [if_pos rfl] at h00
  have hat : At (progF t n) 0 0 (q.1 0 ++ [(2, 0), (2, 0), (27, 0)]) := fun i y hi => by rw [h00, Nat.zero_add]; exact hi
  obtain ⟨a1, a2⟩ := hat.app
  have hcov : Cov (progF t n) q.2 0 [] (numsT t) := by
    refine ⟨by rw [e, List.length_modify], fun k hk => ?_, fun k hk => ?_⟩
    · rw [hm]
      by_cases h : k = 0
      · subst h; rw [if_pos rfl]; exact ⟨rfl, Nat.le_refl _, List.prefix_refl _, List.prefix_refl _, rfl, List.prefix_refl _⟩
      · rw [if_neg h]; exact Gw.refl _
    · rw [hm, if_neg fun (h : k = 0) => hn0 (h ▸ hk)]
  have hen := m.mo.ext 0 hn0
  rw [hz] at hen
  refine ⟨⟨[], t, 0 + ln q, h0, hr, ?_, Nat.zero_le _, (fun s hs => by cases hs), Nat.zero_le _, hb _ ⟨hc, hf, hcov, a1⟩, a2.hd, a2.tl.hd, a2.tl.tl.hd⟩, ?_⟩
  · rw [pr_psf, h00]; exact hen.np
  · unfold Fsf
    rw [h00]
    show FI.mk (fsAt q.2 0).outer (fsAt q.2 0).upos = _
    rw [m.mo.ch.1, m.mo.ch.2.2]

end Go.Proofs.Qxb6500568aGreatDoor
