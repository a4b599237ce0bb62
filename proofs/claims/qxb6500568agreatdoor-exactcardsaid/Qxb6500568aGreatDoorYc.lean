import Derived.Test.Qxb6500568aGreatDoorYb
namespace Go.Proofs.Qxb6500568aGreatDoor
open Ieee
set_option linter.unusedVariables false
set_option linter.unusedSimpArgs false
set_option linter.unusedSectionVars false

/-! Statements and expressions keep the shape. -/

section
variable {G : Arena} {root E h n x e k : Nat} {r T : List Tk} {t : Tk} {s : IS} {v : PV}

abbrev evT (e : Nat) (a : Nat) : Tk := ⟨2, a, 0, e⟩
theorem len1_map : ∀ {l : List Nat}, len1 (l.map (evT e) ++ T) = l.length + len1 T
  | [] => by simp
  | a :: l => by
    show len1 (evT e a :: (l.map (evT e) ++ T)) = _
    rw [len1_c (show (2 : Nat) ≠ 3 by decide), len1_map, List.length_cons]; omega
theorem flT_map : ∀ {l : List Nat}, flT (l.map (evT e) ++ T) = flT T
  | [] => rfl
  | a :: l => by
    show flT (evT e a :: (l.map (evT e) ++ T)) = _
    rw [flT_c (show (2 : Nat) ≠ 3 by decide), flT_map]
theorem args_len : ∀ {k : Nat} {zs : ExL} {n : Nat}, IsEL G n zs → (iargs G k n).length ≤ ndT zs ∧ (lenE zs ≤ k → (iargs G k n).length = lenE zs) ∧ (iargs G k n).length ≤ k
  | 0, zs, n, h => ⟨Nat.zero_le _, fun q => by show 0 = _; omega, Nat.le_refl _⟩
  | k + 1, zs, n, h => by
    rcases h.inv with rfl | ⟨ex, l, rfl⟩
    · have h := IsEL_nil.1 h; subst h; exact ⟨Nat.le_refl _, fun _ => rfl, Nat.zero_le _⟩
    · have h := IsEL_cons.1 h
      obtain ⟨w, h1, h2⟩ := args_len (k := k) h.2.2
      have hz : ndT (ExL.cons ex l) = 0 + ndT ex + ndT l := rfl
      have hl : lenE (ExL.cons ex l) = lenE l + 1 := rfl
      have h3 := ndT_E h.2.1
      simp only [iargs, if_neg h.1, List.length_cons]
      exact ⟨by omega, fun q => by rw [h1 (by omega), hl], by omega⟩
theorem ti_args (he : e ≤ E) : ∀ {k : Nat} {zs : ExL} {n m h : Nat}, IsEL G n zs → W zs false m → TkI G E T (h + (iargs G k n).length) → flT T ≤ h → 6 * ndT zs + 1 + len1 T + h ≤ 2000 + flT T → TkI G E ((iargs G k n).map (evT e) ++ T) h
  | 0, zs, n, m, h, h1, h2, h3, h4, h5 => h3
  | k + 1, zs, n, m, h, h1, h2, h3, h4, h5 => by
    rcases h1.inv with rfl | ⟨ex, l, rfl⟩
    · have h1 := IsEL_nil.1 h1; subst h1; exact h3
    · have h1 := IsEL_cons.1 h1
      have hz : ndT (ExL.cons ex l) = 0 + ndT ex + ndT l := rfl
      have h6 := ndT_E h1.2.1
      have h7 := (args_len (k := k) h1.2.2).1
      have hw : W ex false m ∧ W l false m := h2
      simp only [iargs, if_neg h1.1, List.length_cons] at h3 ⊢
      rw [show h + ((iargs G k (nd G n).Nx).length + 1) = (h + 1) + (iargs G k (nd G n).Nx).length by omega] at h3
      have := ti_args he (h := h + 1) h1.2.2 hw.2 h3 (by omega) (by omega)
      show TkI G E (evT e n :: ((iargs G k (nd G n).Nx).map (evT e) ++ T)) h
      exact TkI.c2 he ⟨ex, m, h1.2.1, hw.1, by rw [len1_map, flT_map]; omega⟩ (by rw [flT_map]; exact h4) this
theorem PW.foldr (P : PW G root s T h) : ∀ {l : List Nat}, PW G root (l.foldr (fun a s => ido 2 a 0 e s) s) (l.map (evT e) ++ T) h
  | [] => P
  | a :: l => (PW.foldr P (l := l)).doT (show (2 : Nat) ≠ 3 by decide)
theorem foldr_envs : ∀ {l : List Nat} {s : IS}, (l.foldr (fun a s => ido 2 a 0 e s) s).envs = s.envs
  | [], s => rfl
  | a :: l, s => foldr_envs (l := l) (s := s)
theorem call_envs {q : Nat} : (icall G q e s).envs = s.envs := by
  unfold icall
  show (List.foldr _ _ _ : IS).envs = _
  rw [foldr_envs]; rfl
theorem PW.call (hG : 0 < G.length) (P : PW G root s T h) (hT : TkI G s.envs.length T (h + 2)) (hf : flT T ≤ h) (he : e ≤ s.envs.length) {q m m' : Nat} {g : Ex} {zs : ExL} (hq : q < G.length) (h1 : IsE G (nd G q).A g) (w1 : W g false m) (h2 : IsEL G (nd G q).B zs) (w2 : W zs false m')
    (hb : 6 * (ndT g + ndT zs) + 3 + len1 T + h ≤ 2000 + flT T) : IWd G root (icall G q e s) := by
  have ha := args_len (k := 3) h2
  have hE : (icall G q e s).envs.length = s.envs.length := by rw [call_envs]
  refine PW.iw (T := ⟨2, (nd G q).A, 0, e⟩ :: ((iargs G 3 (nd G q).B).map (evT e) ++ ⟨22, q, (iargs G 3 (nd G q).B).length, e⟩ :: T)) (h := h) ?_ ?_
  · exact ((P.doT (show (22 : Nat) ≠ 3 by decide)).foldr).doT (show (2 : Nat) ≠ 3 by decide)
  · rw [hE]
    have h6 := ndT_E h1
    have l22 : len1 ((⟨22, q, (iargs G 3 (nd G q).B).length, e⟩ : Tk) :: T) = len1 T + 1 := len1_c (show (22 : Nat) ≠ 3 by decide)
    have f22 : flT ((⟨22, q, (iargs G 3 (nd G q).B).length, e⟩ : Tk) :: T) = flT T := flT_c (show (22 : Nat) ≠ 3 by decide)
    refine TkI.c2 he ⟨g, m, h1, w1, by rw [len1_map, flT_map, l22, f22]; omega⟩ (by rw [flT_map, f22]; exact hf) ?_
    refine ti_args he h2 w2 ?_ (by rw [f22]; omega) (by rw [l22, f22]; omega)
    refine TkI.mk (h + 2) (show (22 : Nat) ≠ 3 by decide) he hq (by omega) ?_ (show (iargs G 3 (nd G q).B).length ≤ 3 from ha.2.2) ?_ hT
    · show flT T + ((iargs G 3 (nd G q).B).length + 1) ≤ _; omega
    · show h + 1 + (iargs G 3 (nd G q).B).length + 1 - (iargs G 3 (nd G q).B).length = h + 2; omega

theorem PW.items (P : PW G root s T h) (hT : TkI G s.envs.length T h) (hf : flT T + 1 ≤ h) (he : e ≤ s.envs.length) {i : Nat} (hA : AB G n T h i) : IWd G root (iitems n i e s) := by
  obtain ⟨l, m, h1, h2, h3, h4⟩ := hA
  unfold iitems
  rcases h1.inv with rfl | ⟨ex, l, rfl⟩
  · rw [if_pos (IsEL_nil.1 h1)]; exact P.iw hT
  · obtain ⟨q1, q2, q3⟩ := IsEL_cons.1 h1
    have hz : ndT (ExL.cons ex l) = 0 + ndT ex + ndT l := rfl
    have hw : W ex false m ∧ W l false m := h2
    have h6 := ndT_E q2
    rw [if_neg q1]
    refine ((P.doT (show (23 : Nat) ≠ 3 by decide)).doT (show (2 : Nat) ≠ 3 by decide)).iw ?_
    have l22 : len1 ((⟨23, n, i, e⟩ : Tk) :: T) = len1 T + 1 := len1_c (show (23 : Nat) ≠ 3 by decide)
    have f22 : flT ((⟨23, n, i, e⟩ : Tk) :: T) = flT T := flT_c (show (23 : Nat) ≠ 3 by decide)
    refine TkI.c2 he ⟨ex, m, q2, hw.1, by rw [l22, f22]; omega⟩ (by rw [f22]; omega) ?_
    exact TkI.mk h (show (23 : Nat) ≠ 3 by decide) he q2.lt (by omega) (show flT T + 2 ≤ h + 1 by omega) (show AB G (nd G n).Nx T (h + 1 - 1) i from ⟨l, m, q3, hw.2, by omega, by omega⟩) rfl hT

theorem PW.eval (hG : 0 < G.length) (P : PW G root s T h) (hT : TkI G s.envs.length T (h + 1)) (hf : flT T ≤ h) (he : e ≤ s.envs.length) (hE : EB G n T h 1) : IWd G root (ieval G n x e s) := by
  obtain ⟨ex, m, hE, hw, hb⟩ := hE
  have hn := hE.ne
  have hlt := hE.lt
  unfold ieval
  rw [if_neg hn]
  rcases hE.inv with ⟨k, rfl⟩ | ⟨k, rfl⟩ | ⟨k, rfl⟩ | ⟨k, rfl⟩ | ⟨u, v, rfl⟩ | ⟨g, zs, rfl⟩ | ⟨k, ps, bd, rfl⟩ | ⟨zs, rfl⟩ | ⟨k, u, v, rfl⟩ | ⟨k, u, rfl⟩ | ⟨u, v, rfl⟩ | ⟨u, v, rfl⟩
  · obtain ⟨m0, m1, m2⟩ := IsE_lit.1 hE
    rcases m2 with rfl | rfl | rfl <;> simp only [m1, Nat.reduceEqDiff, if_true, if_false] <;> exact (P.push _).iw hT
  · obtain ⟨m0, m1, m2⟩ := IsE_num.1 hE
    simp only [m1, Nat.reduceEqDiff, if_true, if_false]; exact (P.push _).iw hT
  · obtain ⟨m0, m1, m2⟩ := IsE_str.1 hE
    simp only [m1, Nat.reduceEqDiff, if_true, if_false]; exact (P.push _).iw hT
  · obtain ⟨m0, m1, m2⟩ := IsE_name.1 hE
    simp only [m1, Nat.reduceEqDiff, if_true, if_false]
    exact IWd.ite (fun _ => (P.push _).iw hT) (fun _ => (P.push _).iw hT)
  · obtain ⟨m0, m1, m2, m3⟩ := IsE_index.1 hE
    have hz : ndT (Ex.index u v) = 1 + ndT u + ndT v := rfl
    have hw : W u false m ∧ W v false m := hw
    have a1 := ndT_E m2; have a2 := ndT_E m3
    simp only [m1, Nat.reduceEqDiff, if_true, if_false]
    refine (((P.doT (show (28 : Nat) ≠ 3 by decide)).doT (show (2 : Nat) ≠ 3 by decide)).doT (show (2 : Nat) ≠ 3 by decide)).iw ?_
    refine TkI.c2 he ⟨u, m, m2, hw.1, by rw [len1_c (show (2 : Nat) ≠ 3 by decide), len1_c (show (28 : Nat) ≠ 3 by decide), flT_c (show (2 : Nat) ≠ 3 by decide), flT_c (show (28 : Nat) ≠ 3 by decide)]; omega⟩ hf ?_
    refine TkI.c2 he ⟨v, m, m3, hw.2, by rw [len1_c (show (28 : Nat) ≠ 3 by decide), flT_c (show (28 : Nat) ≠ 3 by decide)]; omega⟩ (Nat.le_succ_of_le hf) ?_
    exact TkI.mk (h + 1) (show (28 : Nat) ≠ 3 by decide) (Nat.zero_le _) hG (by omega) (show flT T + 2 ≤ h + 1 + 1 by omega) trivial rfl hT
  · obtain ⟨m0, m1, m2, m3⟩ := IsE_call.1 hE
    have hz : ndT (Ex.call g zs) = 1 + ndT g + ndT zs := rfl
    have hw : lenE zs ≤ 3 ∧ W g false m ∧ W zs false m := hw
    simp only [m1, Nat.reduceEqDiff, if_true, if_false]
    refine PW.call hG (P.doT (show (5 : Nat) ≠ 3 by decide)) ?_ hf he hlt m2 hw.2.1 m3 hw.2.2 (by rw [len1_c (show (5 : Nat) ≠ 3 by decide), flT_c (show (5 : Nat) ≠ 3 by decide)]; omega)
    exact TkI.mk (h + 1) (show (5 : Nat) ≠ 3 by decide) (Nat.zero_le _) hG (by omega) (show flT T + 1 ≤ h + 2 by omega) trivial rfl hT
  · obtain ⟨m0, m1, m2, m3, m4⟩ := IsE_func.1 hE
    have hz : ndT (Ex.func k ps bd) = 1 + ps.length + ndT bd := rfl
    have hw : FnW k ps ∧ W bd false ps.length := hw
    simp only [m1, Nat.reduceEqDiff, if_true, if_false]
    refine IWd.ite (fun _ => .fin _ _) (fun _ => ?_)
    refine PW.iw (T := T) (h := h + 1) (PW.push (P.newC ⟨he, hlt, ⟨ps, m3, hw.1.2.2⟩, bd, ps.length, by rw [if_neg m0]; exact m4, hw.2, by omega⟩) _) hT
  · obtain ⟨m0, m1, m2⟩ := IsE_table.1 hE
    have hz : ndT (Ex.table zs) = 1 + ndT zs := rfl
    have hw : W zs false m := hw
    simp only [m1, Nat.reduceEqDiff, if_true, if_false]
    refine IWd.ite (fun _ => .fin _ _) (fun _ => ?_)
    have f := hT.fl
    exact PW.items (PW.push (P.tabs _) _) hT (by omega) he ⟨zs, m, m2, hw, by omega, by omega⟩
  · obtain ⟨m0, m1, m2, m3, m4⟩ := IsE_bin.1 hE
    have hz : ndT (Ex.bin k u v) = 1 + ndT u + ndT v := rfl
    have hw : (k = 20 ∨ (11 ≤ k ∧ k ≤ 16) ∨ (1 ≤ k ∧ k ≤ 6)) ∧ W u false m ∧ W v false m := hw
    have a1 := ndT_E m3; have a2 := ndT_E m4
    simp only [m1, Nat.reduceEqDiff, if_true, if_false]
    refine (((P.doT (show (24 : Nat) ≠ 3 by decide)).doT (show (2 : Nat) ≠ 3 by decide)).doT (show (2 : Nat) ≠ 3 by decide)).iw ?_
    refine TkI.c2 he ⟨u, m, m3, hw.2.1, by rw [len1_c (show (2 : Nat) ≠ 3 by decide), len1_c (show (24 : Nat) ≠ 3 by decide), flT_c (show (2 : Nat) ≠ 3 by decide), flT_c (show (24 : Nat) ≠ 3 by decide)]; omega⟩ hf ?_
    refine TkI.c2 he ⟨v, m, m4, hw.2.2, by rw [len1_c (show (24 : Nat) ≠ 3 by decide), flT_c (show (24 : Nat) ≠ 3 by decide)]; omega⟩ (Nat.le_succ_of_le hf) ?_
    refine TkI.mk (h + 1) (show (24 : Nat) ≠ 3 by decide) (Nat.zero_le _) hlt (by omega) (show flT T + 2 ≤ h + 1 + 1 by omega) ?_ rfl hT
    show ((nd G n).N = 20 ∨ (11 ≤ (nd G n).N ∧ (nd G n).N ≤ 16) ∨ (1 ≤ (nd G n).N ∧ (nd G n).N ≤ 6))
    rw [m2]; exact hw.1
  · obtain ⟨m0, m1, m2, m3⟩ := IsE_un.1 hE
    have hz : ndT (Ex.un k u) = 1 + ndT u := rfl
    have hw : (1 ≤ k ∧ k ≤ 3) ∧ W u false m := hw
    have a1 := ndT_E m3
    simp only [m1, Nat.reduceEqDiff, if_true, if_false]
    refine ((P.doT (show (25 : Nat) ≠ 3 by decide)).doT (show (2 : Nat) ≠ 3 by decide)).iw ?_
    refine TkI.c2 he ⟨u, m, m3, hw.2, by rw [len1_c (show (25 : Nat) ≠ 3 by decide), flT_c (show (25 : Nat) ≠ 3 by decide)]; omega⟩ hf ?_
    refine TkI.mk (h + 1) (show (25 : Nat) ≠ 3 by decide) (Nat.zero_le _) hlt (by omega) (show flT T + 1 ≤ h + 1 by omega) ?_ rfl hT
    show 1 ≤ (nd G n).N ∧ (nd G n).N ≤ 3
    rw [m2]; exact hw.1
  · obtain ⟨m0, m1, m2, m3⟩ := IsE_land.1 hE
    have hz : ndT (Ex.land u v) = 1 + ndT u + ndT v := rfl
    have hw : W u false m ∧ W v false m := hw
    have a1 := ndT_E m2; have a2 := ndT_E m3
    simp only [m1, Nat.reduceEqDiff, if_true, if_false]
    refine ((P.doT (show (26 : Nat) ≠ 3 by decide)).doT (show (2 : Nat) ≠ 3 by decide)).iw ?_
    refine TkI.c2 he ⟨u, m, m2, hw.1, by rw [len1_c (show (26 : Nat) ≠ 3 by decide), flT_c (show (26 : Nat) ≠ 3 by decide)]; omega⟩ hf ?_
    exact TkI.mk (h + 1) (show (26 : Nat) ≠ 3 by decide) he hlt (by omega) (show flT T + 1 ≤ h + 1 by omega) (show EB G (nd G n).B T (h + 1 - 1) 1 from ⟨v, m, m3, hw.2, by omega⟩) rfl hT
  · obtain ⟨m0, m1, m2, m3⟩ := IsE_lor.1 hE
    have hz : ndT (Ex.lor u v) = 1 + ndT u + ndT v := rfl
    have hw : W u false m ∧ W v false m := hw
    have a1 := ndT_E m2; have a2 := ndT_E m3
    simp only [m1, Nat.reduceEqDiff, if_true, if_false]
    refine ((P.doT (show (27 : Nat) ≠ 3 by decide)).doT (show (2 : Nat) ≠ 3 by decide)).iw ?_
    refine TkI.c2 he ⟨u, m, m2, hw.1, by rw [len1_c (show (27 : Nat) ≠ 3 by decide), flT_c (show (27 : Nat) ≠ 3 by decide)]; omega⟩ hf ?_
    exact TkI.mk (h + 1) (show (27 : Nat) ≠ 3 by decide) he hlt (by omega) (show flT T + 1 ≤ h + 1 by omega) (show EB G (nd G n).B T (h + 1 - 1) 1 from ⟨v, m, m3, hw.2, by omega⟩) rfl hT

theorem LB.here {x' : Nat} (hx : x' ≤ h) : LB (⟨4, n, x', e⟩ :: r) h true := fun _ => ⟨_, _, rfl, hx⟩
theorem PW.stmt (hG : 0 < G.length) (P : PW G root s T h) (hT : TkI G s.envs.length T h) (he : e ≤ s.envs.length) (hn0 : n ≠ 0) (hS : SB G n T h 1) : IWd G root (istmt G n e s) := by
  have hf := hT.fl.1
  obtain ⟨ll, lp, m, hS, hw, hlb, hb⟩ := hS
  rcases hS.inv with rfl | ⟨st, l, rfl⟩
  · exact absurd (IsSL_nil.1 hS) hn0
  obtain ⟨-, hS, hN⟩ := IsSL_cons.1 hS
  have hlt := hS.lt
  have hz0 : ndT (StL.cons st l) = 0 + ndT st + ndT l := rfl
  have hw : W st lp m ∧ W l lp (aftN m st) := hw
  obtain ⟨hw, hwl⟩ := hw
  have hSB : SB G (nd G n).Nx T h (1 + 6 * ndT st) := ⟨l, lp, _, hN, hwl, hlb, by omega⟩
  have hS1 : SB G (nd G n).Nx T h 1 := hSB.le (Nat.le_refl _) (by omega)
  have P0 := P.doT (k := 1) (n := (nd G n).Nx) (x := 0) (e := e) (by decide)
  have T0 : TkI G s.envs.length (⟨1, (nd G n).Nx, 0, e⟩ :: T) h := TkI.c1 hG he hS1 hT
  have l1 : len1 ((⟨1, (nd G n).Nx, 0, e⟩ : Tk) :: T) = len1 T + 1 := len1_c (show (1 : Nat) ≠ 3 by decide)
  have f1 : flT ((⟨1, (nd G n).Nx, 0, e⟩ : Tk) :: T) = flT T := flT_c (show (1 : Nat) ≠ 3 by decide)
  have hlb1 : LB ((⟨1, (nd G n).Nx, 0, e⟩ : Tk) :: T) h lp := hlb.skip (show (1 : Nat) ≠ 3 by decide) (show (1 : Nat) ≠ 4 by decide) (Nat.le_refl _)
  unfold istmt
  rcases hS.inv with ⟨s1, rfl⟩ | ⟨s1, v, rfl⟩ | ⟨s1, s2, g, zs, rfl⟩ | ⟨s1, k, ps, bd, rfl⟩ | ⟨s1, v, rfl⟩ | ⟨u, k, v, rfl⟩ | ⟨g, zs, rfl⟩ | ⟨g, t, r, rfl⟩ | ⟨g, bd, rfl⟩ | ⟨s1, u, v, bd, rfl⟩ | ⟨s1, u, v, w, bd, rfl⟩ | ⟨s1, s2, u, bd, rfl⟩ | rfl | ⟨u, rfl⟩ | ⟨u, v, rfl⟩ | rfl
  · obtain ⟨m0, m1, m2, m3⟩ := IsS_loc.1 hS
    have hz : ndT (St.loc s1) = 1 := rfl
    simp only [m1, m3, if_true, ne_eq, not_true_eq_false, if_false]
    exact ((P.doT (show (6 : Nat) ≠ 3 by decide)).push _).iw (TkI.mk h (show (6 : Nat) ≠ 3 by decide) he hlt (by omega) (show flT T + 1 ≤ h + 1 by omega) hS1 rfl hT)
  · obtain ⟨m0, m1, m2, m3⟩ := IsS_locV.1 hS
    have hz : ndT (St.locV s1 v) = 1 + ndT v := rfl
    have hw : NmW s1 ∧ m + 1 ≤ 12 ∧ dE v ≤ 128 ∧ W v false m := hw
    simp only [m1, if_true, ne_eq, m3.ne, not_false_eq_true]
    refine ((P.doT (show (6 : Nat) ≠ 3 by decide)).doT (show (2 : Nat) ≠ 3 by decide)).iw ?_
    refine TkI.c2 he ⟨v, m, m3, hw.2.2.2, by rw [len1_c (show (6 : Nat) ≠ 3 by decide), flT_c (show (6 : Nat) ≠ 3 by decide)]; omega⟩ hf ?_
    exact TkI.mk h (show (6 : Nat) ≠ 3 by decide) he hlt (by omega) (show flT T + 1 ≤ h + 1 by omega) hS1 rfl hT
  · obtain ⟨m0, m1, m2, m3, m4, m5, m6⟩ := IsS_loc2.1 hS
    have hz : ndT (St.loc2 s1 s2 g zs) = 4 + ndT g + ndT zs := rfl
    have hw : NmW s1 ∧ NmW s2 ∧ m + 2 ≤ 12 ∧ CallW g zs ∧ W g false m ∧ W zs false m := hw
    simp only [m1, Nat.reduceEqDiff, if_true, if_false]
    refine PW.call hG (P.doT (show (7 : Nat) ≠ 3 by decide)) ?_ hf he (Nd.lt (by omega)) m5 hw.2.2.2.2.1 m6 hw.2.2.2.2.2 (by rw [len1_c (show (7 : Nat) ≠ 3 by decide), flT_c (show (7 : Nat) ≠ 3 by decide)]; omega)
    exact TkI.mk h (show (7 : Nat) ≠ 3 by decide) he hlt (by omega) (show flT T + 2 ≤ h + 2 by omega) ⟨⟨s1, s2, m2⟩, hS1⟩ rfl hT
  · obtain ⟨m0, m1, m2, m3, m4, m5, m6, m7⟩ := IsS_locFn.1 hS
    have hz : ndT (St.locFn s1 k ps bd) = 2 + ps.length + ndT bd := rfl
    have hz2 : ndT (Ex.func k ps bd) = 1 + ps.length + ndT bd := rfl
    have hw : NmW s1 ∧ m + 1 ≤ 12 ∧ FnW k ps ∧ W bd false ps.length := hw
    simp only [m1, Nat.reduceEqDiff, if_true, if_false]
    refine (((P.new _ _ he).doT (show (8 : Nat) ≠ 3 by decide)).doT (show (2 : Nat) ≠ 3 by decide)).iw ?_
    show TkI G (inew (nd G n).S vNil e s).envs.length _ _
    have hlast : (inew (nd G n).S vNil e s).last = s.envs.length + 1 := new_len _ _ _
    rw [new_len, hlast]
    refine TkI.c2 (Nat.le_refl _) ⟨Ex.func k ps bd, m, IsE_func.2 ⟨m3, m4, m5, m6, m7⟩, ⟨hw.2.2.1, hw.2.2.2⟩, by rw [len1_c (show (8 : Nat) ≠ 3 by decide), flT_c (show (8 : Nat) ≠ 3 by decide)]; omega⟩ hf ?_
    exact TkI.mk h (show (8 : Nat) ≠ 3 by decide) (Nat.le_refl _) hlt (by omega) (show flT T + 1 ≤ h + 1 by omega) ⟨Nat.succ_ne_zero _, hS1⟩ rfl (hT.mono (Nat.le_succ _))
  · obtain ⟨m0, m1, m2, m3, m4, m5⟩ := IsS_setN.1 hS
    have hz : ndT (St.setN s1 v) = 2 + ndT v := rfl
    have hw : NmW s1 ∧ dE v ≤ 128 ∧ W v false m := hw
    simp only [m1, m3, Nat.reduceEqDiff, if_true, if_false]
    refine ((P0.doT (show (9 : Nat) ≠ 3 by decide)).doT (show (2 : Nat) ≠ 3 by decide)).iw ?_
    refine TkI.c2 he ⟨v, m, m5, hw.2.2, by rw [len1_c (show (9 : Nat) ≠ 3 by decide), flT_c (show (9 : Nat) ≠ 3 by decide), l1, f1]; omega⟩ hf ?_
    exact TkI.mk h (show (9 : Nat) ≠ 3 by decide) he (Nd.lt (by show (nd G (nd G n).A).K ≠ 0; omega)) (by rw [l1, f1]; omega) (show flT T + 1 ≤ h + 1 by omega) trivial rfl T0
  · obtain ⟨m0, m1, m2, m3, m4, m5, m6⟩ := IsS_setI.1 hS
    have hz : ndT (St.setI u k v) = 2 + ndT u + ndT k + ndT v := rfl
    have hw : dE u ≤ 128 ∧ 1 + dE k ≤ 128 ∧ 2 + dE v ≤ 128 ∧ W u false m ∧ W k false m ∧ W v false m := hw
    have a1 := ndT_E m4; have a2 := ndT_E m5; have a3 := ndT_E m6
    simp only [m1, m3, Nat.reduceEqDiff, if_true, if_false]
    refine ((((P0.doT (show (10 : Nat) ≠ 3 by decide)).doT (show (2 : Nat) ≠ 3 by decide)).doT (show (2 : Nat) ≠ 3 by decide)).doT (show (2 : Nat) ≠ 3 by decide)).iw ?_
    refine TkI.c2 he ⟨u, m, m4, hw.2.2.2.1, ?_⟩ hf (TkI.c2 he ⟨k, m, m5, hw.2.2.2.2.1, ?_⟩ (Nat.le_succ_of_le hf) (TkI.c2 he ⟨v, m, m6, hw.2.2.2.2.2, ?_⟩ (Nat.le_succ_of_le (Nat.le_succ_of_le hf)) ?_))
    · show _ + (len1 T + 1 + 1 + 1 + 1) + _ ≤ _ + flT T; omega
    · show _ + (len1 T + 1 + 1 + 1) + _ ≤ _ + flT T; omega
    · show _ + (len1 T + 1 + 1) + _ ≤ _ + flT T; omega
    · exact TkI.mk h (show (10 : Nat) ≠ 3 by decide) he hG (by rw [l1, f1]; omega) (show flT T + 3 ≤ h + 1 + 1 + 1 by omega) trivial rfl T0
  · obtain ⟨m0, m1, m2, m3, m4, m5⟩ := IsS_call.1 hS
    have hz : ndT (St.call g zs) = 2 + ndT g + ndT zs := rfl
    have hz2 : ndT (Ex.call g zs) = 1 + ndT g + ndT zs := rfl
    have hw : CallW g zs ∧ W g false m ∧ W zs false m := hw
    simp only [m1, Nat.reduceEqDiff, if_true, if_false]
    refine ((P0.doT (show (5 : Nat) ≠ 3 by decide)).doT (show (2 : Nat) ≠ 3 by decide)).iw ?_
    refine TkI.c2 he ⟨Ex.call g zs, m, IsE_call.2 ⟨m2, m3, m4, m5⟩, ⟨hw.1.2, hw.2.1, hw.2.2⟩, ?_⟩ hf ?_
    · show _ + (len1 T + 1 + 1) + _ ≤ _ + flT T; omega
    · exact TkI.mk h (show (5 : Nat) ≠ 3 by decide) (Nat.zero_le _) hG (by rw [l1, f1]; omega) (show flT T + 1 ≤ h + 1 by omega) trivial rfl T0
  · obtain ⟨m0, m1, m2, m3, m4⟩ := IsS_iff.1 hS
    have hz : ndT (St.iff g t r) = 1 + ndT g + ndT t + ndT r := rfl
    have hw : dE g ≤ 128 ∧ W g false m ∧ W t lp m ∧ W r lp m := hw
    have a1 := ndT_E m2
    simp only [m1, Nat.reduceEqDiff, if_true, if_false]
    refine ((P0.doT (show (11 : Nat) ≠ 3 by decide)).doT (show (2 : Nat) ≠ 3 by decide)).iw ?_
    refine TkI.c2 he ⟨g, m, m2, hw.2.1, ?_⟩ hf ?_
    · show _ + (len1 T + 1 + 1) + _ ≤ _ + flT T; omega
    · exact TkI.mk h (show (11 : Nat) ≠ 3 by decide) he hlt (by rw [l1, f1]; omega) (show flT T + 1 ≤ h + 1 by omega) ⟨⟨t, lp, m, m3, hw.2.2.1, hlb1, by rw [l1, f1]; omega⟩, ⟨r, lp, m, m4, hw.2.2.2, hlb1, by rw [l1, f1]; omega⟩⟩ rfl T0
  · obtain ⟨m0, m1, m2, m3⟩ := IsS_whl.1 hS
    have hz : ndT (St.whl g bd) = 1 + ndT g + ndT bd := rfl
    have hw : dE g ≤ 128 ∧ W g false m ∧ W bd true m := hw
    have a1 := ndT_E m2
    have hv0 : (ido 1 (nd G n).Nx 0 e s).th.vals.length = h := P0.v
    simp only [m1, Nat.reduceEqDiff, if_true, if_false, hv0]
    refine ((P0.doT (show (4 : Nat) ≠ 3 by decide)).doT (show (12 : Nat) ≠ 3 by decide)).iw ?_
    have T1 : TkI G s.envs.length (⟨4, 0, h, 0⟩ :: ⟨1, (nd G n).Nx, 0, e⟩ :: T) h := TkI.mk h (show (4 : Nat) ≠ 3 by decide) (Nat.zero_le _) hG (by rw [l1, f1]; omega) hf (show h = h from rfl) rfl T0
    refine TkI.mk h (show (12 : Nat) ≠ 3 by decide) he hlt ?_ hf ⟨⟨g, m, m2, hw.2.1, ?_⟩, ⟨bd, true, m, m3, hw.2.2, LB.here (Nat.le_refl _), ?_⟩⟩ rfl T1
    · show (len1 T + 1 + 1) + _ + _ ≤ _ + flT T; omega
    · show _ + (len1 T + 1 + 1) + _ ≤ _ + flT T; omega
    · show _ + (len1 T + 1 + 1) + _ ≤ _ + flT T; omega
  · obtain ⟨m0, m1, m2, m3, m4, m5, m6, m7, m8⟩ := IsS_for2.1 hS
    have hz : ndT (St.for2 s1 u v bd) = 1 + ndT u + ndT v + ndT bd := rfl
    have hw : NmW s1 ∧ m + 4 ≤ 12 ∧ dE u ≤ 128 ∧ dE v ≤ 128 ∧ W u false m ∧ W v false (m + 1) ∧ W bd true (m + 4) := hw
    have a1 := ndT_E m4; have a2 := ndT_E m6
    have hv0 : (ido 1 (nd G n).Nx 0 e s).th.vals.length = h := P0.v
    simp only [m1, m7, Nat.reduceEqDiff, if_true, if_false, hv0, ne_eq, not_true_eq_false]
    refine (((((P0.doT (show (4 : Nat) ≠ 3 by decide)).doT (show (15 : Nat) ≠ 3 by decide)).doT (show (2 : Nat) ≠ 3 by decide)).doT (show (2 : Nat) ≠ 3 by decide)).doT (show (2 : Nat) ≠ 3 by decide)).iw ?_
    have T1 : TkI G s.envs.length (⟨4, 0, h, 0⟩ :: ⟨1, (nd G n).Nx, 0, e⟩ :: T) h := TkI.mk h (show (4 : Nat) ≠ 3 by decide) (Nat.zero_le _) hG (by rw [l1, f1]; omega) hf (show h = h from rfl) rfl T0
    refine TkI.c2 he ⟨u, m, m4, hw.2.2.2.2.1, ?_⟩ hf (TkI.c2 he ⟨v, m + 1, m6, hw.2.2.2.2.2.1, ?_⟩ (Nat.le_succ_of_le hf) (TkI.c20 hG he ?_ (Nat.le_succ_of_le (Nat.le_succ_of_le hf)) ?_))
    · show _ + (len1 T + 1 + 1 + 1 + 1 + 1) + _ ≤ _ + flT T; omega
    · show _ + (len1 T + 1 + 1 + 1 + 1) + _ ≤ _ + flT T; omega
    · show (len1 T + 1 + 1 + 1) + _ + _ ≤ _ + flT T; omega
    · refine TkI.mk h (show (15 : Nat) ≠ 3 by decide) he hlt ?_ (show flT T + 3 ≤ h + 1 + 1 + 1 by omega) ⟨bd, true, m + 4, m8, hw.2.2.2.2.2.2, LB.here (by omega), ?_⟩ rfl T1
      · show (len1 T + 1 + 1) + _ + _ ≤ _ + flT T; omega
      · show _ + (len1 T + 1 + 1) + _ ≤ _ + flT T; omega
  · obtain ⟨m0, m1, m2, m3, m4, m5, m6, m7, m8, m9, ma⟩ := IsS_for3.1 hS
    have hz : ndT (St.for3 s1 u v w bd) = 1 + ndT u + ndT v + ndT w + ndT bd := rfl
    have hw : NmW s1 ∧ m + 4 ≤ 12 ∧ dE u ≤ 128 ∧ dE v ≤ 128 ∧ dE w ≤ 128 ∧ W u false m ∧ W v false (m + 1) ∧ W w false (m + 2) ∧ W bd true (m + 4) := hw
    have a1 := ndT_E m4; have a2 := ndT_E m6; have a3 := ndT_E m8
    have hv0 : (ido 1 (nd G n).Nx 0 e s).th.vals.length = h := P0.v
    simp only [m1, Nat.reduceEqDiff, if_true, if_false, hv0, ne_eq, m7, not_false_eq_true]
    refine (((((P0.doT (show (4 : Nat) ≠ 3 by decide)).doT (show (15 : Nat) ≠ 3 by decide)).doT (show (2 : Nat) ≠ 3 by decide)).doT (show (2 : Nat) ≠ 3 by decide)).doT (show (2 : Nat) ≠ 3 by decide)).iw ?_
    have T1 : TkI G s.envs.length (⟨4, 0, h, 0⟩ :: ⟨1, (nd G n).Nx, 0, e⟩ :: T) h := TkI.mk h (show (4 : Nat) ≠ 3 by decide) (Nat.zero_le _) hG (by rw [l1, f1]; omega) hf (show h = h from rfl) rfl T0
    refine TkI.c2 he ⟨u, m, m4, hw.2.2.2.2.2.1, ?_⟩ hf (TkI.c2 he ⟨v, m + 1, m6, hw.2.2.2.2.2.2.1, ?_⟩ (Nat.le_succ_of_le hf) (TkI.c2 he ⟨w, m + 2, m8, hw.2.2.2.2.2.2.2.1, ?_⟩ (Nat.le_succ_of_le (Nat.le_succ_of_le hf)) ?_))
    · show _ + (len1 T + 1 + 1 + 1 + 1 + 1) + _ ≤ _ + flT T; omega
    · show _ + (len1 T + 1 + 1 + 1 + 1) + _ ≤ _ + flT T; omega
    · show _ + (len1 T + 1 + 1 + 1) + _ ≤ _ + flT T; omega
    · refine TkI.mk h (show (15 : Nat) ≠ 3 by decide) he hlt ?_ (show flT T + 3 ≤ h + 1 + 1 + 1 by omega) ⟨bd, true, m + 4, ma, hw.2.2.2.2.2.2.2.2, LB.here (by omega), ?_⟩ rfl T1
      · show (len1 T + 1 + 1) + _ + _ ≤ _ + flT T; omega
      · show _ + (len1 T + 1 + 1) + _ ≤ _ + flT T; omega
  · obtain ⟨m0, m1, m2, m3, m4⟩ := IsS_forIn.1 hS
    have hz : ndT (St.forIn s1 s2 u bd) = 3 + ndT u + ndT bd := rfl
    have hw : NmW s1 ∧ NmW s2 ∧ m + 4 ≤ 12 ∧ dE u ≤ 128 ∧ W u false m ∧ W bd true (m + 4) := hw
    have a1 := ndT_E m3
    have hv0 : (ido 1 (nd G n).Nx 0 e s).th.vals.length = h := P0.v
    simp only [m1, Nat.reduceEqDiff, if_true, if_false, hv0]
    refine (((P0.doT (show (4 : Nat) ≠ 3 by decide)).doT (show (18 : Nat) ≠ 3 by decide)).doT (show (2 : Nat) ≠ 3 by decide)).iw ?_
    have T1 : TkI G s.envs.length (⟨4, 0, h, 0⟩ :: ⟨1, (nd G n).Nx, 0, e⟩ :: T) h := TkI.mk h (show (4 : Nat) ≠ 3 by decide) (Nat.zero_le _) hG (by rw [l1, f1]; omega) hf (show h = h from rfl) rfl T0
    refine TkI.c2 he ⟨u, m, m3, hw.2.2.2.2.1, ?_⟩ hf ?_
    · show _ + (len1 T + 1 + 1 + 1) + _ ≤ _ + flT T; omega
    · refine TkI.mk h (show (18 : Nat) ≠ 3 by decide) he hlt ?_ (show flT T + 1 ≤ h + 1 by omega) ⟨⟨s1, s2, m2⟩, ⟨bd, true, m + 4, m4, hw.2.2.2.2.2, LB.here (by omega), ?_⟩⟩ rfl T1
      · show (len1 T + 1 + 1) + _ + _ ≤ _ + flT T; omega
      · show _ + (len1 T + 1 + 1) + _ ≤ _ + flT T; omega
  · obtain ⟨m0, m1, m2, m3⟩ := IsS_ret0.1 hS
    have hz : ndT St.ret0 = 1 := rfl
    simp only [m1, m2, m3, Nat.reduceEqDiff, if_true, if_false]
    refine (((P0.doT (show (21 : Nat) ≠ 3 by decide)).doT (show (2 : Nat) ≠ 3 by decide)).doT (show (2 : Nat) ≠ 3 by decide)).iw ?_
    refine TkI.c20 hG he ?_ hf (TkI.c20 hG he ?_ (Nat.le_succ_of_le hf) ?_)
    · show (len1 T + 1 + 1 + 1) + _ + _ ≤ _ + flT T; omega
    · show (len1 T + 1 + 1) + _ + _ ≤ _ + flT T; omega
    · exact TkI.mk h (show (21 : Nat) ≠ 3 by decide) (Nat.zero_le _) hG (by rw [l1, f1]; omega) (show flT T + 2 ≤ h + 1 + 1 by omega) trivial rfl T0
  · obtain ⟨m0, m1, m2, m3⟩ := IsS_ret1.1 hS
    have hz : ndT (St.ret1 u) = 1 + ndT u := rfl
    have hw : dE u ≤ 127 ∧ W u false m := hw
    have a1 := ndT_E m2
    simp only [m1, m3, Nat.reduceEqDiff, if_true, if_false]
    refine (((P0.doT (show (21 : Nat) ≠ 3 by decide)).doT (show (2 : Nat) ≠ 3 by decide)).doT (show (2 : Nat) ≠ 3 by decide)).iw ?_
    refine TkI.c2 he ⟨u, m, m2, hw.2, ?_⟩ hf (TkI.c20 hG he ?_ (Nat.le_succ_of_le hf) ?_)
    · show _ + (len1 T + 1 + 1 + 1) + _ ≤ _ + flT T; omega
    · show (len1 T + 1 + 1) + _ + _ ≤ _ + flT T; omega
    · exact TkI.mk h (show (21 : Nat) ≠ 3 by decide) (Nat.zero_le _) hG (by rw [l1, f1]; omega) (show flT T + 2 ≤ h + 1 + 1 by omega) trivial rfl T0
  · obtain ⟨m0, m1, m2, m3⟩ := IsS_ret2.1 hS
    have hz : ndT (St.ret2 u v) = 1 + ndT u + ndT v := rfl
    have hw : dE u ≤ 128 ∧ 1 + dE v ≤ 128 ∧ W u false m ∧ W v false m := hw
    have a1 := ndT_E m2; have a2 := ndT_E m3
    simp only [m1, Nat.reduceEqDiff, if_true, if_false]
    refine (((P0.doT (show (21 : Nat) ≠ 3 by decide)).doT (show (2 : Nat) ≠ 3 by decide)).doT (show (2 : Nat) ≠ 3 by decide)).iw ?_
    refine TkI.c2 he ⟨u, m, m2, hw.2.2.1, ?_⟩ hf (TkI.c2 he ⟨v, m, m3, hw.2.2.2, ?_⟩ (Nat.le_succ_of_le hf) ?_)
    · show _ + (len1 T + 1 + 1 + 1) + _ ≤ _ + flT T; omega
    · show _ + (len1 T + 1 + 1) + _ ≤ _ + flT T; omega
    · exact TkI.mk h (show (21 : Nat) ≠ 3 by decide) (Nat.zero_le _) hG (by rw [l1, f1]; omega) (show flT T + 2 ≤ h + 1 + 1 by omega) trivial rfl T0
  · obtain ⟨m0, m1⟩ := IsS_brk.1 hS
    have hz : ndT St.brk = 1 := rfl
    have hw : lp = true := hw
    simp only [m1, Nat.reduceEqDiff, if_true, if_false]
    obtain ⟨u, r', q1, q2⟩ := hlb1 hw
    obtain ⟨q3, q4, q5⟩ := brk1_ti T0 q1
    rw [P0.t, q4]
    simp only
    have hl : (cutTo u.x (ido 1 (nd G n).Nx 0 e s).th.vals).length = u.x := cut_len (by rw [P0.v]; omega)
    have h8 := P0.d8
    exact (P0.setT (y := { (ido 1 (nd G n).Nx 0 e s).th with tasks := r', vals := cutTo u.x (ido 1 (nd G n).Nx 0 e s).th.vals }) (T' := r') (h' := u.x) rfl hl (by rw [q5]; exact P0.d) (by omega) P0.st).iw q3
end

end Go.Proofs.Qxb6500568aGreatDoor
