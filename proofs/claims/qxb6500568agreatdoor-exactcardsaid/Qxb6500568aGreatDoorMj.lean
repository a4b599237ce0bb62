import Derived.Test.Qxb6500568aGreatDoorMi
namespace Go.Proofs.Qxb6500568aGreatDoor
open Ieee
set_option linter.unusedVariables false
set_option linter.unusedSimpArgs false
set_option linter.unusedSectionVars false

/-! The weight of a step. -/

section
variable {G : Arena} {root : Nat} {s : IS} {b c n x e : Nat}

theorem szT_pos : ∀ (t : Tr), 1 ≤ szT t
  | ⟨_, _, _, _, _, []⟩ => Nat.le_refl 1
  | ⟨_, _, _, _, _, [a]⟩ => by show 1 ≤ 1 + szT a; omega
  | ⟨_, _, _, _, _, [a, b]⟩ => by show 1 ≤ 1 + szT a + szT b; omega
  | ⟨_, _, _, _, _, [a, b, d]⟩ => by show 1 ≤ 1 + szT a + szT b + szT d; omega
  | ⟨_, _, _, _, _, [a, b, d, e]⟩ => by show 1 ≤ 1 + szT a + szT b + szT d + szT e; omega
  | ⟨_, _, _, _, _, _ :: _ :: _ :: _ :: _ :: _⟩ => Nat.le_refl 1

theorem tw1 {l : StL} (h : IsSL G n l) : TW G ⟨1, n, x, e⟩ (8 * szT l) := show ∃ l', IsSL G n l' ∧ 8 * szT l = 8 * szT l' from ⟨l, h, rfl⟩
theorem tw2 {l : Ex} (h : IsE G n l) : TW G ⟨2, n, x, e⟩ (8 * szT l) := show (n = 0 ∧ 8 * szT l = 1) ∨ ∃ l', IsE G n l' ∧ 8 * szT l = 8 * szT l' from .inr ⟨l, h, rfl⟩
theorem tw20 : TW G ⟨2, 0, x, e⟩ 1 := show ((0 : Nat) = 0 ∧ 1 = 1) ∨ ∃ l', IsE G 0 l' ∧ 1 = 8 * szT l' from .inl ⟨rfl, rfl⟩
theorem tw6 {k : Nat} (hk : k = 6 ∨ k = 7 ∨ k = 8) {l : StL} (h : IsSL G (nd G n).Nx l) : TW G ⟨k, n, x, e⟩ (1 + 8 * szT l) := by
  rcases hk with rfl | rfl | rfl <;> exact (show ∃ l', IsSL G (nd G n).Nx l' ∧ 1 + 8 * szT l = 1 + 8 * szT l' from ⟨l, h, rfl⟩)
theorem tw11 {l r : StL} (h : IsSL G (nd G n).B l) (h2 : IsSL G (nd G n).C r) : TW G ⟨11, n, x, e⟩ (1 + 8 * szT l + 8 * szT r) := show ∃ l' r', IsSL G (nd G n).B l' ∧ IsSL G (nd G n).C r' ∧ 1 + 8 * szT l + 8 * szT r = 1 + 8 * szT l' + 8 * szT r' from ⟨l, r, h, h2, rfl⟩
theorem tw12 {l : Ex} {r : StL} (h : IsE G (nd G n).A l) (h2 : IsSL G (nd G n).B r) : TW G ⟨12, n, x, e⟩ (3 + 8 * szT l + 8 * szT r) := show ∃ l' r', IsE G (nd G n).A l' ∧ IsSL G (nd G n).B r' ∧ 3 + 8 * szT l + 8 * szT r = 3 + 8 * szT l' + 8 * szT r' from ⟨l, r, h, h2, rfl⟩
theorem tw13 {l : StL} (h : IsSL G (nd G n).B l) : TW G ⟨13, n, x, e⟩ (2 + 8 * szT l) := show ∃ l', IsSL G (nd G n).B l' ∧ 2 + 8 * szT l = 2 + 8 * szT l' from ⟨l, h, rfl⟩
theorem tw15 {l : StL} (h : IsSL G (nd G n).B l) : TW G ⟨15, n, x, e⟩ (3 + 8 * szT l) := show ∃ l', IsSL G (nd G n).B l' ∧ 3 + 8 * szT l = 3 + 8 * szT l' from ⟨l, h, rfl⟩
theorem tw16 {l : StL} (h : IsSL G (nd G n).B l) : TW G ⟨16, n, x, e⟩ (2 + 8 * szT l) := show ∃ l', IsSL G (nd G n).B l' ∧ 2 + 8 * szT l = 2 + 8 * szT l' from ⟨l, h, rfl⟩
theorem tw18 {l : StL} (h : IsSL G (nd G n).C l) : TW G ⟨18, n, x, e⟩ (3 + 8 * szT l) := show ∃ l', IsSL G (nd G n).C l' ∧ 3 + 8 * szT l = 3 + 8 * szT l' from ⟨l, h, rfl⟩
theorem tw19 {l : StL} (h : IsSL G (nd G n).C l) : TW G ⟨19, n, x, e⟩ (2 + 8 * szT l) := show ∃ l', IsSL G (nd G n).C l' ∧ 2 + 8 * szT l = 2 + 8 * szT l' from ⟨l, h, rfl⟩
theorem tw23 {l : ExL} (h : IsEL G (nd G n).Nx l) : TW G ⟨23, n, x, e⟩ (1 + 8 * szT l) := show ∃ l', IsEL G (nd G n).Nx l' ∧ 1 + 8 * szT l = 1 + 8 * szT l' from ⟨l, h, rfl⟩
theorem tw26 {l : Ex} (h : IsE G (nd G n).B l) : TW G ⟨26, n, x, e⟩ (1 + 8 * szT l) := show ∃ l', IsE G (nd G n).B l' ∧ 1 + 8 * szT l = 1 + 8 * szT l' from ⟨l, h, rfl⟩
theorem tw27 {l : Ex} (h : IsE G (nd G n).B l) : TW G ⟨27, n, x, e⟩ (1 + 8 * szT l) := show ∃ l', IsE G (nd G n).B l' ∧ 1 + 8 * szT l = 1 + 8 * szT l' from ⟨l, h, rfl⟩
theorem twO {k : Nat} (hk : k = 3 ∨ k = 4 ∨ k = 5 ∨ k = 9 ∨ k = 10 ∨ k = 14 ∨ k = 17 ∨ k = 20 ∨ k = 21 ∨ k = 22 ∨ k = 24 ∨ k = 25 ∨ k = 28) : TW G ⟨k, n, x, e⟩ 1 := by
  rcases hk with rfl | rfl | rfl | rfl | rfl | rfl | rfl | rfl | rfl | rfl | rfl | rfl | rfl <;> exact (show 1 = 1 from rfl)

theorem args_W : ∀ {k : Nat} {zs : ExL} {n e : Nat}, IsEL G n zs → ∃ w, w + 8 ≤ 8 * szT zs ∧ TsW G ((iargs G k n).map fun a => (⟨2, a, 0, e⟩ : Tk)) w
  | 0, zs, n, e, h => ⟨0, by have := szT_pos zs; omega, rfl⟩
  | k + 1, zs, n, e, h => by
    rcases h.inv with rfl | ⟨ex, l, rfl⟩
    · have h := IsEL_nil.1 h; subst h; exact ⟨0, by decide, rfl⟩
    · have h := IsEL_cons.1 h
      obtain ⟨w, h1, h2⟩ := args_W (k := k) (e := e) h.2.2
      simp only [iargs, if_neg h.1, List.map_cons]
      exact ⟨8 * szT ex + w, by show _ ≤ 8 * (1 + szT ex + szT l); omega, 8 * szT ex, w, tw2 h.2.1, h2, rfl⟩
theorem Wgt.foldr (h : Wgt G s b) {e : Nat} : ∀ {l : List Nat} {w : Nat}, TsW G (l.map fun a => (⟨2, a, 0, e⟩ : Tk)) w → Wgt G (l.foldr (fun a s => ido 2 a 0 e s) s) (b + w)
  | [], w, hw => by have hw : w = 0 := hw; subst hw; exact h
  | a :: l, w, ⟨u, v, h1, h2, h3⟩ => by
    have := (Wgt.foldr h h2).doT h1
    rw [h3, show b + (u + v) = b + v + u by omega]; exact this
theorem Wgt.call (h : Wgt G s b) {q e : Nat} {g : Ex} {zs : ExL} (h1 : IsE G (nd G q).A g) (h2 : IsEL G (nd G q).B zs) : ∃ c, c ≤ 8 * szT g + 8 * szT zs ∧ Wgt G (icall G q e s) (b + c) := by
  obtain ⟨w, k1, k2⟩ := args_W (k := 3) (e := e) h2
  have h3 := (((h.doT (k := 22) (n := q) (x := (iargs G 3 (nd G q).B).length) (e := e) (twO (by simp))).foldr k2).doT (x := 0) (e := e) (tw2 h1))
  refine ⟨1 + w + 8 * szT g, by omega, ?_⟩
  rw [show b + (1 + w + 8 * szT g) = b + 1 + w + 8 * szT g by omega]
  exact h3

/-- a statement. -/
theorem Wgt.stmt (h : Wgt G s b) {n e : Nat} {st : St} {l : StL} (hS : IsS G n st) (hN : IsSL G (nd G n).Nx l) {f m : Nat} (hm : b + 8 * (1 + szT st + szT l) ≤ m) : Dn G f m (istmt G n e s) := by
  have h0 := h.doT (x := 0) (e := e) (tw1 hN)
  rcases hS.inv with ⟨s1, rfl⟩ | ⟨s1, v, rfl⟩ | ⟨s1, s2, g, zs, rfl⟩ | ⟨s1, k, ps, bd, rfl⟩ | ⟨s1, v, rfl⟩ | ⟨u, k, v, rfl⟩ | ⟨g, zs, rfl⟩ | ⟨g, t, r, rfl⟩ | ⟨g, bd, rfl⟩ | ⟨s1, u, v, bd, rfl⟩ | ⟨s1, u, v, w, bd, rfl⟩ | ⟨s1, s2, u, bd, rfl⟩ | rfl | ⟨u, rfl⟩ | ⟨u, v, rfl⟩ | rfl
  · obtain ⟨m0, m1, m2, m3⟩ := IsS_loc.1 hS
    have hz : szT (St.loc s1) = 1 := rfl
    unfold istmt
    simp only [m1, m3, if_true, ne_eq, not_true_eq_false, if_false]
    exact ((h.doT (tw6 (.inl rfl) hN)).push _).dn (by omega)
  · obtain ⟨m0, m1, m2, m3⟩ := IsS_locV.1 hS
    have hz : szT (St.locV s1 v) = 1 + szT v := rfl
    unfold istmt
    simp only [m1, if_true, ne_eq, m3.ne, not_false_eq_true]
    exact ((h.doT (tw6 (.inl rfl) hN)).doT (tw2 m3)).dn (by omega)
  · obtain ⟨m0, m1, m2, m3, m4, m5, m6⟩ := IsS_loc2.1 hS
    have hz : szT (St.loc2 s1 s2 g zs) = 1 + szT g + szT zs := rfl
    unfold istmt
    simp only [m1, Nat.reduceEqDiff, if_true, if_false]
    obtain ⟨c, k1, k2⟩ := (h.doT (x := 0) (e := e) (tw6 (.inr (.inl rfl)) hN)).call (e := e) m5 m6
    exact k2.dn (by omega)
  · obtain ⟨m0, m1, m2, m3, m4, m5, m6, m7⟩ := IsS_locFn.1 hS
    have hz : szT (St.locFn s1 k ps bd) = 1 + szT bd := rfl
    have hz2 : szT (Ex.func k ps bd) = 1 + szT bd := rfl
    unfold istmt
    simp only [m1, Nat.reduceEqDiff, if_true, if_false]
    exact (((h.new _ _ _).doT (tw6 (.inr (.inr rfl)) hN)).doT (tw2 (IsE_func.2 ⟨m3, m4, m5, m6, m7⟩))).dn (by omega)
  · obtain ⟨m0, m1, m2, m3, m4, m5⟩ := IsS_setN.1 hS
    have hz : szT (St.setN s1 v) = 1 + szT v := rfl
    unfold istmt
    simp only [m1, m3, Nat.reduceEqDiff, if_true, if_false]
    exact ((h0.doT (twO (by simp))).doT (tw2 m5)).dn (by omega)
  · obtain ⟨m0, m1, m2, m3, m4, m5, m6⟩ := IsS_setI.1 hS
    have hz : szT (St.setI u k v) = 1 + szT u + szT k + szT v := rfl
    unfold istmt
    simp only [m1, m3, Nat.reduceEqDiff, if_true, if_false]
    exact ((((h0.doT (twO (by simp))).doT (tw2 m6)).doT (tw2 m5)).doT (tw2 m4)).dn (by omega)
  · obtain ⟨m0, m1, m2, m3, m4, m5⟩ := IsS_call.1 hS
    have hz : szT (St.call g zs) = 1 + szT g + szT zs := rfl
    have hz2 : szT (Ex.call g zs) = 1 + szT g + szT zs := rfl
    unfold istmt
    simp only [m1, Nat.reduceEqDiff, if_true, if_false]
    exact ((h0.doT (twO (by simp))).doT (tw2 (IsE_call.2 ⟨m2, m3, m4, m5⟩))).dn (by omega)
  · obtain ⟨m0, m1, m2, m3, m4⟩ := IsS_iff.1 hS
    have hz : szT (St.iff g t r) = 1 + szT g + szT t + szT r := rfl
    unfold istmt
    simp only [m1, Nat.reduceEqDiff, if_true, if_false]
    exact ((h0.doT (tw11 m3 m4)).doT (tw2 m2)).dn (by omega)
  · obtain ⟨m0, m1, m2, m3⟩ := IsS_whl.1 hS
    have hz : szT (St.whl g bd) = 1 + szT g + szT bd := rfl
    unfold istmt
    simp only [m1, Nat.reduceEqDiff, if_true, if_false]
    exact ((h0.doT (twO (by simp))).doT (tw12 m2 m3)).dn (by omega)
  · obtain ⟨m0, m1, m2, m3, m4, m5, m6, m7, m8⟩ := IsS_for2.1 hS
    have hz : szT (St.for2 s1 u v bd) = 1 + szT u + szT v + szT bd := rfl
    unfold istmt
    simp only [m1, m7, Nat.reduceEqDiff, if_true, if_false]
    exact (((((h0.doT (twO (by simp))).doT (tw15 m8)).doT tw20).doT (tw2 m6)).doT (tw2 m4)).dn (by omega)
  · obtain ⟨m0, m1, m2, m3, m4, m5, m6, m7, m8, m9, ma⟩ := IsS_for3.1 hS
    have hz : szT (St.for3 s1 u v w bd) = 1 + szT u + szT v + szT w + szT bd := rfl
    unfold istmt
    simp only [m1, Nat.reduceEqDiff, if_true, if_false]
    exact (((((h0.doT (twO (by simp))).doT (tw15 ma)).doT (tw2 m8)).doT (tw2 m6)).doT (tw2 m4)).dn (by omega)
  · obtain ⟨m0, m1, m2, m3, m4⟩ := IsS_forIn.1 hS
    have hz : szT (St.forIn s1 s2 u bd) = 1 + szT u + szT bd := rfl
    unfold istmt
    simp only [m1, Nat.reduceEqDiff, if_true, if_false]
    exact (((h0.doT (twO (by simp))).doT (tw18 m4)).doT (tw2 m3)).dn (by omega)
  · obtain ⟨m0, m1, m2, m3⟩ := IsS_ret0.1 hS
    have hz : szT St.ret0 = 1 := rfl
    unfold istmt
    simp only [m1, m2, m3, Nat.reduceEqDiff, if_true, if_false]
    exact (((h0.doT (twO (by simp))).doT tw20).doT tw20).dn (by omega)
  · obtain ⟨m0, m1, m2, m3⟩ := IsS_ret1.1 hS
    have hz : szT (St.ret1 u) = 1 + szT u := rfl
    unfold istmt
    simp only [m1, m3, Nat.reduceEqDiff, if_true, if_false]
    exact (((h0.doT (twO (by simp))).doT tw20).doT (tw2 m2)).dn (by omega)
  · obtain ⟨m0, m1, m2, m3⟩ := IsS_ret2.1 hS
    have hz : szT (St.ret2 u v) = 1 + szT u + szT v := rfl
    unfold istmt
    simp only [m1, Nat.reduceEqDiff, if_true, if_false]
    exact (((h0.doT (twO (by simp))).doT (tw2 m3)).doT (tw2 m2)).dn (by omega)
  · obtain ⟨m0, m1⟩ := IsS_brk.1 hS
    have hz : szT St.brk = 1 := rfl
    unfold istmt
    simp only [m1, Nat.reduceEqDiff, if_true, if_false]
    exact h0.brk (by omega)

theorem Wgt.items (h : Wgt G s b) {n k e : Nat} {l : ExL} (hE : IsEL G n l) : ∃ c, c ≤ 8 * szT l ∧ Wgt G (iitems n k e s) (b + c) := by
  unfold iitems
  rcases hE.inv with rfl | ⟨ex, l, rfl⟩
  · have h1 := IsEL_nil.1 hE
    rw [if_pos h1]; exact ⟨0, by omega, h⟩
  · obtain ⟨h1, h2, h3⟩ := IsEL_cons.1 hE
    have hz : szT (ExL.cons ex l) = 1 + szT ex + szT l := rfl
    rw [if_neg h1]
    have := (h.doT (x := k) (e := e) (tw23 h3)).doT (x := 0) (e := e) (tw2 h2)
    rw [Nat.add_assoc] at this
    exact ⟨_, by omega, this⟩

/-- an expression. -/
theorem Wgt.eval (h : Wgt G s b) {n x e : Nat} {ex : Ex} (hE : IsE G n ex) {f m : Nat} (hm : b + 8 * szT ex ≤ m) : Dn G f m (ieval G n x e s) := by
  have hn := hE.ne
  rcases hE.inv with ⟨k, rfl⟩ | ⟨k, rfl⟩ | ⟨k, rfl⟩ | ⟨k, rfl⟩ | ⟨u, v, rfl⟩ | ⟨g, zs, rfl⟩ | ⟨k, ps, bd, rfl⟩ | ⟨zs, rfl⟩ | ⟨k, u, v, rfl⟩ | ⟨k, u, rfl⟩ | ⟨u, v, rfl⟩ | ⟨u, v, rfl⟩
  · obtain ⟨m0, m1, m2⟩ := IsE_lit.1 hE
    have hz : szT (Ex.lit k) = 1 := rfl
    unfold ieval
    rw [if_neg m0]
    rcases m2 with rfl | rfl | rfl <;> simp only [m1, Nat.reduceEqDiff, if_true, if_false] <;> exact (h.push _).dn (by omega)
  · obtain ⟨m0, m1, m2⟩ := IsE_num.1 hE
    have hz : szT (Ex.num k) = 1 := rfl
    unfold ieval
    rw [if_neg m0]
    simp only [m1, Nat.reduceEqDiff, if_true, if_false]
    exact (h.push _).dn (by omega)
  · obtain ⟨m0, m1, m2⟩ := IsE_str.1 hE
    have hz : szT (Ex.str k) = 1 := rfl
    unfold ieval
    rw [if_neg m0]
    simp only [m1, Nat.reduceEqDiff, if_true, if_false]
    exact (h.push _).dn (by omega)
  · obtain ⟨m0, m1, m2⟩ := IsE_name.1 hE
    have hz : szT (Ex.name k) = 1 := rfl
    unfold ieval
    rw [if_neg m0]
    simp only [m1, Nat.reduceEqDiff, if_true, if_false]
    exact Dn.ite (fun _ => (h.push _).dn (by omega)) (fun _ => (h.push _).dn (by omega))
  · obtain ⟨m0, m1, m2, m3⟩ := IsE_index.1 hE
    have hz : szT (Ex.index u v) = 1 + szT u + szT v := rfl
    unfold ieval
    rw [if_neg m0]
    simp only [m1, Nat.reduceEqDiff, if_true, if_false]
    exact (((h.doT (twO (by simp))).doT (tw2 m3)).doT (tw2 m2)).dn (by omega)
  · obtain ⟨m0, m1, m2, m3⟩ := IsE_call.1 hE
    have hz : szT (Ex.call g zs) = 1 + szT g + szT zs := rfl
    unfold ieval
    rw [if_neg m0]
    simp only [m1, Nat.reduceEqDiff, if_true, if_false]
    obtain ⟨c, k1, k2⟩ := (h.doT (k := 5) (n := 0) (x := 0) (e := 0) (twO (by simp))).call (e := e) m2 m3
    exact k2.dn (by omega)
  · obtain ⟨m0, m1, m2⟩ := IsE_func.1 hE
    have hz : szT (Ex.func k ps bd) = 1 + szT bd := rfl
    unfold ieval
    rw [if_neg m0]
    simp only [m1, Nat.reduceEqDiff, if_true, if_false]
    exact Dn.ite (fun _ => .inl rfl) (fun _ => Wgt.dn (b := b) (Wgt.push (s := { s with clos := s.clos ++ [(n, e)] }) ⟨h.c, h.w⟩ _) (by omega))
  · obtain ⟨m0, m1, m2⟩ := IsE_table.1 hE
    have hz : szT (Ex.table zs) = 1 + szT zs := rfl
    unfold ieval
    rw [if_neg m0]
    simp only [m1, Nat.reduceEqDiff, if_true, if_false]
    refine Dn.ite (fun _ => .inl rfl) (fun _ => ?_)
    obtain ⟨c, k1, k2⟩ := Wgt.items (G := G) (s := ipush (vTab s.tabs.length) { s with tabs := s.tabs ++ [[]] }) (b := b) (k := 1) (e := e) (Wgt.push (s := { s with tabs := s.tabs ++ [[]] }) ⟨h.c, h.w⟩ _) m2
    exact k2.dn (by omega)
  · obtain ⟨m0, m1, m2, m3, m4⟩ := IsE_bin.1 hE
    have hz : szT (Ex.bin k u v) = 1 + szT u + szT v := rfl
    unfold ieval
    rw [if_neg m0]
    simp only [m1, Nat.reduceEqDiff, if_true, if_false]
    exact (((h.doT (twO (by simp))).doT (tw2 m4)).doT (tw2 m3)).dn (by omega)
  · obtain ⟨m0, m1, m2, m3⟩ := IsE_un.1 hE
    have hz : szT (Ex.un k u) = 1 + szT u := rfl
    unfold ieval
    rw [if_neg m0]
    simp only [m1, Nat.reduceEqDiff, if_true, if_false]
    exact ((h.doT (twO (by simp))).doT (tw2 m3)).dn (by omega)
  · obtain ⟨m0, m1, m2, m3⟩ := IsE_land.1 hE
    have hz : szT (Ex.land u v) = 1 + szT u + szT v := rfl
    unfold ieval
    rw [if_neg m0]
    simp only [m1, Nat.reduceEqDiff, if_true, if_false]
    exact ((h.doT (tw26 m3)).doT (tw2 m2)).dn (by omega)
  · obtain ⟨m0, m1, m2, m3⟩ := IsE_lor.1 hE
    have hz : szT (Ex.lor u v) = 1 + szT u + szT v := rfl
    unfold ieval
    rw [if_neg m0]
    simp only [m1, Nat.reduceEqDiff, if_true, if_false]
    exact ((h.doT (tw27 m3)).doT (tw2 m2)).dn (by omega)
end

end Go.Proofs.Qxb6500568aGreatDoor
