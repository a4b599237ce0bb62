import Derived.Test.Qxb6500568aGreatDoorSe
namespace Go.Proofs.Qxb6500568aGreatDoor
open Ieee
set_option linter.unusedVariables false
set_option linter.unusedSimpArgs false
set_option linter.unusedSectionVars false

/-! The rest of the kinds. -/

section
variable {x y z w : Tr} {b n : Nat} {G : Arena}

theorem LyE.nx0 {md : Nat} (h : LyE md x) (hA : Ag G b (lay x b)) : (nd G (b + ndT x - 1)).Nx = 0 := by
  obtain ⟨l, u, e, e0⟩ := h.ex b
  have hl := h.len b
  rw [e] at hA hl
  rw [List.length_append, List.length_cons, List.length_nil] at hl
  rw [show b + ndT x - 1 = b + l.length by omega, hA.app.2.hd, e0]
theorem layF_ok {k : Nat} {ps : List Str} {l : List Nd} (hx : LyL 3 x) (hb : 1 ≤ b) (h : Ag G b (layF k ps x (fun b => lay x b) b ++ l)) :
    nd G (b + ps.length + ndT x) = ⟨20, if ps = [] then 0 else b, rt x (b + ps.length), 0, 0, k, []⟩ ∧ IsNm G (if ps = [] then 0 else b) ps ∧ Is G 3 x (rt x (b + ps.length)) ∧ Ag G (b + ps.length + ndT x + 1) l := by
  unfold layF at h
  rw [List.append_assoc, List.append_assoc] at h
  obtain ⟨h1, h2⟩ := h.app
  rw [layN_len] at h2
  obtain ⟨g1, g2⟩ := lay1 hx (by omega) h2
  obtain ⟨g3, g4⟩ := g2.app
  exact ⟨g3.hd, layN_ok hb h1, g1, g4⟩
theorem layF_len {k : Nat} {ps : List Str} (hx : LyL 3 x) : (layF k ps x (fun b => lay x b) b).length = ps.length + ndT x + 1 := by
  unfold layF
  rw [List.length_append, List.length_append, layN_len, hx.len, List.length_cons, List.length_nil]
theorem ly_func {k : Nat} {ps : List Str} (hx : LyL 3 x) : LyE 0 (Ex.func k ps x) := by
  have h1 : ndT (Ex.func k ps x) = 1 + ps.length + ndT x := rfl
  refine ⟨fun b => by show (layF k ps x _ b).length = _; rw [layF_len hx, h1]; omega, by omega, fun b => rfl, fun b => ⟨layN ps b ++ lay x (b + ps.length), _, rfl, rfl⟩, fun b G hb hA => ?_⟩
  obtain ⟨n, hA⟩ := hA
  have hA : Ag G b (nxL (layN ps b ++ lay x (b + ps.length) ++ [_]) n) := hA
  rw [nxL_app, List.append_assoc] at hA
  obtain ⟨h2, h3⟩ := hA.app
  rw [layN_len] at h3
  obtain ⟨g1, g2⟩ := lay1 hx (by omega) h3
  have g2 := g2.hd
  rw [h1, show b + (1 + ps.length + ndT x) - 1 = b + ps.length + ndT x by omega]
  exact IsE_func.2 ⟨by omega, by rw [g2], by rw [g2], by rw [g2]; exact layN_ok hb h2, by rw [g2]; exact g1⟩
theorem ly_locFn {s : Str} {k : Nat} {ps : List Str} (hx : LyL 3 x) : LyE 2 (St.locFn s k ps x) := by
  have h1 : ndT (St.locFn s k ps x) = 2 + ps.length + ndT x := rfl
  refine ⟨fun b => by show (layF k ps x _ b ++ [_]).length = _; rw [List.length_append, layF_len hx, h1, List.length_cons, List.length_nil]; omega, by omega, fun b => rfl, fun b => ⟨layF k ps x (fun b => lay x b) b, _, rfl, rfl⟩, fun b G hb hA => ?_⟩
  obtain ⟨n, hA⟩ := hA
  have hA : Ag G b (nxL (layF k ps x (fun b => lay x b) b ++ [_]) n) := hA
  rw [nxL_app] at hA
  obtain ⟨g1, g2, g3, g4⟩ := layF_ok hx hb hA
  have g4 := g4.hd
  rw [h1, show b + (2 + ps.length + ndT x) - 1 = b + ps.length + ndT x + 1 by omega]
  refine IsS_locFn.2 ⟨by omega, by rw [g4], by rw [g4], ?_⟩
  rw [g4]
  exact ⟨by show b + ps.length + ndT x ≠ 0; omega, by rw [g1], by rw [g1], by rw [g1]; exact g2, by rw [g1]; exact g3⟩
theorem ly_setN {s : Str} (hx : LyE 0 x) : LyE 2 (St.setN s x) := by
  have h1 : ndT (St.setN s x) = 2 + ndT x := rfl
  have h3 : ∀ b, lay (St.setN s x) b = ⟨17, 0, 0, 0, 0, 0, s⟩ :: lay x (b + 1) ++ [⟨4, b, rt x (b + 1), 0, 0, 0, []⟩] := fun b => rfl
  refine ⟨fun b => by rw [h3, List.length_append, List.length_cons, hx.len, h1, List.length_cons, List.length_nil]; omega, by omega, fun b => rfl, fun b => ⟨_, _, h3 b, rfl⟩, fun b G hb hA => ?_⟩
  obtain ⟨n, hA⟩ := hA
  rw [h3, nxL_app, show ∀ (u : Nd) (l m : List Nd), u :: l ++ m = [u] ++ (l ++ m) from fun _ _ _ => rfl] at hA
  obtain ⟨g0, g1⟩ := hA.app
  obtain ⟨g1, g2⟩ := lay1 hx.l (by simp) g1
  have g0 := g0.hd
  have g2 := g2.hd
  have g2 : nd G (b + 1 + ndT x) = ⟨4, b, rt x (b + 1), 0, n, 0, []⟩ := g2
  have g1 : Is G 0 x (rt x (b + 1)) := g1
  rw [h1, show b + (2 + ndT x) - 1 = b + 1 + ndT x by omega]
  refine IsS_setN.2 ⟨by omega, by rw [g2], ?_⟩
  rw [g2]
  exact ⟨by show b ≠ 0; omega, by show (nd G b).K = _; rw [g0], by show (nd G b).S = _; rw [g0], g1⟩
theorem ly_scall (hx : LyE 0 x) (hy : LyL 1 y) : LyE 2 (St.call x y) := by
  have h1 : ndT (St.call x y) = 2 + ndT x + ndT y := rfl
  have h3 : ∀ b, lay (St.call x y) b = lay x b ++ lay y (b + ndT x) ++ [⟨19, rt x b, rt y (b + ndT x), 0, 0, 0, []⟩] ++ [⟨5, b + ndT x + ndT y, 0, 0, 0, 0, []⟩] := fun b => rfl
  refine ⟨fun b => by rw [h3, List.length_append, List.length_append, List.length_append, hx.len, hy.len, h1]; simp only [List.length_cons, List.length_nil]; omega, by omega, fun b => rfl, fun b => ⟨_, _, h3 b, rfl⟩, fun b G hb hA => ?_⟩
  obtain ⟨n, hA⟩ := hA
  rw [h3, nxL_app, List.append_assoc] at hA
  obtain ⟨g1, g2, g3⟩ := lay2 hx.l hy hb hA
  have g4 := g3.app.2.hd
  have g3 := g3.hd
  have g4 : nd G (b + ndT x + ndT y + 1) = ⟨5, b + ndT x + ndT y, 0, 0, n, 0, []⟩ := g4
  rw [h1, show b + (2 + ndT x + ndT y) - 1 = b + ndT x + ndT y + 1 by omega]
  refine IsS_call.2 ⟨by omega, by rw [g4], ?_⟩
  rw [g4]
  exact ⟨by show b + ndT x + ndT y ≠ 0; omega, by rw [g3], by rw [g3]; exact g1, by rw [g3]; exact g2⟩
theorem ly_nm2 {s t : Str} {l : List Nd} (hb : 1 ≤ b) (h : Ag G b ([⟨17, 0, 0, 0, b + 1, 0, s⟩, ⟨17, 0, 0, 0, 0, 0, t⟩] ++ l)) : IsNm G b [s, t] ∧ Ag G (b + 2) l := by
  obtain ⟨h1, h2⟩ := h.app
  have e1 := h1 0 _ rfl
  have e2 := h1 1 _ rfl
  have e1 : nd G b = ⟨17, 0, 0, 0, b + 1, 0, s⟩ := e1
  refine ⟨⟨by omega, by rw [e1], by rw [e1], ?_⟩, h2⟩
  rw [e1]
  exact ⟨by show b + 1 ≠ 0; omega, by show (nd G (b + 1)).K = _; rw [e2], by show (nd G (b + 1)).S = _; rw [e2], by show (nd G (b + 1)).Nx = _; rw [e2]⟩
theorem ly_loc2 {s t : Str} (hx : LyE 0 x) (hy : LyL 1 y) : LyE 2 (St.loc2 s t x y) := by
  have h1 : ndT (St.loc2 s t x y) = 4 + ndT x + ndT y := rfl
  have h3 : ∀ b, lay (St.loc2 s t x y) b = [⟨17, 0, 0, 0, b + 1, 0, s⟩, ⟨17, 0, 0, 0, 0, 0, t⟩] ++ (lay x (b + 2) ++ lay y (b + 2 + ndT x) ++ [⟨19, rt x (b + 2), rt y (b + 2 + ndT x), 0, 0, 0, []⟩]) ++ [⟨2, b, b + 2 + ndT x + ndT y, 0, 0, 0, []⟩] := fun b => rfl
  refine ⟨fun b => by rw [h3, List.length_append, List.length_append, List.length_append, List.length_append, hx.len, hy.len, h1]; simp only [List.length_cons, List.length_nil]; omega, by omega, fun b => rfl, fun b => ⟨_, _, h3 b, rfl⟩, fun b G hb hA => ?_⟩
  obtain ⟨n, hA⟩ := hA
  rw [h3, nxL_app, List.append_assoc] at hA
  obtain ⟨g0, g⟩ := ly_nm2 hb hA
  rw [List.append_assoc] at g
  obtain ⟨g1, g2, g3⟩ := lay2 hx.l hy (by omega) g
  have g4 := g3.app.2.hd
  have g3 := g3.hd
  have g4 : nd G (b + 2 + ndT x + ndT y + 1) = ⟨2, b, b + 2 + ndT x + ndT y, 0, n, 0, []⟩ := g4
  rw [h1, show b + (4 + ndT x + ndT y) - 1 = b + 2 + ndT x + ndT y + 1 by omega]
  refine IsS_loc2.2 ⟨by omega, by rw [g4], by rw [g4]; exact g0, ?_⟩
  rw [g4]
  exact ⟨by show b + 2 + ndT x + ndT y ≠ 0; omega, by rw [g3], by rw [g3]; exact g1, by rw [g3]; exact g2⟩
theorem ly_forIn {s t : Str} (hx : LyE 0 x) (hy : LyL 3 y) : LyE 2 (St.forIn s t x y) := by
  have h1 : ndT (St.forIn s t x y) = 3 + ndT x + ndT y := rfl
  have h3 : ∀ b, lay (St.forIn s t x y) b = ([⟨17, 0, 0, 0, b + 1, 0, s⟩, ⟨17, 0, 0, 0, 0, 0, t⟩] ++ (lay x (b + 2) ++ lay y (b + 2 + ndT x))) ++ [⟨9, b, rt x (b + 2), rt y (b + 2 + ndT x), 0, 0, []⟩] := fun b => by
    show _ ++ (_ ++ _ ++ [_]) = _
    simp only [List.append_assoc]
  refine ⟨fun b => by rw [h3, List.length_append, List.length_append, List.length_append, hx.len, hy.len, h1]; simp only [List.length_cons, List.length_nil]; omega, by omega, fun b => rfl, fun b => ⟨_, _, h3 b, rfl⟩, fun b G hb hA => ?_⟩
  obtain ⟨n, hA⟩ := hA
  rw [h3, nxL_app, List.append_assoc] at hA
  obtain ⟨g0, g⟩ := ly_nm2 hb hA
  obtain ⟨g1, g2, g3⟩ := lay2 hx.l hy (by omega) g
  have g3 := g3.hd
  rw [h1, show b + (3 + ndT x + ndT y) - 1 = b + 2 + ndT x + ndT y by omega]
  exact IsS_forIn.2 ⟨by omega, by rw [g3], by rw [g3]; exact g0, by rw [g3]; exact g1, by rw [g3]; exact g2⟩
theorem ly_setI (hx : LyE 0 x) (hy : LyE 0 y) (hz : LyE 0 z) : LyE 2 (St.setI x y z) := by
  have h1 : ndT (St.setI x y z) = 2 + ndT x + ndT y + ndT z := rfl
  have h3 : ∀ b, lay (St.setI x y z) b = lay x b ++ lay y (b + ndT x) ++ [⟨18, rt x b, rt y (b + ndT x), 0, 0, 0, []⟩] ++ lay z (b + ndT x + ndT y + 1) ++ [⟨4, b + ndT x + ndT y, rt z (b + ndT x + ndT y + 1), 0, 0, 0, []⟩] := fun b => rfl
  refine ⟨fun b => by rw [h3, List.length_append, List.length_append, List.length_append, List.length_append, hx.len, hy.len, hz.len, h1]; simp only [List.length_cons, List.length_nil]; omega, by omega, fun b => rfl, fun b => ⟨_, _, h3 b, rfl⟩, fun b G hb hA => ?_⟩
  obtain ⟨n, hA⟩ := hA
  rw [h3, nxL_app, List.append_assoc, List.append_assoc] at hA
  obtain ⟨g1, g2, g3⟩ := lay2 hx.l hy.l hb hA
  obtain ⟨g3, g4⟩ := g3.app
  have g3 := g3.hd
  obtain ⟨g4, g5⟩ := lay1 (b := b + ndT x + ndT y + 1) hz.l (by omega) g4
  have g5 := g5.hd
  rw [h1, show b + (2 + ndT x + ndT y + ndT z) - 1 = b + ndT x + ndT y + 1 + ndT z by omega]
  refine IsS_setI.2 ⟨by omega, by rw [g5], ?_⟩
  rw [g5]
  exact ⟨by show b + ndT x + ndT y ≠ 0; omega, by rw [g3], by rw [g3]; exact g1, by rw [g3]; exact g2, g4⟩
theorem ly_iff (hx : LyE 0 x) (hy : LyL 3 y) (hz : LyL 3 z) : LyE 2 (St.iff x y z) := by
  have h1 : ndT (St.iff x y z) = 1 + ndT x + ndT y + ndT z := rfl
  have h3 : ∀ b, lay (St.iff x y z) b = lay x b ++ lay y (b + ndT x) ++ lay z (b + ndT x + ndT y) ++ [⟨6, rt x b, rt y (b + ndT x), rt z (b + ndT x + ndT y), 0, 0, []⟩] := fun b => rfl
  refine ⟨fun b => by rw [h3, List.length_append, List.length_append, List.length_append, hx.len, hy.len, hz.len, h1]; simp only [List.length_cons, List.length_nil]; omega, by omega, fun b => rfl, fun b => ⟨_, _, h3 b, rfl⟩, fun b G hb hA => ?_⟩
  obtain ⟨n, hA⟩ := hA
  rw [h3, nxL_app, List.append_assoc] at hA
  obtain ⟨g1, g2, g3⟩ := lay2 hx.l hy hb hA
  obtain ⟨g3, g4⟩ := lay1 hz (by omega) g3
  have g4 := g4.hd
  rw [h1, show b + (1 + ndT x + ndT y + ndT z) - 1 = b + ndT x + ndT y + ndT z by omega]
  exact IsS_iff.2 ⟨by omega, by rw [g4], by rw [g4]; exact g1, by rw [g4]; exact g2, by rw [g4]; exact g3⟩
theorem ly_for2 {s : Str} (hx : LyE 0 x) (hy : LyE 0 y) (hz : LyL 3 z) : LyE 2 (St.for2 s x y z) := by
  have h1 : ndT (St.for2 s x y z) = 1 + ndT x + ndT y + ndT z := rfl
  have hp := hx.pos
  have hp2 := hy.pos
  have h3 : ∀ b, lay (St.for2 s x y z) b = nxL (lay x b) (rt y (b + ndT x)) ++ lay y (b + ndT x) ++ lay z (b + ndT x + ndT y) ++ [⟨8, rt x b, rt z (b + ndT x + ndT y), 0, 0, 0, s⟩] := fun b => rfl
  refine ⟨fun b => by rw [h3, List.length_append, List.length_append, List.length_append, nxL_len, hx.len, hy.len, hz.len, h1]; simp only [List.length_cons, List.length_nil]; omega, by omega, fun b => rfl, fun b => ⟨_, _, h3 b, rfl⟩, fun b G hb hA => ?_⟩
  obtain ⟨n, hA⟩ := hA
  rw [h3, nxL_app, List.append_assoc, List.append_assoc] at hA
  obtain ⟨k1, k2⟩ := hA.app
  rw [nxL_len, hx.len] at k2
  obtain ⟨g1, g2⟩ := hx.nx hb k1
  obtain ⟨k4, k5⟩ := lay1 hy.l (by omega) k2
  have hyn := hy.nx0 k2.app.1
  obtain ⟨g3, g4⟩ := lay1 hz (by omega) k5
  have g4 := g4.hd
  rw [hx.rt, hy.rt] at *
  rw [h1, show b + (1 + ndT x + ndT y + ndT z) - 1 = b + ndT x + ndT y + ndT z by omega]
  refine IsS_for2.2 ⟨by omega, by rw [g4], by rw [g4], ?_⟩
  rw [g4]
  show b + ndT x - 1 ≠ 0 ∧ IsE G (b + ndT x - 1) x ∧ (nd G (b + ndT x - 1)).Nx ≠ 0 ∧ IsE G (nd G (b + ndT x - 1)).Nx y ∧ (nd G (nd G (b + ndT x - 1)).Nx).Nx = 0 ∧ _
  rw [g2]
  exact ⟨by omega, g1, by omega, k4, hyn, g3⟩
theorem ly_for3 {s : Str} (hx : LyE 0 x) (hy : LyE 0 y) (hw : LyE 0 w) (hz : LyL 3 z) : LyE 2 (St.for3 s x y w z) := by
  have h1 : ndT (St.for3 s x y w z) = 1 + ndT x + ndT y + ndT w + ndT z := rfl
  have hp := hx.pos
  have hp2 := hy.pos
  have hp3 := hw.pos
  have h3 : ∀ b, lay (St.for3 s x y w z) b = nxL (lay x b) (rt y (b + ndT x)) ++ nxL (lay y (b + ndT x)) (rt w (b + ndT x + ndT y)) ++ lay w (b + ndT x + ndT y) ++ lay z (b + ndT x + ndT y + ndT w) ++ [⟨8, rt x b, rt z (b + ndT x + ndT y + ndT w), 0, 0, 0, s⟩] := fun b => rfl
  refine ⟨fun b => by rw [h3, List.length_append, List.length_append, List.length_append, List.length_append, nxL_len, nxL_len, hx.len, hy.len, hw.len, hz.len, h1]; simp only [List.length_cons, List.length_nil]; omega, by omega, fun b => rfl, fun b => ⟨_, _, h3 b, rfl⟩, fun b G hb hA => ?_⟩
  obtain ⟨n, hA⟩ := hA
  rw [h3, nxL_app, List.append_assoc, List.append_assoc, List.append_assoc] at hA
  obtain ⟨k1, k2⟩ := hA.app
  rw [nxL_len, hx.len] at k2
  obtain ⟨g1, g2⟩ := hx.nx hb k1
  obtain ⟨k3, k4⟩ := k2.app
  rw [nxL_len, hy.len] at k4
  obtain ⟨g3, g4⟩ := hy.nx (by omega) k3
  obtain ⟨k5, k6⟩ := lay1 hw.l (by omega) k4
  have hwn := hw.nx0 k4.app.1
  obtain ⟨g5, g6⟩ := lay1 hz (by omega) k6
  have g6 := g6.hd
  rw [hx.rt, hy.rt, hw.rt] at *
  rw [h1, show b + (1 + ndT x + ndT y + ndT w + ndT z) - 1 = b + ndT x + ndT y + ndT w + ndT z by omega]
  refine IsS_for3.2 ⟨by omega, by rw [g6], by rw [g6], ?_⟩
  rw [g6]
  show b + ndT x - 1 ≠ 0 ∧ IsE G (b + ndT x - 1) x ∧ (nd G (b + ndT x - 1)).Nx ≠ 0 ∧ IsE G (nd G (b + ndT x - 1)).Nx y ∧ (nd G (nd G (b + ndT x - 1)).Nx).Nx ≠ 0 ∧ IsE G (nd G (nd G (b + ndT x - 1)).Nx).Nx w ∧ (nd G (nd G (nd G (b + ndT x - 1)).Nx).Nx).Nx = 0 ∧ _
  rw [g2, g4]
  exact ⟨by omega, g1, by omega, g3, by omega, k5, hwn, g5⟩
end

end Go.Proofs.Qxb6500568aGreatDoor
