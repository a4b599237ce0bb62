import Derived.Test.Qxb6500568aGreatDoorSd
namespace Go.Proofs.Qxb6500568aGreatDoor
open Ieee
set_option linter.unusedVariables false
set_option linter.unusedSimpArgs false
set_option linter.unusedSectionVars false

/-! Each kind of tree, laid into the arena, is held by it. -/

section
variable {x y z w : Tr} {b n : Nat} {G : Arena}

theorem LyE.l {md : Nat} (h : LyE md x) : LyL md x := ⟨h.len, fun b G hb hA => by
  rw [h.rt]
  obtain ⟨l, u, e, -⟩ := h.ex b
  refine h.ok b G hb ?_
  rw [e] at hA ⊢
  exact hA.self⟩
theorem lay1 {mx : Nat} {l : List Nd} (hx : LyL mx x) (hb : 1 ≤ b) (h : Ag G b (lay x b ++ l)) : Is G mx x (rt x b) ∧ Ag G (b + ndT x) l := by
  obtain ⟨h1, h2⟩ := h.app
  rw [hx.len] at h2
  exact ⟨hx.ok b G hb h1, h2⟩
theorem lay2 {mx my : Nat} {l : List Nd} (hx : LyL mx x) (hy : LyL my y) (hb : 1 ≤ b) (h : Ag G b (lay x b ++ lay y (b + ndT x) ++ l)) : Is G mx x (rt x b) ∧ Is G my y (rt y (b + ndT x)) ∧ Ag G (b + ndT x + ndT y) l := by
  rw [List.append_assoc] at h
  obtain ⟨g1, g2⟩ := lay1 hx hb h
  obtain ⟨g3, g4⟩ := lay1 hy (by omega) g2
  exact ⟨g1, g3, g4⟩
theorem ly0 {md : Nat} {t : Tr} {u : Nd} (h1 : ndT t = 1) (h2 : ∀ b, rt t b = b + ndT t - 1) (h3 : ∀ b, lay t b = [u]) (h5 : u.Nx = 0) (h4 : ∀ G m, m ≠ 0 → (∃ n, nd G m = { u with Nx := n }) → Is G md t m) : LyE md t := by
  refine ⟨fun b => by rw [h3, h1]; rfl, by omega, h2, fun b => ⟨[], u, h3 b, h5⟩, fun b G hb hA => ?_⟩
  obtain ⟨n, hA⟩ := hA
  rw [h3, show [u] = [] ++ [u] from rfl, nxL_app] at hA
  rw [h1]
  exact h4 G _ (by omega) ⟨n, by rw [show b + 1 - 1 = b by omega]; exact hA.hd⟩
theorem ly_lit {k : Nat} (hk : k = 12 ∨ k = 13 ∨ k = 14) : LyE 0 (Ex.lit k) := ly0 (u := ⟨k, 0, 0, 0, 0, 0, []⟩) rfl (fun b => rfl) (fun b => rfl) rfl fun G m hm ⟨n, h⟩ => IsE_lit.2 ⟨hm, by rw [h], hk⟩
theorem ly_num {k : Nat} : LyE 0 (Ex.num k) := ly0 (u := ⟨15, 0, 0, 0, 0, k, []⟩) rfl (fun b => rfl) (fun b => rfl) rfl fun G m hm ⟨n, h⟩ => IsE_num.2 ⟨hm, by rw [h], by rw [h]⟩
theorem ly_str {s : Str} : LyE 0 (Ex.str s) := ly0 (u := ⟨16, 0, 0, 0, 0, 0, s⟩) rfl (fun b => rfl) (fun b => rfl) rfl fun G m hm ⟨n, h⟩ => IsE_str.2 ⟨hm, by rw [h], by rw [h]⟩
theorem ly_name {s : Str} : LyE 0 (Ex.name s) := ly0 (u := ⟨17, 0, 0, 0, 0, 0, s⟩) rfl (fun b => rfl) (fun b => rfl) rfl fun G m hm ⟨n, h⟩ => IsE_name.2 ⟨hm, by rw [h], by rw [h]⟩
theorem ly_loc {s : Str} : LyE 2 (St.loc s) := ly0 (u := ⟨1, 0, 0, 0, 0, 0, s⟩) rfl (fun b => rfl) (fun b => rfl) rfl fun G m hm ⟨n, h⟩ => IsS_loc.2 ⟨hm, by rw [h], by rw [h], by rw [h]⟩
theorem ly_ret0 : LyE 2 St.ret0 := ly0 (u := ⟨10, 0, 0, 0, 0, 0, []⟩) rfl (fun b => rfl) (fun b => rfl) rfl fun G m hm ⟨n, h⟩ => IsS_ret0.2 ⟨hm, by rw [h], by rw [h], by rw [h]⟩
theorem ly_brk : LyE 2 St.brk := ly0 (u := ⟨11, 0, 0, 0, 0, 0, []⟩) rfl (fun b => rfl) (fun b => rfl) rfl fun G m hm ⟨n, h⟩ => IsS_brk.2 ⟨hm, by rw [h]⟩
/-- a tree over one. -/
theorem ly1 {md mx : Nat} {t : Tr} {f : Nat → Nd} (hx : LyL mx x) (h1 : ndT t = 1 + ndT x) (h2 : ∀ b, rt t b = b + ndT t - 1) (h3 : ∀ b, lay t b = lay x b ++ [f (rt x b)]) (h5 : ∀ a, (f a).Nx = 0)
    (h4 : ∀ G m a, m ≠ 0 → (∃ n, nd G m = { f a with Nx := n }) → Is G mx x a → Is G md t m) : LyE md t := by
  refine ⟨fun b => by rw [h3, h1, List.length_append, hx.len, List.length_cons, List.length_nil]; omega, by omega, h2, fun b => ⟨_, _, h3 b, h5 _⟩, fun b G hb hA => ?_⟩
  obtain ⟨n, hA⟩ := hA
  rw [h3, nxL_app] at hA
  obtain ⟨g1, g2⟩ := lay1 hx hb hA
  rw [h1, show b + (1 + ndT x) - 1 = b + ndT x by omega]
  exact h4 G _ _ (by omega) ⟨n, g2.hd⟩ g1
theorem ly_table (hx : LyL 1 x) : LyE 0 (Ex.table x) := ly1 (f := fun a => ⟨21, a, 0, 0, 0, 0, []⟩) hx rfl (fun b => rfl) (fun b => rfl) (fun a => rfl) fun G m a hm ⟨n, h⟩ g => IsE_table.2 ⟨hm, by rw [h], by rw [h]; exact g⟩
theorem ly_un {op : Nat} (hx : LyE 0 x) : LyE 0 (Ex.un op x) := ly1 (f := fun a => ⟨23, a, 0, 0, 0, op, []⟩) hx.l rfl (fun b => rfl) (fun b => rfl) (fun a => rfl) fun G m a hm ⟨n, h⟩ g => IsE_un.2 ⟨hm, by rw [h], by rw [h], by rw [h]; exact g⟩
theorem ly_locV {s : Str} (hx : LyE 0 x) : LyE 2 (St.locV s x) := ly1 (f := fun a => ⟨1, a, 0, 0, 0, 0, s⟩) hx.l rfl (fun b => rfl) (fun b => rfl) (fun a => rfl) fun G m a hm ⟨n, h⟩ g => IsS_locV.2 ⟨hm, by rw [h], by rw [h], by rw [h]; exact g⟩
theorem ly_ret1 (hx : LyE 0 x) : LyE 2 (St.ret1 x) := ly1 (f := fun a => ⟨10, a, 0, 0, 0, 0, []⟩) hx.l rfl (fun b => rfl) (fun b => rfl) (fun a => rfl) fun G m a hm ⟨n, h⟩ g => IsS_ret1.2 ⟨hm, by rw [h], by rw [h]; exact g, by rw [h]⟩
/-- a tree over two. -/
theorem ly2 {md mx my : Nat} {t : Tr} {f : Nat → Nat → Nd} (hx : LyL mx x) (hy : LyL my y) (h1 : ndT t = 1 + ndT x + ndT y) (h2 : ∀ b, rt t b = b + ndT t - 1) (h3 : ∀ b, lay t b = lay x b ++ lay y (b + ndT x) ++ [f (rt x b) (rt y (b + ndT x))]) (h5 : ∀ a d, (f a d).Nx = 0)
    (h4 : ∀ G m a d, m ≠ 0 → (∃ n, nd G m = { f a d with Nx := n }) → Is G mx x a → Is G my y d → Is G md t m) : LyE md t := by
  refine ⟨fun b => by rw [h3, h1, List.length_append, List.length_append, hx.len, hy.len, List.length_cons, List.length_nil]; omega, by omega, h2, fun b => ⟨_, _, h3 b, h5 _ _⟩, fun b G hb hA => ?_⟩
  obtain ⟨n, hA⟩ := hA
  rw [h3, nxL_app] at hA
  obtain ⟨g1, g2, g3⟩ := lay2 hx hy hb hA
  rw [h1, show b + (1 + ndT x + ndT y) - 1 = b + ndT x + ndT y by omega]
  exact h4 G _ _ _ (by omega) ⟨n, g3.hd⟩ g1 g2
theorem ly_index (hx : LyE 0 x) (hy : LyE 0 y) : LyE 0 (Ex.index x y) := ly2 (f := fun a d => ⟨18, a, d, 0, 0, 0, []⟩) hx.l hy.l rfl (fun b => rfl) (fun b => rfl) (fun a d => rfl) fun G m a d hm ⟨n, h⟩ g k => IsE_index.2 ⟨hm, by rw [h], by rw [h]; exact g, by rw [h]; exact k⟩
theorem ly_call (hx : LyE 0 x) (hy : LyL 1 y) : LyE 0 (Ex.call x y) := ly2 (f := fun a d => ⟨19, a, d, 0, 0, 0, []⟩) hx.l hy rfl (fun b => rfl) (fun b => rfl) (fun a d => rfl) fun G m a d hm ⟨n, h⟩ g k => IsE_call.2 ⟨hm, by rw [h], by rw [h]; exact g, by rw [h]; exact k⟩
theorem ly_bin {op : Nat} (hx : LyE 0 x) (hy : LyE 0 y) : LyE 0 (Ex.bin op x y) := ly2 (f := fun a d => ⟨22, a, d, 0, 0, op, []⟩) hx.l hy.l rfl (fun b => rfl) (fun b => rfl) (fun a d => rfl) fun G m a d hm ⟨n, h⟩ g k => IsE_bin.2 ⟨hm, by rw [h], by rw [h], by rw [h]; exact g, by rw [h]; exact k⟩
theorem ly_land (hx : LyE 0 x) (hy : LyE 0 y) : LyE 0 (Ex.land x y) := ly2 (f := fun a d => ⟨24, a, d, 0, 0, 0, []⟩) hx.l hy.l rfl (fun b => rfl) (fun b => rfl) (fun a d => rfl) fun G m a d hm ⟨n, h⟩ g k => IsE_land.2 ⟨hm, by rw [h], by rw [h]; exact g, by rw [h]; exact k⟩
theorem ly_lor (hx : LyE 0 x) (hy : LyE 0 y) : LyE 0 (Ex.lor x y) := ly2 (f := fun a d => ⟨25, a, d, 0, 0, 0, []⟩) hx.l hy.l rfl (fun b => rfl) (fun b => rfl) (fun a d => rfl) fun G m a d hm ⟨n, h⟩ g k => IsE_lor.2 ⟨hm, by rw [h], by rw [h]; exact g, by rw [h]; exact k⟩
theorem ly_whl (hx : LyE 0 x) (hy : LyL 3 y) : LyE 2 (St.whl x y) := ly2 (f := fun a d => ⟨7, a, d, 0, 0, 0, []⟩) hx.l hy rfl (fun b => rfl) (fun b => rfl) (fun a d => rfl) fun G m a d hm ⟨n, h⟩ g k => IsS_whl.2 ⟨hm, by rw [h], by rw [h]; exact g, by rw [h]; exact k⟩
theorem ly_ret2 (hx : LyE 0 x) (hy : LyE 0 y) : LyE 2 (St.ret2 x y) := ly2 (f := fun a d => ⟨10, a, d, 0, 0, 0, []⟩) hx.l hy.l rfl (fun b => rfl) (fun b => rfl) (fun a d => rfl) fun G m a d hm ⟨n, h⟩ g k => IsS_ret2.2 ⟨hm, by rw [h], by rw [h]; exact g, by rw [h]; exact k⟩
theorem layN_len : ∀ (ps : List Str) (b : Nat), (layN ps b).length = ps.length
  | [], b => rfl
  | p :: l, b => by show (layN l (b + 1)).length + 1 = l.length + 1; rw [layN_len l]
theorem layN_ok : ∀ {ps : List Str} {b : Nat}, 1 ≤ b → Ag G b (layN ps b) → IsNm G (if ps = [] then 0 else b) ps
  | [], b, hb, h => rfl
  | p :: l, b, hb, h => by
    have h : Ag G b ([⟨17, 0, 0, 0, (if l = [] then 0 else b + 1), 0, p⟩] ++ layN l (b + 1)) := h
    obtain ⟨h1, h2⟩ := h.app
    have h1 := h1.hd
    have := layN_ok (ps := l) (b := b + 1) (by omega) h2
    refine ⟨by simp; omega, by simp [h1], by simp [h1], ?_⟩
    simp only [reduceCtorEq, if_false, h1]
    exact this
end

end Go.Proofs.Qxb6500568aGreatDoor
