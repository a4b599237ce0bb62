import Derived.Test.Qxb6500568aGreatDoorSb
namespace Go.Proofs.Qxb6500568aGreatDoor
open Ieee
set_option linter.unusedVariables false
set_option linter.unusedSimpArgs false
set_option linter.unusedSectionVars false

/-! A tree laid into the arena, in postorder. -/

def layN : List Str → Nat → List Nd
  | [], _ => []
  | p :: l, b => ⟨17, 0, 0, 0, (if l = [] then 0 else b + 1), 0, p⟩ :: layN l (b + 1)
/-- the place of a tree that is laid from b on: its own node, or a list's first. -/
def rt (t : Tr) (b : Nat) : Nat := if t.c = 12 then 0 else if t.c = 30 then 0 else if t.c = 13 then b + ndT (t.ks.headD dumT) - 1 else if t.c = 31 then b + ndT (t.ks.headD dumT) - 1 else b + ndT t - 1
def nxL (l : List Nd) (n : Nat) : List Nd := l.modify (l.length - 1) fun x => { x with Nx := n }
abbrev LK := Nat → List Nd
def l0 (c k : Nat) (s : Str) : List Nd :=
  if c = 0 then [⟨k, 0, 0, 0, 0, 0, []⟩] else if c = 1 then [⟨15, 0, 0, 0, 0, k, []⟩] else if c = 2 then [⟨16, 0, 0, 0, 0, 0, s⟩] else if c = 3 then [⟨17, 0, 0, 0, 0, 0, s⟩]
  else if c = 14 then [⟨1, 0, 0, 0, 0, 0, s⟩] else if c = 26 then [⟨10, 0, 0, 0, 0, 0, []⟩] else if c = 29 then [⟨11, 0, 0, 0, 0, 0, []⟩] else []
def layF (n : Nat) (ps : List Str) (x : Tr) (kx : LK) (b : Nat) : List Nd := layN ps b ++ kx (b + ps.length) ++ [⟨20, if ps = [] then 0 else b, rt x (b + ps.length), 0, 0, n, []⟩]
def l1 (c n : Nat) (s : Str) (ps : List Str) (x : Tr) (kx : LK) (b : Nat) : List Nd :=
  if c = 6 then layF n ps x kx b
  else if c = 7 then kx b ++ [⟨21, rt x b, 0, 0, 0, 0, []⟩]
  else if c = 9 then kx b ++ [⟨23, rt x b, 0, 0, 0, n, []⟩]
  else if c = 15 then kx b ++ [⟨1, rt x b, 0, 0, 0, 0, s⟩]
  else if c = 17 then layF n ps x kx b ++ [⟨3, b + ps.length + ndT x, 0, 0, 0, 0, s⟩]
  else if c = 18 then ⟨17, 0, 0, 0, 0, 0, s⟩ :: kx (b + 1) ++ [⟨4, b, rt x (b + 1), 0, 0, 0, []⟩]
  else if c = 27 then kx b ++ [⟨10, rt x b, 0, 0, 0, 0, []⟩]
  else []
def l2 (c n : Nat) (s t : Str) (x y : Tr) (kx ky : LK) (b : Nat) : List Nd :=
  let two := fun (b : Nat) (f : Nat → Nat → Nd) => kx b ++ ky (b + ndT x) ++ [f (rt x b) (rt y (b + ndT x))]
  if c = 4 then two b fun a d => ⟨18, a, d, 0, 0, 0, []⟩
  else if c = 5 then two b fun a d => ⟨19, a, d, 0, 0, 0, []⟩
  else if c = 8 then two b fun a d => ⟨22, a, d, 0, 0, n, []⟩
  else if c = 10 then two b fun a d => ⟨24, a, d, 0, 0, 0, []⟩
  else if c = 11 then two b fun a d => ⟨25, a, d, 0, 0, 0, []⟩
  else if c = 13 then nxL (kx b) (rt y (b + ndT x)) ++ ky (b + ndT x)
  else if c = 31 then nxL (kx b) (rt y (b + ndT x)) ++ ky (b + ndT x)
  else if c = 16 then [⟨17, 0, 0, 0, b + 1, 0, s⟩, ⟨17, 0, 0, 0, 0, 0, t⟩] ++ two (b + 2) (fun a d => ⟨19, a, d, 0, 0, 0, []⟩) ++ [⟨2, b, b + 2 + ndT x + ndT y, 0, 0, 0, []⟩]
  else if c = 20 then two b (fun a d => ⟨19, a, d, 0, 0, 0, []⟩) ++ [⟨5, b + ndT x + ndT y, 0, 0, 0, 0, []⟩]
  else if c = 22 then two b fun a d => ⟨7, a, d, 0, 0, 0, []⟩
  else if c = 25 then [⟨17, 0, 0, 0, b + 1, 0, s⟩, ⟨17, 0, 0, 0, 0, 0, t⟩] ++ two (b + 2) (fun a d => ⟨9, b, a, d, 0, 0, []⟩)
  else if c = 28 then two b fun a d => ⟨10, a, d, 0, 0, 0, []⟩
  else []
def l3 (c : Nat) (s : Str) (x y z : Tr) (kx ky kz : LK) (b : Nat) : List Nd :=
  if c = 19 then kx b ++ ky (b + ndT x) ++ [⟨18, rt x b, rt y (b + ndT x), 0, 0, 0, []⟩] ++ kz (b + ndT x + ndT y + 1) ++ [⟨4, b + ndT x + ndT y, rt z (b + ndT x + ndT y + 1), 0, 0, 0, []⟩]
  else if c = 21 then kx b ++ ky (b + ndT x) ++ kz (b + ndT x + ndT y) ++ [⟨6, rt x b, rt y (b + ndT x), rt z (b + ndT x + ndT y), 0, 0, []⟩]
  else if c = 23 then nxL (kx b) (rt y (b + ndT x)) ++ ky (b + ndT x) ++ kz (b + ndT x + ndT y) ++ [⟨8, rt x b, rt z (b + ndT x + ndT y), 0, 0, 0, s⟩]
  else []
def l4 (c : Nat) (s : Str) (x y z w : Tr) (kx ky kz kw : LK) (b : Nat) : List Nd :=
  if c = 24 then nxL (kx b) (rt y (b + ndT x)) ++ nxL (ky (b + ndT x)) (rt z (b + ndT x + ndT y)) ++ kz (b + ndT x + ndT y) ++ kw (b + ndT x + ndT y + ndT z) ++ [⟨8, rt x b, rt w (b + ndT x + ndT y + ndT z), 0, 0, 0, s⟩]
  else []
def lay : Tr → LK
  | ⟨c, n, s, t, ps, []⟩ => fun b => l0 c n s
  | ⟨c, n, s, t, ps, [x]⟩ => fun b => l1 c n s ps x (fun b => lay x b) b
  | ⟨c, n, s, t, ps, [x, y]⟩ => fun b => l2 c n s t x y (fun b => lay x b) (fun b => lay y b) b
  | ⟨c, n, s, t, ps, [x, y, z]⟩ => fun b => l3 c s x y z (fun b => lay x b) (fun b => lay y b) (fun b => lay z b) b
  | ⟨c, n, s, t, ps, [x, y, z, w]⟩ => fun b => l4 c s x y z w (fun b => lay x b) (fun b => lay y b) (fun b => lay z b) (fun b => lay w b) b
  | _ => fun _ => []

/-- the arena agrees with the nodes from b on. -/
def Ag (G : Arena) (b : Nat) (l : List Nd) : Prop := ∀ (i : Nat) x, l[i]? = some x → nd G (b + i) = x
/-- .. the last node's link apart. -/
def AgR (G : Arena) (b : Nat) (l : List Nd) : Prop := ∃ n, Ag G b (nxL l n)
theorem Ag.app {G : Arena} {b : Nat} {l m : List Nd} (h : Ag G b (l ++ m)) : Ag G b l ∧ Ag G (b + l.length) m := by
  refine ⟨fun i x hi => h i x (by rw [List.getElem?_append_left (List.getElem?_eq_some_iff.1 hi).1]; exact hi), fun i x hi => ?_⟩
  have := h (l.length + i) x (by rw [List.getElem?_append_right (by omega), Nat.add_sub_cancel_left]; exact hi)
  rw [Nat.add_assoc]; exact this
theorem Ag.hd {G : Arena} {b : Nat} {x : Nd} {l : List Nd} (h : Ag G b (x :: l)) : nd G b = x := h 0 x rfl
theorem nxL_len (l : List Nd) (n : Nat) : (nxL l n).length = l.length := List.length_modify ..
theorem nxL_app (l : List Nd) (x : Nd) (n : Nat) : nxL (l ++ [x]) n = l ++ [{ x with Nx := n }] := by
  unfold nxL
  refine List.ext_getElem? fun i => ?_
  rw [List.getElem?_modify, List.length_append, List.length_cons, List.length_nil, Nat.add_sub_cancel]
  by_cases hi : i < l.length
  · have : ¬ l.length = i := by omega
    rw [List.getElem?_append_left hi, List.getElem?_append_left hi]
    simp [this]
  · rw [List.getElem?_append_right (by omega), List.getElem?_append_right (by omega)]
    rcases hd : i - l.length with _ | d
    · have : l.length = i := by omega
      simp [this]
    · simp
theorem Ag.self {G : Arena} {b : Nat} {l : List Nd} {x : Nd} (h : Ag G b (l ++ [x])) : AgR G b (l ++ [x]) := ⟨x.Nx, by rw [nxL_app]; exact h⟩
/-- what is laid of a tree, and that the arena then holds it. -/
structure LyE (md : Nat) (t : Tr) : Prop where
  len : ∀ b, (lay t b).length = ndT t
  pos : 1 ≤ ndT t
  rt : ∀ b, rt t b = b + ndT t - 1
  ex : ∀ b, ∃ l x, lay t b = l ++ [x] ∧ x.Nx = 0
  ok : ∀ b G, 1 ≤ b → AgR G b (lay t b) → Is G md t (b + ndT t - 1)
structure LyL (md : Nat) (t : Tr) : Prop where
  len : ∀ b, (lay t b).length = ndT t
  ok : ∀ b G, 1 ≤ b → Ag G b (lay t b) → Is G md t (rt t b)

section
variable {x y z w : Tr} {b n : Nat}
/-- a tree in a list: its link is the arena's. -/
theorem LyE.nx {md : Nat} {G : Arena} (h : LyE md x) (hb : 1 ≤ b) (hA : Ag G b (nxL (lay x b) n)) : Is G md x (b + ndT x - 1) ∧ (nd G (b + ndT x - 1)).Nx = n := by
  refine ⟨h.ok b G hb ⟨n, hA⟩, ?_⟩
  obtain ⟨l, u, e, -⟩ := h.ex b
  have hl := h.len b
  rw [e, nxL_app] at hA
  rw [e, List.length_append, List.length_cons, List.length_nil] at hl
  have := hA.app.2.hd
  rw [show b + ndT x - 1 = b + l.length by omega, this]
theorem ly_nilA : LyL 1 ExL.nil := ⟨fun b => rfl, fun b G hb h => IsEL_nil.2 rfl⟩
theorem ly_nilB : LyL 3 StL.nil := ⟨fun b => rfl, fun b G hb h => IsSL_nil.2 rfl⟩
theorem ly_consA (hx : LyE 0 x) (hy : LyL 1 y) : LyL 1 (ExL.cons x y) := by
  have hp := hx.pos
  refine ⟨fun b => ?_, fun b G hb h => ?_⟩
  · show (nxL (lay x b) _ ++ lay y (b + ndT x)).length = 0 + ndT x + ndT y
    rw [List.length_append, nxL_len, hx.len, hy.len]; omega
  · have h : Ag G b (nxL (lay x b) (rt y (b + ndT x)) ++ lay y (b + ndT x)) := h
    obtain ⟨h1, h2⟩ := h.app
    rw [nxL_len, hx.len] at h2
    obtain ⟨g1, g2⟩ := hx.nx hb h1
    refine IsEL_cons.2 ⟨?_, g1, ?_⟩
    · show b + ndT x - 1 ≠ 0; omega
    · show Is G 1 y (nd G (b + ndT x - 1)).Nx
      rw [g2]; exact hy.ok _ G (by omega) h2
theorem ly_consB (hx : LyE 2 x) (hy : LyL 3 y) : LyL 3 (StL.cons x y) := by
  have hp := hx.pos
  refine ⟨fun b => ?_, fun b G hb h => ?_⟩
  · show (nxL (lay x b) _ ++ lay y (b + ndT x)).length = 0 + ndT x + ndT y
    rw [List.length_append, nxL_len, hx.len, hy.len]; omega
  · have h : Ag G b (nxL (lay x b) (rt y (b + ndT x)) ++ lay y (b + ndT x)) := h
    obtain ⟨h1, h2⟩ := h.app
    rw [nxL_len, hx.len] at h2
    obtain ⟨g1, g2⟩ := hx.nx hb h1
    refine IsSL_cons.2 ⟨?_, g1, ?_⟩
    · show b + ndT x - 1 ≠ 0; omega
    · show Is G 3 y (nd G (b + ndT x - 1)).Nx
      rw [g2]; exact hy.ok _ G (by omega) h2
end

end Go.Proofs.Qxb6500568aGreatDoor
