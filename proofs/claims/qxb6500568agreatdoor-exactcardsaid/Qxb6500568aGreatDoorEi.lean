import Derived.Test.Qxb6500568aGreatDoorEh
/- The real parser: the contracts; primary expressions. -/
namespace Go.Proofs.Qxb6500568aGreatDoor
open Ieee
set_option linter.unusedVariables false
set_option linter.unusedSimpArgs false

/-- What the parser needs beside its own state. -/
structure PCx (w : World) (ow : Nat → Nat) (pb tb cap : Nat) (L : List Tok) : Prop where
  tk : TkB w tb cap L
  ne : tb ≠ pb
  pl : pb < w.heap.size
  pt : ow pb = 65
  gv : GV w ow
/-- All new blocks are of finished trees. -/
abbrev N63 (w : World) (ow : Nat → Nat) : Nat → Nat := nw ow w.heap.size 63
theorem nw_nw {ow : Nat → Nat} {a b t : Nat} (h : a ≤ b) : nw (nw ow a t) b t = nw ow a t := by
  funext c
  unfold nw
  by_cases h1 : b ≤ c
  · rw [if_pos h1, if_pos (by omega)]
  · rw [if_neg h1]
theorem PCx.far {w w' : World} {ow ow' : Nat → Nat} {pb tb cap : Nat} {L : List Tok} (h : PCx w ow pb tb cap L) (f : Fram (one pb) w w') (hE : Xt w ow ow') : PCx w' ow' pb tb cap L :=
  ⟨h.tk.far f (fun e => h.ne e), h.ne, Nat.lt_of_lt_of_le h.pl f.size, by rw [hE pb h.pl]; exact h.pt, h.gv.far f (fun b hb _ e => by have e : b = pb := e; rw [e, h.pt] at hb; omega) hE⟩
theorem PCx.go {w w' : World} {ow : Nat → Nat} {pb tb cap : Nat} {L : List Tok} (h : PCx w ow pb tb cap L) (f : Fram (one pb) w w') : PCx w' (N63 w ow) pb tb cap L := h.far f (Xt.nw (Nat.le_refl _))
/-- An expression or a statement was parsed. -/
def Rs1 (w : World) (ow : Nat → Nat) (pb tb cap : Nat) (L : List Tok) (md : Nat) (R : PO) (r : Value) (w' : World) : Prop :=
  Fram (one pb) w w' ∧ match R with
  | .inl (e, p) => r = .nilIface ∧ PrE w' pb e p
  | .inr (t, s') => TrM w' (N63 w ow) md t [r] ∧ PrV w' pb tb cap L s'
/-- A list was parsed. -/
def RsL (w : World) (ow : Nat → Nat) (pb tb cap : Nat) (L : List Tok) (md : Nat) (R : PO) (r : Value) (w' : World) : Prop :=
  Fram (one pb) w w' ∧ match R with
  | .inl (e, p) => r = .tuple #[.slice none 0 0, .bool false] ∧ PrE w' pb e p
  | .inr (t, s') => ∃ U us, r = .tuple #[U, .bool true] ∧ SlM w' (N63 w ow) U us ∧ TrM w' (N63 w ow) md t us ∧ PrV w' pb tb cap L s'
/-- A literal was parsed. -/
def RsF (w : World) (ow : Nat → Nat) (pb tb cap : Nat) (L : List Tok) (R : PO) (r : Value) (w' : World) : Prop :=
  Fram (one pb) w w' ∧ match R with
  | .inl (e, p) => r = .pointer none ∧ PrE w' pb e p
  | .inr (t, s') => ∃ b, r = ptr b ∧ TrM w' (N63 w ow) 0 t [.iface 346 (ptr b)] ∧ PrV w' pb tb cap L s'
/-- What is common to all calls. -/
structure PGo (w : World) (ow : Nat → Nat) (pb tb cap : Nat) (L : List Tok) (s : PS) (lv : Nat) (ρ : Int) : Prop where
  cx : PCx w ow pb tb cap L
  pr : PrV w pb tb cap L s
  pe : Pe s
  l13 : lv ≤ 13
  lo : s.lo ≤ lv
  rm : ρ = 13 - (lv : Int)
/-- The contracts at fuel f. -/
structure PAll (f : Nat) : Prop where
  e0 : ∀ {w : World} {ow : Nat → Nat} {pb tb cap : Nat} {L : List Tok} {s : PS} {lv r : Nat} {ρ : Int} {R : PO}, PGo w ow pb tb cap L s lv ρ → 1 ≤ r → r ≤ 7 → parP f 0 lv r 0 dumT s = some R → Ret Tryz.prog 180 [ptr pb, .int .i64 ρ, i64c r] w (Rs1 w ow pb tb cap L 0 R)
  u2 : ∀ {w : World} {ow : Nat → Nat} {pb tb cap : Nat} {L : List Tok} {s : PS} {lv : Nat} {ρ : Int} {R : PO}, PGo w ow pb tb cap L s lv ρ → parP f 2 lv 0 0 dumT s = some R → Ret Tryz.prog 223 [ptr pb, .int .i64 ρ] w (Rs1 w ow pb tb cap L 0 R)
  p3 : ∀ {w : World} {ow : Nat → Nat} {pb tb cap : Nat} {L : List Tok} {s : PS} {lv : Nat} {ρ : Int} {R : PO}, PGo w ow pb tb cap L s lv ρ → parP f 3 lv 0 0 dumT s = some R → Ret Tryz.prog 183 [ptr pb, .int .i64 ρ] w (Rs1 w ow pb tb cap L 0 R)
  l5 : ∀ {w : World} {ow : Nat → Nat} {pb tb cap : Nat} {L : List Tok} {s : PS} {lv r : Nat} {ρ : Int} {R : PO}, PGo w ow pb tb cap L s lv ρ → r = 40 ∨ r = 42 → parP f 5 lv r 0 dumT s = some R → Ret Tryz.prog 225 [ptr pb, .int .i64 ρ, i64c r, .int .i64 (if r = 40 then 3 else -1)] w (RsL w ow pb tb cap L 1 R)
  b6 : ∀ {w : World} {ow : Nat → Nat} {pb tb cap : Nat} {L : List Tok} {s : PS} {lv : Nat} {ρ : Int} {R : PO}, PGo w ow pb tb cap L s lv ρ → parP f 6 lv 0 0 dumT s = some R → Ret Tryz.prog 76 [ptr pb, .int .i64 ρ] w (RsL w ow pb tb cap L 3 R)
  s8 : ∀ {w : World} {ow : Nat → Nat} {pb tb cap : Nat} {L : List Tok} {s : PS} {lv : Nat} {ρ : Int} {R : PO}, PGo w ow pb tb cap L s lv ρ → lv ≤ 12 → parP f 8 lv 0 0 dumT s = some R → Ret Tryz.prog 135 [ptr pb, .int .i64 ρ] w (Rs1 w ow pb tb cap L 2 R)
  i9 : ∀ {w : World} {ow : Nat → Nat} {pb tb cap : Nat} {L : List Tok} {s : PS} {lv : Nat} {ρ : Int} {R : PO}, PGo w ow pb tb cap L s lv ρ → lv ≤ 12 → 1 < s.k → parP f 9 lv 0 0 dumT s = some R → Ret Tryz.prog 178 [ptr pb, .int .i64 ρ] w (Rs1 w ow pb tb cap L 2 R)
  d10 : ∀ {w : World} {ow : Nat → Nat} {pb tb cap : Nat} {L : List Tok} {s : PS} {lv r : Nat} {ρ : Int} {R : PO}, PGo w ow pb tb cap L s lv ρ → lv ≤ 12 → s.al + r ≤ 12 → parP f 10 lv r 0 dumT s = some R → Ret Tryz.prog 181 [ptr pb, .int .i64 ρ, i64c r] w (RsL w ow pb tb cap L 3 R)
  f12 : ∀ {w : World} {ow : Nat → Nat} {pb tb cap : Nat} {L : List Tok} {s : PS} {lv p : Nat} {ρ : Int} {R : PO}, PGo w ow pb tb cap L s lv ρ → lv ≤ 12 → s.fu < 12 → parP f 12 lv 0 0 dumT s = some R → Ret Tryz.prog 220 [ptr pb, .int .i64 ρ, i64c p] w (RsF w ow pb tb cap L R)
theorem PAll.zero : PAll 0 := by
  constructor
  all_goals (intros; rename_i h; cases h)
theorem bdP_some {o : PR} {k : Tr → PS → PR} {R : PO} (h : bdP o k = some R) : (∃ e, o = some (.inl e) ∧ R = .inl e) ∨ ∃ t s, o = some (.inr (t, s)) ∧ k t s = some R := by
  rcases o with _ | e | ⟨t, s⟩
  · cases h
  · injection h with h; exact .inl ⟨e, rfl, h.symm⟩
  · exact .inr ⟨t, s, rfl, h⟩
/-- A value that is a tree is not nil. -/
theorem TrM.ifc {w : World} {ow : Nat → Nat} {md : Nat} {t : Tr} {v : Value} (h : TrM w ow md t [v]) (hm : md = 0 ∨ md = 2) : ∃ T b, v = .iface T (ptr b) := by
  have key : ∀ {T b}, [v] = [Value.iface T (ptr b)] → ∃ T b, v = .iface T (ptr b) := fun e => by injection e with e; exact ⟨_, _, e⟩
  rcases hm with rfl | rfl
  · rcases h.invE with ⟨_, rfl⟩ | ⟨_, rfl⟩ | ⟨_, rfl⟩ | ⟨_, rfl⟩ | ⟨_, _, rfl⟩ | ⟨_, _, rfl⟩ | ⟨_, _, _, rfl⟩ | ⟨_, rfl⟩ | ⟨_, _, _, rfl⟩ | ⟨_, _, rfl⟩ | ⟨_, _, rfl⟩ | ⟨_, _, rfl⟩
    · obtain ⟨b, p, e, _⟩ := TrM_lit.1 h; exact key e
    · obtain ⟨b, p, e, _⟩ := TrM_num.1 h; exact key e
    · obtain ⟨b, p, e, _⟩ := TrM_str.1 h; exact key e
    · obtain ⟨b, p, e, _⟩ := TrM_name.1 h; exact key e
    · obtain ⟨b, p, x, y, e, _⟩ := TrM_index.1 h; exact key e
    · obtain ⟨b, p, x, U, us, e, _⟩ := TrM_call.1 h; exact key e
    · obtain ⟨b, p, V, U, ns, us, e, _⟩ := TrM_func.1 h; exact key e
    · obtain ⟨b, p, U, us, e, _⟩ := TrM_table.1 h; exact key e
    · obtain ⟨b, p, x, y, e, _⟩ := TrM_bin.1 h; exact key e
    · obtain ⟨b, p, x, e, _⟩ := TrM_un.1 h; exact key e
    · obtain ⟨b, p, x, y, e, _⟩ := TrM_land.1 h; exact key e
    · obtain ⟨b, p, x, y, e, _⟩ := TrM_lor.1 h; exact key e
  · rcases h.invS with ⟨_, rfl⟩ | ⟨_, _, rfl⟩ | ⟨_, _, _, _, rfl⟩ | ⟨_, _, _, _, rfl⟩ | ⟨_, _, rfl⟩ | ⟨_, _, _, rfl⟩ | ⟨_, _, rfl⟩ | ⟨_, _, _, rfl⟩ | ⟨_, _, rfl⟩ | ⟨_, _, _, _, rfl⟩ | ⟨_, _, _, _, _, rfl⟩ | ⟨_, _, _, _, rfl⟩ | rfl | ⟨_, rfl⟩ | ⟨_, _, rfl⟩ | rfl
    · obtain ⟨b, V, ns, e, _⟩ := TrM_loc.1 h; exact key e
    · obtain ⟨b, V, ns, x, e, _⟩ := TrM_locV.1 h; exact key e
    · obtain ⟨b, V, ns, b1, p, x, U, us, e, _⟩ := TrM_loc2.1 h; exact key e
    · obtain ⟨b, b1, p1, b2, p, V, U, ns, us, e, _⟩ := TrM_locFn.1 h; exact key e
    · obtain ⟨b, p, b1, p1, x, e, _⟩ := TrM_setN.1 h; exact key e
    · obtain ⟨b, p, b1, p1, x, y, z, e, _⟩ := TrM_setI.1 h; exact key e
    · obtain ⟨b, b1, p, x, U, us, e, _⟩ := TrM_scall.1 h; exact key e
    · obtain ⟨b, p, x, U, us, V, ns, e, _⟩ := TrM_iff.1 h; exact key e
    · obtain ⟨b, p, x, U, us, e, _⟩ := TrM_whl.1 h; exact key e
    · obtain ⟨b, b1, p1, V, U, us, x, y, e, _⟩ := TrM_for2.1 h; exact key e
    · obtain ⟨b, b1, p1, V, U, us, x, y, z, e, _⟩ := TrM_for3.1 h; exact key e
    · obtain ⟨b, V, ns, x, U, us, e, _⟩ := TrM_forIn.1 h; exact key e
    · obtain ⟨b, p, e, _⟩ := TrM_ret0.1 h; exact key e
    · obtain ⟨b, p, x, e, _⟩ := TrM_ret1.1 h; exact key e
    · obtain ⟨b, p, x, y, e, _⟩ := TrM_ret2.1 h; exact key e
    · obtain ⟨b, p, e, _⟩ := TrM_brk.1 h; exact key e
end Go.Proofs.Qxb6500568aGreatDoor
