import Derived.Test.Qxb6500568aGreatDoorLa
namespace Go.Proofs.Qxb6500568aGreatDoor
open Ieee
set_option linter.unusedVariables false
set_option linter.unusedSimpArgs false

/-! Trees, the arena that holds one, and the interpreter zs a plain machine. -/

/-- a tree: what it is, a number, texts, and its children (one type for expressions, statements and their lists). -/
structure Tr where
  c : Nat
  n : Nat
  s : Str
  t : Str
  ps : List Str
  ks : List Tr
abbrev Ex := Tr
abbrev ExL := Tr
abbrev St := Tr
abbrev StL := Tr
def Ex.lit (k : Nat) : Ex := ⟨0, k, [], [], [], []⟩
def Ex.num (x : Nat) : Ex := ⟨1, x, [], [], [], []⟩
def Ex.str (s : Str) : Ex := ⟨2, 0, s, [], [], []⟩
def Ex.name (s : Str) : Ex := ⟨3, 0, s, [], [], []⟩
def Ex.index (a b : Ex) : Ex := ⟨4, 0, [], [], [], [a, b]⟩
def Ex.call (f : Ex) (zs : ExL) : Ex := ⟨5, 0, [], [], [], [f, zs]⟩
def Ex.func (n : Nat) (ps : List Str) (b : StL) : Ex := ⟨6, n, [], [], ps, [b]⟩
def Ex.table (zs : ExL) : Ex := ⟨7, 0, [], [], [], [zs]⟩
def Ex.bin (op : Nat) (a b : Ex) : Ex := ⟨8, op, [], [], [], [a, b]⟩
def Ex.un (op : Nat) (a : Ex) : Ex := ⟨9, op, [], [], [], [a]⟩
def Ex.land (a b : Ex) : Ex := ⟨10, 0, [], [], [], [a, b]⟩
def Ex.lor (a b : Ex) : Ex := ⟨11, 0, [], [], [], [a, b]⟩
def ExL.nil : ExL := ⟨12, 0, [], [], [], []⟩
def ExL.cons (e : Ex) (l : ExL) : ExL := ⟨13, 0, [], [], [], [e, l]⟩
def St.loc (s : Str) : St := ⟨14, 0, s, [], [], []⟩
def St.locV (s : Str) (v : Ex) : St := ⟨15, 0, s, [], [], [v]⟩
def St.loc2 (s t : Str) (f : Ex) (zs : ExL) : St := ⟨16, 0, s, t, [], [f, zs]⟩
def St.locFn (s : Str) (n : Nat) (ps : List Str) (b : StL) : St := ⟨17, n, s, [], ps, [b]⟩
def St.setN (s : Str) (v : Ex) : St := ⟨18, 0, s, [], [], [v]⟩
def St.setI (a k v : Ex) : St := ⟨19, 0, [], [], [], [a, k, v]⟩
def St.call (f : Ex) (zs : ExL) : St := ⟨20, 0, [], [], [], [f, zs]⟩
def St.iff (c : Ex) (t e : StL) : St := ⟨21, 0, [], [], [], [c, t, e]⟩
def St.whl (c : Ex) (b : StL) : St := ⟨22, 0, [], [], [], [c, b]⟩
def St.for2 (s : Str) (a l : Ex) (b : StL) : St := ⟨23, 0, s, [], [], [a, l, b]⟩
def St.for3 (s : Str) (a l p : Ex) (b : StL) : St := ⟨24, 0, s, [], [], [a, l, p, b]⟩
def St.forIn (s t : Str) (x : Ex) (b : StL) : St := ⟨25, 0, s, t, [], [x, b]⟩
def St.ret0 : St := ⟨26, 0, [], [], [], []⟩
def St.ret1 (a : Ex) : St := ⟨27, 0, [], [], [], [a]⟩
def St.ret2 (a b : Ex) : St := ⟨28, 0, [], [], [], [a, b]⟩
def St.brk : St := ⟨29, 0, [], [], [], []⟩
def StL.nil : StL := ⟨30, 0, [], [], [], []⟩
def StL.cons (s : St) (l : StL) : StL := ⟨31, 0, [], [], [], [s, l]⟩

structure Nd where
  K : Nat
  A : Nat
  B : Nat
  C : Nat
  Nx : Nat
  N : Nat
  S : Str

def Nd.zero : Nd := ⟨0, 0, 0, 0, 0, 0, []⟩
abbrev Arena := List Nd
def nd (G : Arena) (i : Nat) : Nd := G.getD i Nd.zero

/-- names in a list: EName nodes linked by Next. -/
def IsNm (G : Arena) : Nat → List Str → Prop
  | n, [] => n = 0
  | n, s :: l => n ≠ 0 ∧ (nd G n).K = 17 ∧ (nd G n).S = s ∧ IsNm G (nd G n).Nx l

def Is0 (G : Arena) (md c k : Nat) (s t : Str) (ps : List Str) (n : Nat) : Prop :=
  if c = 0 then (md = 0 ∧ s = [] ∧ t = [] ∧ ps = []) ∧ n ≠ 0 ∧ (nd G n).K = k ∧ (k = 12 ∨ k = 13 ∨ k = 14) else
  if c = 1 then (md = 0 ∧ s = [] ∧ t = [] ∧ ps = []) ∧ n ≠ 0 ∧ (nd G n).K = 15 ∧ (nd G n).N = k else
  if c = 2 then (md = 0 ∧ k = 0 ∧ t = [] ∧ ps = []) ∧ n ≠ 0 ∧ (nd G n).K = 16 ∧ (nd G n).S = s else
  if c = 3 then (md = 0 ∧ k = 0 ∧ t = [] ∧ ps = []) ∧ n ≠ 0 ∧ (nd G n).K = 17 ∧ (nd G n).S = s else
  if c = 12 then (md = 1 ∧ k = 0 ∧ s = [] ∧ t = [] ∧ ps = []) ∧ n = 0 else
  if c = 14 then (md = 2 ∧ k = 0 ∧ t = [] ∧ ps = []) ∧ n ≠ 0 ∧ (nd G n).K = 1 ∧ (nd G n).S = s ∧ (nd G n).A = 0 else
  if c = 26 then (md = 2 ∧ k = 0 ∧ s = [] ∧ t = [] ∧ ps = []) ∧ n ≠ 0 ∧ (nd G n).K = 10 ∧ (nd G n).A = 0 ∧ (nd G n).B = 0 else
  if c = 29 then (md = 2 ∧ k = 0 ∧ s = [] ∧ t = [] ∧ ps = []) ∧ n ≠ 0 ∧ (nd G n).K = 11 else
  if c = 30 then (md = 3 ∧ k = 0 ∧ s = [] ∧ t = [] ∧ ps = []) ∧ n = 0 else
  False
def Is1 (G : Arena) (md c k : Nat) (s t : Str) (ps : List Str) (pa : Nat → Nat → Prop) (n : Nat) : Prop :=
  if c = 6 then (md = 0 ∧ s = [] ∧ t = []) ∧ n ≠ 0 ∧ (nd G n).K = 20 ∧ (nd G n).N = k ∧ IsNm G (nd G n).A ps ∧ pa 3 (nd G n).B else
  if c = 7 then (md = 0 ∧ k = 0 ∧ s = [] ∧ t = [] ∧ ps = []) ∧ n ≠ 0 ∧ (nd G n).K = 21 ∧ pa 1 (nd G n).A else
  if c = 9 then (md = 0 ∧ s = [] ∧ t = [] ∧ ps = []) ∧ n ≠ 0 ∧ (nd G n).K = 23 ∧ (nd G n).N = k ∧ pa 0 (nd G n).A else
  if c = 15 then (md = 2 ∧ k = 0 ∧ t = [] ∧ ps = []) ∧ n ≠ 0 ∧ (nd G n).K = 1 ∧ (nd G n).S = s ∧ pa 0 (nd G n).A else
  if c = 17 then (md = 2 ∧ t = []) ∧ n ≠ 0 ∧ (nd G n).K = 3 ∧ (nd G n).S = s ∧ (nd G n).A ≠ 0 ∧ (nd G (nd G n).A).K = 20 ∧ (nd G (nd G n).A).N = k ∧ IsNm G (nd G (nd G n).A).A ps ∧ pa 3 (nd G (nd G n).A).B else
  if c = 18 then (md = 2 ∧ k = 0 ∧ t = [] ∧ ps = []) ∧ n ≠ 0 ∧ (nd G n).K = 4 ∧ (nd G n).A ≠ 0 ∧ (nd G (nd G n).A).K = 17 ∧ (nd G (nd G n).A).S = s ∧ pa 0 (nd G n).B else
  if c = 27 then (md = 2 ∧ k = 0 ∧ s = [] ∧ t = [] ∧ ps = []) ∧ n ≠ 0 ∧ (nd G n).K = 10 ∧ pa 0 (nd G n).A ∧ (nd G n).B = 0 else
  False
def Is2 (G : Arena) (md c k : Nat) (s t : Str) (ps : List Str) (pa : Nat → Nat → Prop) (pb : Nat → Nat → Prop) (n : Nat) : Prop :=
  if c = 4 then (md = 0 ∧ k = 0 ∧ s = [] ∧ t = [] ∧ ps = []) ∧ n ≠ 0 ∧ (nd G n).K = 18 ∧ pa 0 (nd G n).A ∧ pb 0 (nd G n).B else
  if c = 5 then (md = 0 ∧ k = 0 ∧ s = [] ∧ t = [] ∧ ps = []) ∧ n ≠ 0 ∧ (nd G n).K = 19 ∧ pa 0 (nd G n).A ∧ pb 1 (nd G n).B else
  if c = 8 then (md = 0 ∧ s = [] ∧ t = [] ∧ ps = []) ∧ n ≠ 0 ∧ (nd G n).K = 22 ∧ (nd G n).N = k ∧ pa 0 (nd G n).A ∧ pb 0 (nd G n).B else
  if c = 10 then (md = 0 ∧ k = 0 ∧ s = [] ∧ t = [] ∧ ps = []) ∧ n ≠ 0 ∧ (nd G n).K = 24 ∧ pa 0 (nd G n).A ∧ pb 0 (nd G n).B else
  if c = 11 then (md = 0 ∧ k = 0 ∧ s = [] ∧ t = [] ∧ ps = []) ∧ n ≠ 0 ∧ (nd G n).K = 25 ∧ pa 0 (nd G n).A ∧ pb 0 (nd G n).B else
  if c = 13 then (md = 1 ∧ k = 0 ∧ s = [] ∧ t = [] ∧ ps = []) ∧ n ≠ 0 ∧ pa 0 n ∧ pb 1 (nd G n).Nx else
  if c = 16 then (md = 2 ∧ k = 0 ∧ ps = []) ∧ n ≠ 0 ∧ (nd G n).K = 2 ∧ IsNm G (nd G n).A [s, t] ∧ (nd G n).B ≠ 0 ∧ (nd G (nd G n).B).K = 19 ∧ pa 0 (nd G (nd G n).B).A ∧ pb 1 (nd G (nd G n).B).B else
  if c = 20 then (md = 2 ∧ k = 0 ∧ s = [] ∧ t = [] ∧ ps = []) ∧ n ≠ 0 ∧ (nd G n).K = 5 ∧ (nd G n).A ≠ 0 ∧ (nd G (nd G n).A).K = 19 ∧ pa 0 (nd G (nd G n).A).A ∧ pb 1 (nd G (nd G n).A).B else
  if c = 22 then (md = 2 ∧ k = 0 ∧ s = [] ∧ t = [] ∧ ps = []) ∧ n ≠ 0 ∧ (nd G n).K = 7 ∧ pa 0 (nd G n).A ∧ pb 3 (nd G n).B else
  if c = 25 then (md = 2 ∧ k = 0 ∧ ps = []) ∧ n ≠ 0 ∧ (nd G n).K = 9 ∧ IsNm G (nd G n).A [s, t] ∧ pa 0 (nd G n).B ∧ pb 3 (nd G n).C else
  if c = 28 then (md = 2 ∧ k = 0 ∧ s = [] ∧ t = [] ∧ ps = []) ∧ n ≠ 0 ∧ (nd G n).K = 10 ∧ pa 0 (nd G n).A ∧ pb 0 (nd G n).B else
  if c = 31 then (md = 3 ∧ k = 0 ∧ s = [] ∧ t = [] ∧ ps = []) ∧ n ≠ 0 ∧ pa 2 n ∧ pb 3 (nd G n).Nx else
  False
def Is3 (G : Arena) (md c k : Nat) (s t : Str) (ps : List Str) (pa : Nat → Nat → Prop) (pb : Nat → Nat → Prop) (pd : Nat → Nat → Prop) (n : Nat) : Prop :=
  if c = 19 then (md = 2 ∧ k = 0 ∧ s = [] ∧ t = [] ∧ ps = []) ∧ n ≠ 0 ∧ (nd G n).K = 4 ∧ (nd G n).A ≠ 0 ∧ (nd G (nd G n).A).K = 18 ∧ pa 0 (nd G (nd G n).A).A ∧ pb 0 (nd G (nd G n).A).B ∧ pd 0 (nd G n).B else
  if c = 21 then (md = 2 ∧ k = 0 ∧ s = [] ∧ t = [] ∧ ps = []) ∧ n ≠ 0 ∧ (nd G n).K = 6 ∧ pa 0 (nd G n).A ∧ pb 3 (nd G n).B ∧ pd 3 (nd G n).C else
  if c = 23 then (md = 2 ∧ k = 0 ∧ t = [] ∧ ps = []) ∧ n ≠ 0 ∧ (nd G n).K = 8 ∧ (nd G n).S = s ∧ (nd G n).A ≠ 0 ∧ pa 0 (nd G n).A ∧ (nd G (nd G n).A).Nx ≠ 0 ∧ pb 0 (nd G (nd G n).A).Nx ∧ (nd G (nd G (nd G n).A).Nx).Nx = 0 ∧ pd 3 (nd G n).B else
  False
def Is4 (G : Arena) (md c k : Nat) (s t : Str) (ps : List Str) (pa : Nat → Nat → Prop) (pb : Nat → Nat → Prop) (pd : Nat → Nat → Prop) (pe : Nat → Nat → Prop) (n : Nat) : Prop :=
  if c = 24 then (md = 2 ∧ k = 0 ∧ t = [] ∧ ps = []) ∧ n ≠ 0 ∧ (nd G n).K = 8 ∧ (nd G n).S = s ∧ (nd G n).A ≠ 0 ∧ pa 0 (nd G n).A ∧ (nd G (nd G n).A).Nx ≠ 0 ∧ pb 0 (nd G (nd G n).A).Nx ∧ (nd G (nd G (nd G n).A).Nx).Nx ≠ 0 ∧ pd 0 (nd G (nd G (nd G n).A).Nx).Nx ∧ (nd G (nd G (nd G (nd G n).A).Nx).Nx).Nx = 0 ∧ pe 3 (nd G n).B else
  False
/-- node n of the arena holds the tree (md: 0 an expression, 1 a list of them, 2 a statement, 3 a list of them). -/
def Is (G : Arena) : Nat → Tr → Nat → Prop
  | md, ⟨c, k, s, t, ps, []⟩, n => Is0 G md c k s t ps n
  | md, ⟨c, k, s, t, ps, [a]⟩, n => Is1 G md c k s t ps (fun m x => Is G m a x) n
  | md, ⟨c, k, s, t, ps, [a, b]⟩, n => Is2 G md c k s t ps (fun m x => Is G m a x) (fun m x => Is G m b x) n
  | md, ⟨c, k, s, t, ps, [a, b, d]⟩, n => Is3 G md c k s t ps (fun m x => Is G m a x) (fun m x => Is G m b x) (fun m x => Is G m d x) n
  | md, ⟨c, k, s, t, ps, [a, b, d, e]⟩, n => Is4 G md c k s t ps (fun m x => Is G m a x) (fun m x => Is G m b x) (fun m x => Is G m d x) (fun m x => Is G m e x) n
  | _, _, _ => False
def IsE (G : Arena) (n : Nat) (e : Ex) : Prop := Is G 0 e n
def IsEL (G : Arena) (n : Nat) (e : ExL) : Prop := Is G 1 e n
def IsS (G : Arena) (n : Nat) (e : St) : Prop := Is G 2 e n
def IsSL (G : Arena) (n : Nat) (e : StL) : Prop := Is G 3 e n
section
variable {G : Arena} {n : Nat}
theorem IsE_lit {k : Nat} : IsE G n (Ex.lit k) ↔ n ≠ 0 ∧ (nd G n).K = k ∧ (k = 12 ∨ k = 13 ∨ k = 14) := ⟨fun h => h.2, fun h => ⟨⟨rfl, rfl, rfl, rfl⟩, h⟩⟩
theorem IsE_num {x : Nat} : IsE G n (Ex.num x) ↔ n ≠ 0 ∧ (nd G n).K = 15 ∧ (nd G n).N = x := ⟨fun h => h.2, fun h => ⟨⟨rfl, rfl, rfl, rfl⟩, h⟩⟩
theorem IsE_str {s : Str} : IsE G n (Ex.str s) ↔ n ≠ 0 ∧ (nd G n).K = 16 ∧ (nd G n).S = s := ⟨fun h => h.2, fun h => ⟨⟨rfl, rfl, rfl, rfl⟩, h⟩⟩
theorem IsE_name {s : Str} : IsE G n (Ex.name s) ↔ n ≠ 0 ∧ (nd G n).K = 17 ∧ (nd G n).S = s := ⟨fun h => h.2, fun h => ⟨⟨rfl, rfl, rfl, rfl⟩, h⟩⟩
theorem IsE_index {a : Ex} {b : Ex} : IsE G n (Ex.index a b) ↔ n ≠ 0 ∧ (nd G n).K = 18 ∧ IsE G (nd G n).A a ∧ IsE G (nd G n).B b := ⟨fun h => h.2, fun h => ⟨⟨rfl, rfl, rfl, rfl, rfl⟩, h⟩⟩
theorem IsE_call {f : Ex} {zs : ExL} : IsE G n (Ex.call f zs) ↔ n ≠ 0 ∧ (nd G n).K = 19 ∧ IsE G (nd G n).A f ∧ IsEL G (nd G n).B zs := ⟨fun h => h.2, fun h => ⟨⟨rfl, rfl, rfl, rfl, rfl⟩, h⟩⟩
theorem IsE_func {k : Nat} {ps : List Str} {b : StL} : IsE G n (Ex.func k ps b) ↔ n ≠ 0 ∧ (nd G n).K = 20 ∧ (nd G n).N = k ∧ IsNm G (nd G n).A ps ∧ IsSL G (nd G n).B b := ⟨fun h => h.2, fun h => ⟨⟨rfl, rfl, rfl⟩, h⟩⟩
theorem IsE_table {zs : ExL} : IsE G n (Ex.table zs) ↔ n ≠ 0 ∧ (nd G n).K = 21 ∧ IsEL G (nd G n).A zs := ⟨fun h => h.2, fun h => ⟨⟨rfl, rfl, rfl, rfl, rfl⟩, h⟩⟩
theorem IsE_bin {op : Nat} {a : Ex} {b : Ex} : IsE G n (Ex.bin op a b) ↔ n ≠ 0 ∧ (nd G n).K = 22 ∧ (nd G n).N = op ∧ IsE G (nd G n).A a ∧ IsE G (nd G n).B b := ⟨fun h => h.2, fun h => ⟨⟨rfl, rfl, rfl, rfl⟩, h⟩⟩
theorem IsE_un {op : Nat} {a : Ex} : IsE G n (Ex.un op a) ↔ n ≠ 0 ∧ (nd G n).K = 23 ∧ (nd G n).N = op ∧ IsE G (nd G n).A a := ⟨fun h => h.2, fun h => ⟨⟨rfl, rfl, rfl, rfl⟩, h⟩⟩
theorem IsE_land {a : Ex} {b : Ex} : IsE G n (Ex.land a b) ↔ n ≠ 0 ∧ (nd G n).K = 24 ∧ IsE G (nd G n).A a ∧ IsE G (nd G n).B b := ⟨fun h => h.2, fun h => ⟨⟨rfl, rfl, rfl, rfl, rfl⟩, h⟩⟩
theorem IsE_lor {a : Ex} {b : Ex} : IsE G n (Ex.lor a b) ↔ n ≠ 0 ∧ (nd G n).K = 25 ∧ IsE G (nd G n).A a ∧ IsE G (nd G n).B b := ⟨fun h => h.2, fun h => ⟨⟨rfl, rfl, rfl, rfl, rfl⟩, h⟩⟩
theorem IsEL_nil  : IsEL G n ExL.nil ↔ n = 0 := ⟨fun h => h.2, fun h => ⟨⟨rfl, rfl, rfl, rfl, rfl⟩, h⟩⟩
theorem IsEL_cons {e : Ex} {l : ExL} : IsEL G n (ExL.cons e l) ↔ n ≠ 0 ∧ IsE G n e ∧ IsEL G (nd G n).Nx l := ⟨fun h => h.2, fun h => ⟨⟨rfl, rfl, rfl, rfl, rfl⟩, h⟩⟩
theorem IsS_loc {s : Str} : IsS G n (St.loc s) ↔ n ≠ 0 ∧ (nd G n).K = 1 ∧ (nd G n).S = s ∧ (nd G n).A = 0 := ⟨fun h => h.2, fun h => ⟨⟨rfl, rfl, rfl, rfl⟩, h⟩⟩
theorem IsS_locV {s : Str} {v : Ex} : IsS G n (St.locV s v) ↔ n ≠ 0 ∧ (nd G n).K = 1 ∧ (nd G n).S = s ∧ IsE G (nd G n).A v := ⟨fun h => h.2, fun h => ⟨⟨rfl, rfl, rfl, rfl⟩, h⟩⟩
theorem IsS_loc2 {s : Str} {t : Str} {f : Ex} {zs : ExL} : IsS G n (St.loc2 s t f zs) ↔ n ≠ 0 ∧ (nd G n).K = 2 ∧ IsNm G (nd G n).A [s, t] ∧ (nd G n).B ≠ 0 ∧ (nd G (nd G n).B).K = 19 ∧ IsE G (nd G (nd G n).B).A f ∧ IsEL G (nd G (nd G n).B).B zs := ⟨fun h => h.2, fun h => ⟨⟨rfl, rfl, rfl⟩, h⟩⟩
theorem IsS_locFn {s : Str} {k : Nat} {ps : List Str} {b : StL} : IsS G n (St.locFn s k ps b) ↔ n ≠ 0 ∧ (nd G n).K = 3 ∧ (nd G n).S = s ∧ (nd G n).A ≠ 0 ∧ (nd G (nd G n).A).K = 20 ∧ (nd G (nd G n).A).N = k ∧ IsNm G (nd G (nd G n).A).A ps ∧ IsSL G (nd G (nd G n).A).B b := ⟨fun h => h.2, fun h => ⟨⟨rfl, rfl⟩, h⟩⟩
theorem IsS_setN {s : Str} {v : Ex} : IsS G n (St.setN s v) ↔ n ≠ 0 ∧ (nd G n).K = 4 ∧ (nd G n).A ≠ 0 ∧ (nd G (nd G n).A).K = 17 ∧ (nd G (nd G n).A).S = s ∧ IsE G (nd G n).B v := ⟨fun h => h.2, fun h => ⟨⟨rfl, rfl, rfl, rfl⟩, h⟩⟩
theorem IsS_setI {a : Ex} {k : Ex} {v : Ex} : IsS G n (St.setI a k v) ↔ n ≠ 0 ∧ (nd G n).K = 4 ∧ (nd G n).A ≠ 0 ∧ (nd G (nd G n).A).K = 18 ∧ IsE G (nd G (nd G n).A).A a ∧ IsE G (nd G (nd G n).A).B k ∧ IsE G (nd G n).B v := ⟨fun h => h.2, fun h => ⟨⟨rfl, rfl, rfl, rfl, rfl⟩, h⟩⟩
theorem IsS_call {f : Ex} {zs : ExL} : IsS G n (St.call f zs) ↔ n ≠ 0 ∧ (nd G n).K = 5 ∧ (nd G n).A ≠ 0 ∧ (nd G (nd G n).A).K = 19 ∧ IsE G (nd G (nd G n).A).A f ∧ IsEL G (nd G (nd G n).A).B zs := ⟨fun h => h.2, fun h => ⟨⟨rfl, rfl, rfl, rfl, rfl⟩, h⟩⟩
theorem IsS_iff {c : Ex} {t : StL} {e : StL} : IsS G n (St.iff c t e) ↔ n ≠ 0 ∧ (nd G n).K = 6 ∧ IsE G (nd G n).A c ∧ IsSL G (nd G n).B t ∧ IsSL G (nd G n).C e := ⟨fun h => h.2, fun h => ⟨⟨rfl, rfl, rfl, rfl, rfl⟩, h⟩⟩
theorem IsS_whl {c : Ex} {b : StL} : IsS G n (St.whl c b) ↔ n ≠ 0 ∧ (nd G n).K = 7 ∧ IsE G (nd G n).A c ∧ IsSL G (nd G n).B b := ⟨fun h => h.2, fun h => ⟨⟨rfl, rfl, rfl, rfl, rfl⟩, h⟩⟩
theorem IsS_for2 {s : Str} {a : Ex} {l : Ex} {b : StL} : IsS G n (St.for2 s a l b) ↔ n ≠ 0 ∧ (nd G n).K = 8 ∧ (nd G n).S = s ∧ (nd G n).A ≠ 0 ∧ IsE G (nd G n).A a ∧ (nd G (nd G n).A).Nx ≠ 0 ∧ IsE G (nd G (nd G n).A).Nx l ∧ (nd G (nd G (nd G n).A).Nx).Nx = 0 ∧ IsSL G (nd G n).B b := ⟨fun h => h.2, fun h => ⟨⟨rfl, rfl, rfl, rfl⟩, h⟩⟩
theorem IsS_for3 {s : Str} {a : Ex} {l : Ex} {p : Ex} {b : StL} : IsS G n (St.for3 s a l p b) ↔ n ≠ 0 ∧ (nd G n).K = 8 ∧ (nd G n).S = s ∧ (nd G n).A ≠ 0 ∧ IsE G (nd G n).A a ∧ (nd G (nd G n).A).Nx ≠ 0 ∧ IsE G (nd G (nd G n).A).Nx l ∧ (nd G (nd G (nd G n).A).Nx).Nx ≠ 0 ∧ IsE G (nd G (nd G (nd G n).A).Nx).Nx p ∧ (nd G (nd G (nd G (nd G n).A).Nx).Nx).Nx = 0 ∧ IsSL G (nd G n).B b := ⟨fun h => h.2, fun h => ⟨⟨rfl, rfl, rfl, rfl⟩, h⟩⟩
theorem IsS_forIn {s : Str} {t : Str} {x : Ex} {b : StL} : IsS G n (St.forIn s t x b) ↔ n ≠ 0 ∧ (nd G n).K = 9 ∧ IsNm G (nd G n).A [s, t] ∧ IsE G (nd G n).B x ∧ IsSL G (nd G n).C b := ⟨fun h => h.2, fun h => ⟨⟨rfl, rfl, rfl⟩, h⟩⟩
theorem IsS_ret0  : IsS G n St.ret0 ↔ n ≠ 0 ∧ (nd G n).K = 10 ∧ (nd G n).A = 0 ∧ (nd G n).B = 0 := ⟨fun h => h.2, fun h => ⟨⟨rfl, rfl, rfl, rfl, rfl⟩, h⟩⟩
theorem IsS_ret1 {a : Ex} : IsS G n (St.ret1 a) ↔ n ≠ 0 ∧ (nd G n).K = 10 ∧ IsE G (nd G n).A a ∧ (nd G n).B = 0 := ⟨fun h => h.2, fun h => ⟨⟨rfl, rfl, rfl, rfl, rfl⟩, h⟩⟩
theorem IsS_ret2 {a : Ex} {b : Ex} : IsS G n (St.ret2 a b) ↔ n ≠ 0 ∧ (nd G n).K = 10 ∧ IsE G (nd G n).A a ∧ IsE G (nd G n).B b := ⟨fun h => h.2, fun h => ⟨⟨rfl, rfl, rfl, rfl, rfl⟩, h⟩⟩
theorem IsS_brk  : IsS G n St.brk ↔ n ≠ 0 ∧ (nd G n).K = 11 := ⟨fun h => h.2, fun h => ⟨⟨rfl, rfl, rfl, rfl, rfl⟩, h⟩⟩
theorem IsSL_nil  : IsSL G n StL.nil ↔ n = 0 := ⟨fun h => h.2, fun h => ⟨⟨rfl, rfl, rfl, rfl, rfl⟩, h⟩⟩
theorem IsSL_cons {s : St} {l : StL} : IsSL G n (StL.cons s l) ↔ n ≠ 0 ∧ IsS G n s ∧ IsSL G (nd G n).Nx l := ⟨fun h => h.2, fun h => ⟨⟨rfl, rfl, rfl, rfl, rfl⟩, h⟩⟩
theorem IsE.inv : ∀ {tr : Tr}, IsE G n tr → (∃ k : Nat, tr = Ex.lit k) ∨ (∃ x : Nat, tr = Ex.num x) ∨ (∃ s : Str, tr = Ex.str s) ∨ (∃ s : Str, tr = Ex.name s) ∨ (∃ a : Ex, ∃ b : Ex, tr = Ex.index a b) ∨ (∃ f : Ex, ∃ zs : ExL, tr = Ex.call f zs) ∨ (∃ k : Nat, ∃ ps : List Str, ∃ b : StL, tr = Ex.func k ps b) ∨ (∃ zs : ExL, tr = Ex.table zs) ∨ (∃ op : Nat, ∃ a : Ex, ∃ b : Ex, tr = Ex.bin op a b) ∨ (∃ op : Nat, ∃ a : Ex, tr = Ex.un op a) ∨ (∃ a : Ex, ∃ b : Ex, tr = Ex.land a b) ∨ (∃ a : Ex, ∃ b : Ex, tr = Ex.lor a b)
  | ⟨c, k, s, t, ps, []⟩, h => by
    have h : Is0 G 0 c k s t ps n := h
    unfold Is0 at h
    by_cases hc : c = 0
    · rw [if_pos hc] at h; subst hc; obtain ⟨⟨-, rfl, rfl, rfl⟩, -⟩ := h; exact (.inl ⟨_, rfl⟩)
    rw [if_neg hc] at h; clear hc
    by_cases hc : c = 1
    · rw [if_pos hc] at h; subst hc; obtain ⟨⟨-, rfl, rfl, rfl⟩, -⟩ := h; exact (.inr (.inl ⟨_, rfl⟩))
    rw [if_neg hc] at h; clear hc
    by_cases hc : c = 2
    · rw [if_pos hc] at h; subst hc; obtain ⟨⟨-, rfl, rfl, rfl⟩, -⟩ := h; exact (.inr (.inr (.inl ⟨_, rfl⟩)))
    rw [if_neg hc] at h; clear hc
    by_cases hc : c = 3
    · rw [if_pos hc] at h; subst hc; obtain ⟨⟨-, rfl, rfl, rfl⟩, -⟩ := h; exact (.inr (.inr (.inr (.inl ⟨_, rfl⟩))))
    rw [if_neg hc] at h; clear hc
    by_cases hc : c = 12
    · rw [if_pos hc] at h; exact absurd h.1.1 (by decide)
    rw [if_neg hc] at h; clear hc
    by_cases hc : c = 14
    · rw [if_pos hc] at h; exact absurd h.1.1 (by decide)
    rw [if_neg hc] at h; clear hc
    by_cases hc : c = 26
    · rw [if_pos hc] at h; exact absurd h.1.1 (by decide)
    rw [if_neg hc] at h; clear hc
    by_cases hc : c = 29
    · rw [if_pos hc] at h; exact absurd h.1.1 (by decide)
    rw [if_neg hc] at h; clear hc
    by_cases hc : c = 30
    · rw [if_pos hc] at h; exact absurd h.1.1 (by decide)
    rw [if_neg hc] at h; clear hc
    exact h.elim
  | ⟨c, k, s, t, ps, [a]⟩, h => by
    have h : Is1 G 0 c k s t ps (fun m x => Is G m a x) n := h
    unfold Is1 at h
    by_cases hc : c = 6
    · rw [if_pos hc] at h; subst hc; obtain ⟨⟨-, rfl, rfl⟩, -⟩ := h; exact (.inr (.inr (.inr (.inr (.inr (.inr (.inl ⟨_, _, _, rfl⟩)))))))
    rw [if_neg hc] at h; clear hc
    by_cases hc : c = 7
    · rw [if_pos hc] at h; subst hc; obtain ⟨⟨-, rfl, rfl, rfl, rfl⟩, -⟩ := h; exact (.inr (.inr (.inr (.inr (.inr (.inr (.inr (.inl ⟨_, rfl⟩))))))))
    rw [if_neg hc] at h; clear hc
    by_cases hc : c = 9
    · rw [if_pos hc] at h; subst hc; obtain ⟨⟨-, rfl, rfl, rfl⟩, -⟩ := h; exact (.inr (.inr (.inr (.inr (.inr (.inr (.inr (.inr (.inr (.inl ⟨_, _, rfl⟩))))))))))
    rw [if_neg hc] at h; clear hc
    by_cases hc : c = 15
    · rw [if_pos hc] at h; exact absurd h.1.1 (by decide)
    rw [if_neg hc] at h; clear hc
    by_cases hc : c = 17
    · rw [if_pos hc] at h; exact absurd h.1.1 (by decide)
    rw [if_neg hc] at h; clear hc
    by_cases hc : c = 18
    · rw [if_pos hc] at h; exact absurd h.1.1 (by decide)
    rw [if_neg hc] at h; clear hc
    by_cases hc : c = 27
    · rw [if_pos hc] at h; exact absurd h.1.1 (by decide)
    rw [if_neg hc] at h; clear hc
    exact h.elim
  | ⟨c, k, s, t, ps, [a, b]⟩, h => by
    have h : Is2 G 0 c k s t ps (fun m x => Is G m a x) (fun m x => Is G m b x) n := h
    unfold Is2 at h
    by_cases hc : c = 4
    · rw [if_pos hc] at h; subst hc; obtain ⟨⟨-, rfl, rfl, rfl, rfl⟩, -⟩ := h; exact (.inr (.inr (.inr (.inr (.inl ⟨_, _, rfl⟩)))))
    rw [if_neg hc] at h; clear hc
    by_cases hc : c = 5
    · rw [if_pos hc] at h; subst hc; obtain ⟨⟨-, rfl, rfl, rfl, rfl⟩, -⟩ := h; exact (.inr (.inr (.inr (.inr (.inr (.inl ⟨_, _, rfl⟩))))))
    rw [if_neg hc] at h; clear hc
    by_cases hc : c = 8
    · rw [if_pos hc] at h; subst hc; obtain ⟨⟨-, rfl, rfl, rfl⟩, -⟩ := h; exact (.inr (.inr (.inr (.inr (.inr (.inr (.inr (.inr (.inl ⟨_, _, _, rfl⟩)))))))))
    rw [if_neg hc] at h; clear hc
    by_cases hc : c = 10
    · rw [if_pos hc] at h; subst hc; obtain ⟨⟨-, rfl, rfl, rfl, rfl⟩, -⟩ := h; exact (.inr (.inr (.inr (.inr (.inr (.inr (.inr (.inr (.inr (.inr (.inl ⟨_, _, rfl⟩)))))))))))
    rw [if_neg hc] at h; clear hc
    by_cases hc : c = 11
    · rw [if_pos hc] at h; subst hc; obtain ⟨⟨-, rfl, rfl, rfl, rfl⟩, -⟩ := h; exact (.inr (.inr (.inr (.inr (.inr (.inr (.inr (.inr (.inr (.inr (.inr ⟨_, _, rfl⟩)))))))))))
    rw [if_neg hc] at h; clear hc
    by_cases hc : c = 13
    · rw [if_pos hc] at h; exact absurd h.1.1 (by decide)
    rw [if_neg hc] at h; clear hc
    by_cases hc : c = 16
    · rw [if_pos hc] at h; exact absurd h.1.1 (by decide)
    rw [if_neg hc] at h; clear hc
    by_cases hc : c = 20
    · rw [if_pos hc] at h; exact absurd h.1.1 (by decide)
    rw [if_neg hc] at h; clear hc
    by_cases hc : c = 22
    · rw [if_pos hc] at h; exact absurd h.1.1 (by decide)
    rw [if_neg hc] at h; clear hc
    by_cases hc : c = 25
    · rw [if_pos hc] at h; exact absurd h.1.1 (by decide)
    rw [if_neg hc] at h; clear hc
    by_cases hc : c = 28
    · rw [if_pos hc] at h; exact absurd h.1.1 (by decide)
    rw [if_neg hc] at h; clear hc
    by_cases hc : c = 31
    · rw [if_pos hc] at h; exact absurd h.1.1 (by decide)
    rw [if_neg hc] at h; clear hc
    exact h.elim
  | ⟨c, k, s, t, ps, [a, b, d]⟩, h => by
    have h : Is3 G 0 c k s t ps (fun m x => Is G m a x) (fun m x => Is G m b x) (fun m x => Is G m d x) n := h
    unfold Is3 at h
    by_cases hc : c = 19
    · rw [if_pos hc] at h; exact absurd h.1.1 (by decide)
    rw [if_neg hc] at h; clear hc
    by_cases hc : c = 21
    · rw [if_pos hc] at h; exact absurd h.1.1 (by decide)
    rw [if_neg hc] at h; clear hc
    by_cases hc : c = 23
    · rw [if_pos hc] at h; exact absurd h.1.1 (by decide)
    rw [if_neg hc] at h; clear hc
    exact h.elim
  | ⟨c, k, s, t, ps, [a, b, d, e]⟩, h => by
    have h : Is4 G 0 c k s t ps (fun m x => Is G m a x) (fun m x => Is G m b x) (fun m x => Is G m d x) (fun m x => Is G m e x) n := h
    unfold Is4 at h
    by_cases hc : c = 24
    · rw [if_pos hc] at h; exact absurd h.1.1 (by decide)
    rw [if_neg hc] at h; clear hc
    exact h.elim
  | ⟨c, k, s, t, ps, _ :: _ :: _ :: _ :: _ :: _⟩, h => False.elim h
theorem IsEL.inv : ∀ {tr : Tr}, IsEL G n tr → (tr = ExL.nil) ∨ (∃ e : Ex, ∃ l : ExL, tr = ExL.cons e l)
  | ⟨c, k, s, t, ps, []⟩, h => by
    have h : Is0 G 1 c k s t ps n := h
    unfold Is0 at h
    by_cases hc : c = 0
    · rw [if_pos hc] at h; exact absurd h.1.1 (by decide)
    rw [if_neg hc] at h; clear hc
    by_cases hc : c = 1
    · rw [if_pos hc] at h; exact absurd h.1.1 (by decide)
    rw [if_neg hc] at h; clear hc
    by_cases hc : c = 2
    · rw [if_pos hc] at h; exact absurd h.1.1 (by decide)
    rw [if_neg hc] at h; clear hc
    by_cases hc : c = 3
    · rw [if_pos hc] at h; exact absurd h.1.1 (by decide)
    rw [if_neg hc] at h; clear hc
    by_cases hc : c = 12
    · rw [if_pos hc] at h; subst hc; obtain ⟨⟨-, rfl, rfl, rfl, rfl⟩, -⟩ := h; exact (.inl rfl)
    rw [if_neg hc] at h; clear hc
    by_cases hc : c = 14
    · rw [if_pos hc] at h; exact absurd h.1.1 (by decide)
    rw [if_neg hc] at h; clear hc
    by_cases hc : c = 26
    · rw [if_pos hc] at h; exact absurd h.1.1 (by decide)
    rw [if_neg hc] at h; clear hc
    by_cases hc : c = 29
    · rw [if_pos hc] at h; exact absurd h.1.1 (by decide)
    rw [if_neg hc] at h; clear hc
    by_cases hc : c = 30
    · rw [if_pos hc] at h; exact absurd h.1.1 (by decide)
    rw [if_neg hc] at h; clear hc
    exact h.elim
  | ⟨c, k, s, t, ps, [a]⟩, h => by
    have h : Is1 G 1 c k s t ps (fun m x => Is G m a x) n := h
    unfold Is1 at h
    by_cases hc : c = 6
    · rw [if_pos hc] at h; exact absurd h.1.1 (by decide)
    rw [if_neg hc] at h; clear hc
    by_cases hc : c = 7
    · rw [if_pos hc] at h; exact absurd h.1.1 (by decide)
    rw [if_neg hc] at h; clear hc
    by_cases hc : c = 9
    · rw [if_pos hc] at h; exact absurd h.1.1 (by decide)
    rw [if_neg hc] at h; clear hc
    by_cases hc : c = 15
    · rw [if_pos hc] at h; exact absurd h.1.1 (by decide)
    rw [if_neg hc] at h; clear hc
    by_cases hc : c = 17
    · rw [if_pos hc] at h; exact absurd h.1.1 (by decide)
    rw [if_neg hc] at h; clear hc
    by_cases hc : c = 18
    · rw [if_pos hc] at h; exact absurd h.1.1 (by decide)
    rw [if_neg hc] at h; clear hc
    by_cases hc : c = 27
    · rw [if_pos hc] at h; exact absurd h.1.1 (by decide)
    rw [if_neg hc] at h; clear hc
    exact h.elim
  | ⟨c, k, s, t, ps, [a, b]⟩, h => by
    have h : Is2 G 1 c k s t ps (fun m x => Is G m a x) (fun m x => Is G m b x) n := h
    unfold Is2 at h
    by_cases hc : c = 4
    · rw [if_pos hc] at h; exact absurd h.1.1 (by decide)
    rw [if_neg hc] at h; clear hc
    by_cases hc : c = 5
    · rw [if_pos hc] at h; exact absurd h.1.1 (by decide)
    rw [if_neg hc] at h; clear hc
    by_cases hc : c = 8
    · rw [if_pos hc] at h; exact absurd h.1.1 (by decide)
    rw [if_neg hc] at h; clear hc
    by_cases hc : c = 10
    · rw [if_pos hc] at h; exact absurd h.1.1 (by decide)
    rw [if_neg hc] at h; clear hc
    by_cases hc : c = 11
    · rw [if_pos hc] at h; exact absurd h.1.1 (by decide)
    rw [if_neg hc] at h; clear hc
    by_cases hc : c = 13
    · rw [if_pos hc] at h; subst hc; obtain ⟨⟨-, rfl, rfl, rfl, rfl⟩, -⟩ := h; exact (.inr ⟨_, _, rfl⟩)
    rw [if_neg hc] at h; clear hc
    by_cases hc : c = 16
    · rw [if_pos hc] at h; exact absurd h.1.1 (by decide)
    rw [if_neg hc] at h; clear hc
    by_cases hc : c = 20
    · rw [if_pos hc] at h; exact absurd h.1.1 (by decide)
    rw [if_neg hc] at h; clear hc
    by_cases hc : c = 22
    · rw [if_pos hc] at h; exact absurd h.1.1 (by decide)
    rw [if_neg hc] at h; clear hc
    by_cases hc : c = 25
    · rw [if_pos hc] at h; exact absurd h.1.1 (by decide)
    rw [if_neg hc] at h; clear hc
    by_cases hc : c = 28
    · rw [if_pos hc] at h; exact absurd h.1.1 (by decide)
    rw [if_neg hc] at h; clear hc
    by_cases hc : c = 31
    · rw [if_pos hc] at h; exact absurd h.1.1 (by decide)
    rw [if_neg hc] at h; clear hc
    exact h.elim
  | ⟨c, k, s, t, ps, [a, b, d]⟩, h => by
    have h : Is3 G 1 c k s t ps (fun m x => Is G m a x) (fun m x => Is G m b x) (fun m x => Is G m d x) n := h
    unfold Is3 at h
    by_cases hc : c = 19
    · rw [if_pos hc] at h; exact absurd h.1.1 (by decide)
    rw [if_neg hc] at h; clear hc
    by_cases hc : c = 21
    · rw [if_pos hc] at h; exact absurd h.1.1 (by decide)
    rw [if_neg hc] at h; clear hc
    by_cases hc : c = 23
    · rw [if_pos hc] at h; exact absurd h.1.1 (by decide)
    rw [if_neg hc] at h; clear hc
    exact h.elim
  | ⟨c, k, s, t, ps, [a, b, d, e]⟩, h => by
    have h : Is4 G 1 c k s t ps (fun m x => Is G m a x) (fun m x => Is G m b x) (fun m x => Is G m d x) (fun m x => Is G m e x) n := h
    unfold Is4 at h
    by_cases hc : c = 24
    · rw [if_pos hc] at h; exact absurd h.1.1 (by decide)
    rw [if_neg hc] at h; clear hc
    exact h.elim
  | ⟨c, k, s, t, ps, _ :: _ :: _ :: _ :: _ :: _⟩, h => False.elim h
theorem IsS.inv : ∀ {tr : Tr}, IsS G n tr → (∃ s : Str, tr = St.loc s) ∨ (∃ s : Str, ∃ v : Ex, tr = St.locV s v) ∨ (∃ s : Str, ∃ t : Str, ∃ f : Ex, ∃ zs : ExL, tr = St.loc2 s t f zs) ∨ (∃ s : Str, ∃ k : Nat, ∃ ps : List Str, ∃ b : StL, tr = St.locFn s k ps b) ∨ (∃ s : Str, ∃ v : Ex, tr = St.setN s v) ∨ (∃ a : Ex, ∃ k : Ex, ∃ v : Ex, tr = St.setI a k v) ∨ (∃ f : Ex, ∃ zs : ExL, tr = St.call f zs) ∨ (∃ c : Ex, ∃ t : StL, ∃ e : StL, tr = St.iff c t e) ∨ (∃ c : Ex, ∃ b : StL, tr = St.whl c b) ∨ (∃ s : Str, ∃ a : Ex, ∃ l : Ex, ∃ b : StL, tr = St.for2 s a l b) ∨ (∃ s : Str, ∃ a : Ex, ∃ l : Ex, ∃ p : Ex, ∃ b : StL, tr = St.for3 s a l p b) ∨ (∃ s : Str, ∃ t : Str, ∃ x : Ex, ∃ b : StL, tr = St.forIn s t x b) ∨ (tr = St.ret0) ∨ (∃ a : Ex, tr = St.ret1 a) ∨ (∃ a : Ex, ∃ b : Ex, tr = St.ret2 a b) ∨ (tr = St.brk)
  | ⟨c, k, s, t, ps, []⟩, h => by
    have h : Is0 G 2 c k s t ps n := h
    unfold Is0 at h
    by_cases hc : c = 0
    · rw [if_pos hc] at h; exact absurd h.1.1 (by decide)
    rw [if_neg hc] at h; clear hc
    by_cases hc : c = 1
    · rw [if_pos hc] at h; exact absurd h.1.1 (by decide)
    rw [if_neg hc] at h; clear hc
    by_cases hc : c = 2
    · rw [if_pos hc] at h; exact absurd h.1.1 (by decide)
    rw [if_neg hc] at h; clear hc
    by_cases hc : c = 3
    · rw [if_pos hc] at h; exact absurd h.1.1 (by decide)
    rw [if_neg hc] at h; clear hc
    by_cases hc : c = 12
    · rw [if_pos hc] at h; exact absurd h.1.1 (by decide)
    rw [if_neg hc] at h; clear hc
    by_cases hc : c = 14
    · rw [if_pos hc] at h; subst hc; obtain ⟨⟨-, rfl, rfl, rfl⟩, -⟩ := h; exact (.inl ⟨_, rfl⟩)
    rw [if_neg hc] at h; clear hc
    by_cases hc : c = 26
    · rw [if_pos hc] at h; subst hc; obtain ⟨⟨-, rfl, rfl, rfl, rfl⟩, -⟩ := h; exact (.inr (.inr (.inr (.inr (.inr (.inr (.inr (.inr (.inr (.inr (.inr (.inr (.inl rfl)))))))))))))
    rw [if_neg hc] at h; clear hc
    by_cases hc : c = 29
    · rw [if_pos hc] at h; subst hc; obtain ⟨⟨-, rfl, rfl, rfl, rfl⟩, -⟩ := h; exact (.inr (.inr (.inr (.inr (.inr (.inr (.inr (.inr (.inr (.inr (.inr (.inr (.inr (.inr (.inr rfl)))))))))))))))
    rw [if_neg hc] at h; clear hc
    by_cases hc : c = 30
    · rw [if_pos hc] at h; exact absurd h.1.1 (by decide)
    rw [if_neg hc] at h; clear hc
    exact h.elim
  | ⟨c, k, s, t, ps, [a]⟩, h => by
    have h : Is1 G 2 c k s t ps (fun m x => Is G m a x) n := h
    unfold Is1 at h
    by_cases hc : c = 6
    · rw [if_pos hc] at h; exact absurd h.1.1 (by decide)
    rw [if_neg hc] at h; clear hc
    by_cases hc : c = 7
    · rw [if_pos hc] at h; exact absurd h.1.1 (by decide)
    rw [if_neg hc] at h; clear hc
    by_cases hc : c = 9
    · rw [if_pos hc] at h; exact absurd h.1.1 (by decide)
    rw [if_neg hc] at h; clear hc
    by_cases hc : c = 15
    · rw [if_pos hc] at h; subst hc; obtain ⟨⟨-, rfl, rfl, rfl⟩, -⟩ := h; exact (.inr (.inl ⟨_, _, rfl⟩))
    rw [if_neg hc] at h; clear hc
    by_cases hc : c = 17
    · rw [if_pos hc] at h; subst hc; obtain ⟨⟨-, rfl⟩, -⟩ := h; exact (.inr (.inr (.inr (.inl ⟨_, _, _, _, rfl⟩))))
    rw [if_neg hc] at h; clear hc
    by_cases hc : c = 18
    · rw [if_pos hc] at h; subst hc; obtain ⟨⟨-, rfl, rfl, rfl⟩, -⟩ := h; exact (.inr (.inr (.inr (.inr (.inl ⟨_, _, rfl⟩)))))
    rw [if_neg hc] at h; clear hc
    by_cases hc : c = 27
    · rw [if_pos hc] at h; subst hc; obtain ⟨⟨-, rfl, rfl, rfl, rfl⟩, -⟩ := h; exact (.inr (.inr (.inr (.inr (.inr (.inr (.inr (.inr (.inr (.inr (.inr (.inr (.inr (.inl ⟨_, rfl⟩))))))))))))))
    rw [if_neg hc] at h; clear hc
    exact h.elim
  | ⟨c, k, s, t, ps, [a, b]⟩, h => by
    have h : Is2 G 2 c k s t ps (fun m x => Is G m a x) (fun m x => Is G m b x) n := h
    unfold Is2 at h
    by_cases hc : c = 4
    · rw [if_pos hc] at h; exact absurd h.1.1 (by decide)
    rw [if_neg hc] at h; clear hc
    by_cases hc : c = 5
    · rw [if_pos hc] at h; exact absurd h.1.1 (by decide)
    rw [if_neg hc] at h; clear hc
    by_cases hc : c = 8
    · rw [if_pos hc] at h; exact absurd h.1.1 (by decide)
    rw [if_neg hc] at h; clear hc
    by_cases hc : c = 10
    · rw [if_pos hc] at h; exact absurd h.1.1 (by decide)
    rw [if_neg hc] at h; clear hc
    by_cases hc : c = 11
    · rw [if_pos hc] at h; exact absurd h.1.1 (by decide)
    rw [if_neg hc] at h; clear hc
    by_cases hc : c = 13
    · rw [if_pos hc] at h; exact absurd h.1.1 (by decide)
    rw [if_neg hc] at h; clear hc
    by_cases hc : c = 16
    · rw [if_pos hc] at h; subst hc; obtain ⟨⟨-, rfl, rfl⟩, -⟩ := h; exact (.inr (.inr (.inl ⟨_, _, _, _, rfl⟩)))
    rw [if_neg hc] at h; clear hc
    by_cases hc : c = 20
    · rw [if_pos hc] at h; subst hc; obtain ⟨⟨-, rfl, rfl, rfl, rfl⟩, -⟩ := h; exact (.inr (.inr (.inr (.inr (.inr (.inr (.inl ⟨_, _, rfl⟩)))))))
    rw [if_neg hc] at h; clear hc
    by_cases hc : c = 22
    · rw [if_pos hc] at h; subst hc; obtain ⟨⟨-, rfl, rfl, rfl, rfl⟩, -⟩ := h; exact (.inr (.inr (.inr (.inr (.inr (.inr (.inr (.inr (.inl ⟨_, _, rfl⟩)))))))))
    rw [if_neg hc] at h; clear hc
    by_cases hc : c = 25
    · rw [if_pos hc] at h; subst hc; obtain ⟨⟨-, rfl, rfl⟩, -⟩ := h; exact (.inr (.inr (.inr (.inr (.inr (.inr (.inr (.inr (.inr (.inr (.inr (.inl ⟨_, _, _, _, rfl⟩))))))))))))
    rw [if_neg hc] at h; clear hc
    by_cases hc : c = 28
    · rw [if_pos hc] at h; subst hc; obtain ⟨⟨-, rfl, rfl, rfl, rfl⟩, -⟩ := h; exact (.inr (.inr (.inr (.inr (.inr (.inr (.inr (.inr (.inr (.inr (.inr (.inr (.inr (.inr (.inl ⟨_, _, rfl⟩)))))))))))))))
    rw [if_neg hc] at h; clear hc
    by_cases hc : c = 31
    · rw [if_pos hc] at h; exact absurd h.1.1 (by decide)
    rw [if_neg hc] at h; clear hc
    exact h.elim
  | ⟨c, k, s, t, ps, [a, b, d]⟩, h => by
    have h : Is3 G 2 c k s t ps (fun m x => Is G m a x) (fun m x => Is G m b x) (fun m x => Is G m d x) n := h
    unfold Is3 at h
    by_cases hc : c = 19
    · rw [if_pos hc] at h; subst hc; obtain ⟨⟨-, rfl, rfl, rfl, rfl⟩, -⟩ := h; exact (.inr (.inr (.inr (.inr (.inr (.inl ⟨_, _, _, rfl⟩))))))
    rw [if_neg hc] at h; clear hc
    by_cases hc : c = 21
    · rw [if_pos hc] at h; subst hc; obtain ⟨⟨-, rfl, rfl, rfl, rfl⟩, -⟩ := h; exact (.inr (.inr (.inr (.inr (.inr (.inr (.inr (.inl ⟨_, _, _, rfl⟩))))))))
    rw [if_neg hc] at h; clear hc
    by_cases hc : c = 23
    · rw [if_pos hc] at h; subst hc; obtain ⟨⟨-, rfl, rfl, rfl⟩, -⟩ := h; exact (.inr (.inr (.inr (.inr (.inr (.inr (.inr (.inr (.inr (.inl ⟨_, _, _, _, rfl⟩))))))))))
    rw [if_neg hc] at h; clear hc
    exact h.elim
  | ⟨c, k, s, t, ps, [a, b, d, e]⟩, h => by
    have h : Is4 G 2 c k s t ps (fun m x => Is G m a x) (fun m x => Is G m b x) (fun m x => Is G m d x) (fun m x => Is G m e x) n := h
    unfold Is4 at h
    by_cases hc : c = 24
    · rw [if_pos hc] at h; subst hc; obtain ⟨⟨-, rfl, rfl, rfl⟩, -⟩ := h; exact (.inr (.inr (.inr (.inr (.inr (.inr (.inr (.inr (.inr (.inr (.inl ⟨_, _, _, _, _, rfl⟩)))))))))))
    rw [if_neg hc] at h; clear hc
    exact h.elim
  | ⟨c, k, s, t, ps, _ :: _ :: _ :: _ :: _ :: _⟩, h => False.elim h
theorem IsSL.inv : ∀ {tr : Tr}, IsSL G n tr → (tr = StL.nil) ∨ (∃ s : St, ∃ l : StL, tr = StL.cons s l)
  | ⟨c, k, s, t, ps, []⟩, h => by
    have h : Is0 G 3 c k s t ps n := h
    unfold Is0 at h
    by_cases hc : c = 0
    · rw [if_pos hc] at h; exact absurd h.1.1 (by decide)
    rw [if_neg hc] at h; clear hc
    by_cases hc : c = 1
    · rw [if_pos hc] at h; exact absurd h.1.1 (by decide)
    rw [if_neg hc] at h; clear hc
    by_cases hc : c = 2
    · rw [if_pos hc] at h; exact absurd h.1.1 (by decide)
    rw [if_neg hc] at h; clear hc
    by_cases hc : c = 3
    · rw [if_pos hc] at h; exact absurd h.1.1 (by decide)
    rw [if_neg hc] at h; clear hc
    by_cases hc : c = 12
    · rw [if_pos hc] at h; exact absurd h.1.1 (by decide)
    rw [if_neg hc] at h; clear hc
    by_cases hc : c = 14
    · rw [if_pos hc] at h; exact absurd h.1.1 (by decide)
    rw [if_neg hc] at h; clear hc
    by_cases hc : c = 26
    · rw [if_pos hc] at h; exact absurd h.1.1 (by decide)
    rw [if_neg hc] at h; clear hc
    by_cases hc : c = 29
    · rw [if_pos hc] at h; exact absurd h.1.1 (by decide)
    rw [if_neg hc] at h; clear hc
    by_cases hc : c = 30
    · rw [if_pos hc] at h; subst hc; obtain ⟨⟨-, rfl, rfl, rfl, rfl⟩, -⟩ := h; exact (.inl rfl)
    rw [if_neg hc] at h; clear hc
    exact h.elim
  | ⟨c, k, s, t, ps, [a]⟩, h => by
    have h : Is1 G 3 c k s t ps (fun m x => Is G m a x) n := h
    unfold Is1 at h
    by_cases hc : c = 6
    · rw [if_pos hc] at h; exact absurd h.1.1 (by decide)
    rw [if_neg hc] at h; clear hc
    by_cases hc : c = 7
    · rw [if_pos hc] at h; exact absurd h.1.1 (by decide)
    rw [if_neg hc] at h; clear hc
    by_cases hc : c = 9
    · rw [if_pos hc] at h; exact absurd h.1.1 (by decide)
    rw [if_neg hc] at h; clear hc
    by_cases hc : c = 15
    · rw [if_pos hc] at h; exact absurd h.1.1 (by decide)
    rw [if_neg hc] at h; clear hc
    by_cases hc : c = 17
    · rw [if_pos hc] at h; exact absurd h.1.1 (by decide)
    rw [if_neg hc] at h; clear hc
    by_cases hc : c = 18
    · rw [if_pos hc] at h; exact absurd h.1.1 (by decide)
    rw [if_neg hc] at h; clear hc
    by_cases hc : c = 27
    · rw [if_pos hc] at h; exact absurd h.1.1 (by decide)
    rw [if_neg hc] at h; clear hc
    exact h.elim
  | ⟨c, k, s, t, ps, [a, b]⟩, h => by
    have h : Is2 G 3 c k s t ps (fun m x => Is G m a x) (fun m x => Is G m b x) n := h
    unfold Is2 at h
    by_cases hc : c = 4
    · rw [if_pos hc] at h; exact absurd h.1.1 (by decide)
    rw [if_neg hc] at h; clear hc
    by_cases hc : c = 5
    · rw [if_pos hc] at h; exact absurd h.1.1 (by decide)
    rw [if_neg hc] at h; clear hc
    by_cases hc : c = 8
    · rw [if_pos hc] at h; exact absurd h.1.1 (by decide)
    rw [if_neg hc] at h; clear hc
    by_cases hc : c = 10
    · rw [if_pos hc] at h; exact absurd h.1.1 (by decide)
    rw [if_neg hc] at h; clear hc
    by_cases hc : c = 11
    · rw [if_pos hc] at h; exact absurd h.1.1 (by decide)
    rw [if_neg hc] at h; clear hc
    by_cases hc : c = 13
    · rw [if_pos hc] at h; exact absurd h.1.1 (by decide)
    rw [if_neg hc] at h; clear hc
    by_cases hc : c = 16
    · rw [if_pos hc] at h; exact absurd h.1.1 (by decide)
    rw [if_neg hc] at h; clear hc
    by_cases hc : c = 20
    · rw [if_pos hc] at h; exact absurd h.1.1 (by decide)
    rw [if_neg hc] at h; clear hc
    by_cases hc : c = 22
    · rw [if_pos hc] at h; exact absurd h.1.1 (by decide)
    rw [if_neg hc] at h; clear hc
    by_cases hc : c = 25
    · rw [if_pos hc] at h; exact absurd h.1.1 (by decide)
    rw [if_neg hc] at h; clear hc
    by_cases hc : c = 28
    · rw [if_pos hc] at h; exact absurd h.1.1 (by decide)
    rw [if_neg hc] at h; clear hc
    by_cases hc : c = 31
    · rw [if_pos hc] at h; subst hc; obtain ⟨⟨-, rfl, rfl, rfl, rfl⟩, -⟩ := h; exact (.inr ⟨_, _, rfl⟩)
    rw [if_neg hc] at h; clear hc
    exact h.elim
  | ⟨c, k, s, t, ps, [a, b, d]⟩, h => by
    have h : Is3 G 3 c k s t ps (fun m x => Is G m a x) (fun m x => Is G m b x) (fun m x => Is G m d x) n := h
    unfold Is3 at h
    by_cases hc : c = 19
    · rw [if_pos hc] at h; exact absurd h.1.1 (by decide)
    rw [if_neg hc] at h; clear hc
    by_cases hc : c = 21
    · rw [if_pos hc] at h; exact absurd h.1.1 (by decide)
    rw [if_neg hc] at h; clear hc
    by_cases hc : c = 23
    · rw [if_pos hc] at h; exact absurd h.1.1 (by decide)
    rw [if_neg hc] at h; clear hc
    exact h.elim
  | ⟨c, k, s, t, ps, [a, b, d, e]⟩, h => by
    have h : Is4 G 3 c k s t ps (fun m x => Is G m a x) (fun m x => Is G m b x) (fun m x => Is G m d x) (fun m x => Is G m e x) n := h
    unfold Is4 at h
    by_cases hc : c = 24
    · rw [if_pos hc] at h; exact absurd h.1.1 (by decide)
    rw [if_neg hc] at h; clear hc
    exact h.elim
  | ⟨c, k, s, t, ps, _ :: _ :: _ :: _ :: _ :: _⟩, h => False.elim h
end

/-! what both machines share -/

structure Ans where
  E : Nat
  N : Nat
  M : Nat
  S : Str
  T : Str

def biName (b : Nat) : Str :=
  if b = 1 then [112, 114, 105, 110, 116] else if b = 2 then [116, 111, 115, 116, 114, 105, 110, 103] else if b = 3 then [116, 111, 110, 117, 109, 98, 101, 114]
  else if b = 4 then [116, 121, 112, 101] else if b = 5 then [101, 114, 114, 111, 114] else if b = 6 then [112, 99, 97, 108, 108] else if b = 7 then [110, 101, 120, 116]
  else if b = 8 then [99, 114, 101, 97, 116, 101] else if b = 9 then [114, 101, 115, 117, 109, 101] else if b = 10 then [121, 105, 101, 108, 100] else if b = 11 then [115, 116, 97, 116, 117, 115] else []
def stName (s : Nat) : Str :=
  if s = 1 ∨ s = 2 then [115, 117, 115, 112, 101, 110, 100, 101, 100] else if s = 3 then [110, 111, 114, 109, 97, 108] else if s = 4 then [114, 117, 110, 110, 105, 110, 103] else [100, 101, 97, 100]
def tyName (v : PV) : Str :=
  if v.T = 0 then [110, 105, 108] else if v.T = 1 then [98, 111, 111, 108, 101, 97, 110] else if v.T = 2 then [110, 117, 109, 98, 101, 114] else if v.T = 3 then [115, 116, 114, 105, 110, 103]
  else if v.T = 4 then [116, 97, 98, 108, 101] else if v.T = 7 then [116, 104, 114, 101, 97, 100] else [102, 117, 110, 99, 116, 105, 111, 110]
def txV (v : PV) : Str :=
  if v.T = 0 then [110, 105, 108] else if v.T = 1 then (if v.N ≠ 0 then [116, 114, 117, 101] else [102, 97, 108, 115, 101]) else if v.T = 2 then fmtN v.N else if v.T = 3 then v.S
  else if v.T = 6 then [98, 117, 105, 108, 116, 105, 110, 58] ++ biName v.N else tyName v ++ 58 :: dgT v.N
def shV (v : PV) : Str :=
  if v.T = 3 ∧ v.N = 0 then 115 :: dgT v.S.length ++ 58 :: v.S
  else if v.S = [] then 118 :: dgT v.T ++ 46 :: dgT v.N else 118 :: dgT v.T ++ 46 :: dgT v.N ++ 33 :: dgT v.S.length ++ 58 :: v.S

def mArith : Str := [97, 114, 105, 116, 104]
def mConcat : Str := [99, 111, 110, 99, 97, 116]
def mLong : Str := [108, 111, 110, 103]
def mCompare : Str := [99, 111, 109, 112, 97, 114, 101]
def mIndex : Str := [105, 110, 100, 101, 120]
def mKey : Str := [107, 101, 121]
def mCall : Str := [99, 97, 108, 108]
def mDepth : Str := [100, 101, 112, 116, 104]
def mLen : Str := [108, 101, 110]
def mFor : Str := [102, 111, 114]
def mNext : Str := [110, 101, 120, 116]
def mCo : Str := [99, 111]
def mYield : Str := [121, 105, 101, 108, 100]

/-- order of strings by bytes. -/
def ltS : Str → Str → Bool
  | _, [] => false
  | [], _ :: _ => true
  | a :: x, b :: y => if a < b then true else if a = b then ltS x y else false

/-- a <op> b; none: the error 'compare'. -/
def cmpV (op : Nat) (a b : PV) : Option Bool :=
  if a.T = 2 ∧ b.T = 2 then some (fCmp op a.N b.N)
  else if op = 1 then some (@decide (a = b) (PV.dec a b)) else if op = 2 then some (!@decide (a = b) (PV.dec a b))
  else if a.T = 3 ∧ b.T = 3 then
    some (if op = 3 then ltS a.S b.S else if op = 4 then !ltS b.S a.S else if op = 5 then ltS b.S a.S else !ltS a.S b.S)
  else none

/-- what an operator gives: a value, or the text of an error. -/
abbrev Res := Except Str PV
def binV (op : Nat) (a b : PV) : Res :=
  if op = 20 then
    if (a.T = 3 ∨ a.T = 2) ∧ (b.T = 3 ∨ b.T = 2) then (if 40 < (txV a).length + (txV b).length then .error mLong else .ok (vStr (txV a ++ txV b))) else .error mConcat
  else if 10 < op then (match cmpV (op - 10) a b with | some r => .ok (vBool r) | none => .error mCompare)
  else if a.T = 2 ∧ b.T = 2 then .ok (vNum (fAri op a.N b.N)) else .error mArith
def unV (ts : List Tb) (op : Nat) (a : PV) : Res :=
  if op = 2 then .ok (vBool (!trV a))
  else if op = 1 then (if a.T = 2 then .ok (vNum (fNeg a.N)) else .error mArith)
  else if a.T = 4 then .ok (vNum (fInt (tLen (ts.getD a.N [])))) else if a.T = 3 then .ok (vNum (fInt a.S.length)) else .error mLen

def glob : List Tb := [(List.range 11).map fun b => (vStr (biName (b + 1)), vBi (b + 1))]

end Go.Proofs.Qxb6500568aGreatDoor
