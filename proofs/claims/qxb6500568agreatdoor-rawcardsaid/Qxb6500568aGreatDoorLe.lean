import Derived.Test.Qxb6500568aGreatDoorLd
namespace Go.Proofs.Qxb6500568aGreatDoor
open Ieee
set_option linter.unusedVariables false
set_option linter.unusedSimpArgs false

/-! What compiled code is: for each piece of a tree, the code from a place to a place. -/

/-- The slots that bear a name, the newest first. -/
def visF : List Str → Nat → List (Str × Nat) → List (Str × Nat)
  | [], _, acc => acc
  | s :: l, i, acc => visF l (i + 1) (if s = [] then acc else (s, i) :: acc)
def vis (L : List Str) : List (Str × Nat) := visF L 0 []
def lookA (l : List (Str × Nat)) (nm : Str) : Option Nat := match l with
  | [] => none
  | p :: r => if p.1 = nm then some p.2 else lookA r nm
/-- the place of a name in a list of names. -/
def posN (l : List Str) (nm : Str) : Option Nat := match l with
  | [] => none
  | p :: r => if p = nm then some 0 else (posN r nm).map (· + 1)

/-- What is known of a function: the names around it, and for each upvalue its place among them. -/
structure FI where
  outer : List Str
  upos : List Nat

def aftS (L : List Str) (x : St) : List Str :=
  if x.c = 14 ∨ x.c = 15 ∨ x.c = 17 then L ++ [x.s] else if x.c = 16 then L ++ [x.s, x.t] else L
def lenE : ExL → Nat
  | ⟨c, _, _, _, _, [_, l]⟩ => if c = 13 then lenE l + 1 else 0
  | _ => 0
theorem lenE_nil : lenE .nil = 0 := rfl
theorem lenE_cons {e : Ex} {l : ExL} : lenE (.cons e l) = lenE l + 1 := rfl

/-- operands that a tree needs (md: 0 an expression, its value counted; 1 arguments: one stays behind the other; 2 items: each goes). -/
def dT : Nat → Tr → Nat
  | md, ⟨c, _, _, _, _, [a]⟩ => if c = 7 then 1 + dT 2 a else if c = 9 then dT 0 a else 1
  | md, ⟨c, _, _, _, _, [a, b]⟩ => if c = 4 then max (dT 0 a) (1 + dT 0 b) else if c = 5 then max 2 (max (dT 0 a) (1 + dT 1 b)) else if c = 8 then max (dT 0 a) (1 + dT 0 b)
    else if c = 10 then max (dT 0 a) (dT 0 b) else if c = 11 then max (dT 0 a) (dT 0 b) else if c = 13 then (if md = 1 then max (dT 0 a) (1 + dT 1 b) else max (dT 0 a) (dT 2 b)) else 1
  | md, ⟨c, _, _, _, _, _⟩ => if c = 12 ∧ md ≠ 0 then 0 else 1
def dE (e : Ex) : Nat := dT 0 e
def dA (l : ExL) : Nat := dT 1 l
def dI (l : ExL) : Nat := dT 2 l
theorem dE_lit {k : Nat} : dE (.lit k) = 1 := rfl
theorem dE_num {k : Nat} : dE (.num k) = 1 := rfl
theorem dE_str {s : Str} : dE (.str s) = 1 := rfl
theorem dE_name {s : Str} : dE (.name s) = 1 := rfl
theorem dE_index {a b : Ex} : dE (.index a b) = max (dE a) (1 + dE b) := rfl
theorem dE_call {f : Ex} {zs : ExL} : dE (.call f zs) = max 2 (max (dE f) (1 + dA zs)) := rfl
theorem dE_func {n : Nat} {ps : List Str} {b : StL} : dE (.func n ps b) = 1 := rfl
theorem dE_table {zs : ExL} : dE (.table zs) = 1 + dI zs := rfl
theorem dE_bin {op : Nat} {a b : Ex} : dE (.bin op a b) = max (dE a) (1 + dE b) := rfl
theorem dE_un {op : Nat} {a : Ex} : dE (.un op a) = dE a := rfl
theorem dE_land {a b : Ex} : dE (.land a b) = max (dE a) (dE b) := rfl
theorem dE_lor {a b : Ex} : dE (.lor a b) = max (dE a) (dE b) := rfl
theorem dA_nil : dA .nil = 0 := rfl
theorem dA_cons {e : Ex} {l : ExL} : dA (.cons e l) = max (dE e) (1 + dA l) := rfl
theorem dI_nil : dI .nil = 0 := rfl
theorem dI_cons {e : Ex} {l : ExL} : dI (.cons e l) = max (dE e) (dI l) := rfl

section
variable (Ps : List Proto) (Fs : Nat → FI)

def pr (j : Nat) : Proto := Ps.getD j Proto.zero
def cod (j pc : Nat) : Option (Nat × Nat) := (pr Ps j).code[pc]?
def con (j k : Nat) : Option PV := (pr Ps j).ks[k]?

/-- the one instruction of a variable. -/
def CV (j : Nat) (L : List Str) (nm : Str) (a l u g : Nat) : Prop :=
  match lookA (vis L) nm with
  | some s => cod Ps j a = some (l, s)
  | none => match posN (Fs j).outer nm with
    | some p => ∃ x, cod Ps j a = some (u, x) ∧ (Fs j).upos[x]? = some p
    | none => ∃ k, cod Ps j a = some (g, k) ∧ con Ps j k = some (vStr nm)

def binI (op : Nat) : Nat × Nat := if op = 20 then (17, 0) else if 10 < op then (16, op - 10) else (15, op)
def unI (op : Nat) : Nat × Nat := if op = 1 then (19, 0) else if op = 2 then (18, 0) else (20, 0)

/-- where the upvalues of a new function lie. -/
def UpOK (j : Nat) (L : List Str) (n : Nat) : Prop :=
  (pr Ps n).ups.length = (Fs n).upos.length ∧
  ∀ (u k x : Nat), (pr Ps n).ups[u]? = some (k, x) →
    (k = 1 ∧ ∃ (p : Nat) (nm : Str), (vis L)[p]? = some (nm, x) ∧ (Fs n).upos[u]? = some p) ∨
    (k = 0 ∧ ∃ p : Nat, (Fs j).upos[x]? = some p ∧ (Fs n).upos[u]? = some ((vis L).length + p))

/-- a function: its body's code in its own proto. -/
def CF (j : Nat) (L : List Str) (n : Nat) (ps : List Str) (body : Nat → Prop) : Prop :=
  (Fs n).outer = (vis L).map (·.1) ++ (Fs j).outer ∧ UpOK Ps Fs j L n ∧ n < Ps.length ∧ n ≠ 0 ∧ (pr Ps n).np = ps.length ∧ ps.length ≤ (pr Ps n).ns ∧ (∀ s ∈ ps, s ≠ []) ∧ ps.length ≤ 3 ∧
    ∃ z, body z ∧ cod Ps n z = some (2, 0) ∧ cod Ps n (z + 1) = some (2, 0) ∧ cod Ps n (z + 2) = some (27, 0) ∧ cod Ps n (z + 3) = none
/-- a numeric loop from the step's store on; 'body q': the body's code up to q. -/
def CL (j : Nat) (L : List Str) (r b : Nat) (body : Nat → Prop) : Prop :=
  cod Ps j r = some (6, L.length + 2) ∧ cod Ps j (r + 1) = some (30, L.length) ∧ cod Ps j (r + 2) = some (31, L.length) ∧ ∃ q, cod Ps j (r + 3) = some (22, q + 6) ∧ r + 3 < q + 6 ∧
      cod Ps j (r + 4) = some (5, L.length) ∧ cod Ps j (r + 5) = some (6, L.length + 3) ∧ body q ∧
      cod Ps j q = some (29, L.length + 3) ∧ cod Ps j (q + 1) = some (5, L.length) ∧ cod Ps j (q + 2) = some (5, L.length + 2) ∧ cod Ps j (q + 3) = some (15, 1) ∧ cod Ps j (q + 4) = some (6, L.length) ∧
      cod Ps j (q + 5) = some (21, r + 2) ∧ r + 2 ≤ q + 5 ∧ cod Ps j (q + 6) = some (29, L.length) ∧ b = q + 7

abbrev CP := Nat → Nat → List Str → List Str → List (Nat × Nat) → Nat → Nat → Nat → Prop
def C0 (c fk : Nat) (fs ft : Str) (fp : List Str)   (md j : Nat) (L0 L : List Str) (lc : List (Nat × Nat)) (i a b : Nat) : Prop :=
  if c = 0 then (cod Ps j a = some (fk - 10, 0) ∧ b = a + 1) else
  if c = 1 then ((∃ k, cod Ps j a = some (1, k) ∧ con Ps j k = some (vNum fk)) ∧ b = a + 1) else
  if c = 2 then ((∃ k, cod Ps j a = some (1, k) ∧ con Ps j k = some (vStr fs)) ∧ b = a + 1) else
  if c = 3 then (CV Ps Fs j L fs a 5 7 9 ∧ b = a + 1) else
  if c = 12 then (if md = 0 then b = a else b = a) else
  if c = 30 then ((if L0.length < L.length then cod Ps j a = some (29, L0.length) ∧ b = a + 1 else b = a)) else
  if c = 14 then (fs ≠ [] ∧ cod Ps j a = some (2, 0) ∧ cod Ps j (a + 1) = some (6, L.length) ∧ b = a + 2) else
  if c = 26 then (cod Ps j a = some (2, 0) ∧ cod Ps j (a + 1) = some (2, 0) ∧ cod Ps j (a + 2) = some (27, 0) ∧ b = a + 3) else
  if c = 29 then (∃ n x r, lc = (n, x) :: r ∧ (if n < L.length then cod Ps j a = some (29, n) ∧ cod Ps j (a + 1) = some (21, x) ∧ a + 1 < x ∧ b = a + 2 else cod Ps j a = some (21, x) ∧ a < x ∧ b = a + 1)) else
  False
def C1 (c fk : Nat) (fs ft : Str) (fp : List Str) (xa : Tr) (ka : CP) (md j : Nat) (L0 L : List Str) (lc : List (Nat × Nat)) (i a b : Nat) : Prop :=
  if c = 6 then (cod Ps j a = some (28, fk) ∧ b = a + 1 ∧ CF Ps Fs j L fk fp (fun z => ka 0 fk fp fp [] 0 0 z)) else
  if c = 7 then (cod Ps j a = some (14, 0) ∧ ka 1 j [] L [] 1 (a + 1) b) else
  if c = 9 then (∃ m, ka 0 j [] L [] 0 a m ∧ cod Ps j m = some (unI fk) ∧ b = m + 1 ∧ 1 ≤ fk ∧ fk ≤ 3) else
  if c = 15 then (fs ≠ [] ∧ dE xa ≤ 128 ∧ ∃ m, ka 0 j [] L [] 0 a m ∧ cod Ps j m = some (6, L.length) ∧ b = m + 1) else
  if c = 17 then (fs ≠ [] ∧ cod Ps j a = some (28, fk) ∧ CF Ps Fs j (L ++ [fs]) fk fp (fun z => ka 0 fk fp fp [] 0 0 z) ∧ cod Ps j (a + 1) = some (6, L.length) ∧ b = a + 2) else
  if c = 18 then (dE xa ≤ 128 ∧ ∃ m, ka 0 j [] L [] 0 a m ∧ CV Ps Fs j L fs m 6 8 10 ∧ b = m + 1) else
  if c = 27 then (dE xa ≤ 127 ∧ ∃ m, ka 0 j [] L [] 0 a m ∧ cod Ps j m = some (2, 0) ∧ cod Ps j (m + 1) = some (27, 0) ∧ b = m + 2) else
  False
def C2 (c fk : Nat) (fs ft : Str) (fp : List Str) (xa : Tr) (xb : Tr) (ka : CP) (kb : CP) (md j : Nat) (L0 L : List Str) (lc : List (Nat × Nat)) (i a b : Nat) : Prop :=
  if c = 4 then (∃ m p, ka 0 j [] L [] 0 a m ∧ kb 0 j [] L [] 0 m p ∧ cod Ps j p = some (11, 0) ∧ b = p + 1) else
  if c = 5 then (∃ m p, ka 0 j [] L [] 0 a m ∧ kb 0 j [] L [] 0 m p ∧ cod Ps j p = some (26, lenE xb) ∧ lenE xb ≤ 3 ∧ cod Ps j (p + 1) = some (25, 0) ∧ b = p + 2) else
  if c = 8 then (∃ m p, ka 0 j [] L [] 0 a m ∧ kb 0 j [] L [] 0 m p ∧ cod Ps j p = some (binI fk) ∧ b = p + 1 ∧ (fk = 20 ∨ (11 ≤ fk ∧ fk ≤ 16) ∨ (1 ≤ fk ∧ fk ≤ 6))) else
  if c = 10 then (∃ m, ka 0 j [] L [] 0 a m ∧ cod Ps j m = some (23, b) ∧ m < b ∧ kb 0 j [] L [] 0 (m + 1) b) else
  if c = 11 then (∃ m, ka 0 j [] L [] 0 a m ∧ cod Ps j m = some (24, b) ∧ m < b ∧ kb 0 j [] L [] 0 (m + 1) b) else
  if c = 13 then (if md = 0 then ∃ m, ka 0 j [] L [] 0 a m ∧ kb 0 j [] L [] 0 m b else ∃ m, ka 0 j [] L [] 0 a m ∧ cod Ps j m = some (13, i) ∧ kb 1 j [] L [] (i + 1) (m + 1) b) else
  if c = 31 then ((aftS L xa).length ≤ (pr Ps j).ns ∧ ∃ m, ka 0 j [] L lc 0 a m ∧ kb 0 j L0 (aftS L xa) lc 0 m b) else
  if c = 16 then (fs ≠ [] ∧ ft ≠ [] ∧ max 2 (max (dE xa) (1 + dA xb)) ≤ 128 ∧ ∃ m p, ka 0 j [] L [] 0 a m ∧ kb 0 j [] L [] 0 m p ∧ cod Ps j p = some (26, lenE xb) ∧ lenE xb ≤ 3 ∧ cod Ps j (p + 1) = some (6, L.length + 1) ∧ cod Ps j (p + 2) = some (6, L.length) ∧ b = p + 3) else
  if c = 20 then (max 2 (max (dE xa) (1 + dA xb)) ≤ 128 ∧ ∃ m p, ka 0 j [] L [] 0 a m ∧ kb 0 j [] L [] 0 m p ∧ cod Ps j p = some (26, lenE xb) ∧ lenE xb ≤ 3 ∧ cod Ps j (p + 1) = some (25, 0) ∧ cod Ps j (p + 2) = some (25, 0) ∧ b = p + 3) else
  if c = 22 then (dE xa ≤ 128 ∧ ∃ m p, ka 0 j [] L [] 0 a m ∧ cod Ps j m = some (22, b) ∧ m < b ∧ kb 0 j L L ((L.length, b) :: lc) 0 (m + 1) p ∧ cod Ps j p = some (21, a) ∧ a ≤ p ∧ b = p + 1) else
  if c = 25 then (fs ≠ [] ∧ ft ≠ [] ∧ dE xa ≤ 128 ∧ L.length + 4 ≤ (pr Ps j).ns ∧ ∃ m q, ka 0 j [] L [] 0 a m ∧ cod Ps j m = some (6, L.length) ∧ cod Ps j (m + 1) = some (2, 0) ∧ cod Ps j (m + 2) = some (6, L.length + 1) ∧ cod Ps j (m + 3) = some (32, L.length) ∧ cod Ps j (m + 4) = some (22, q + 2) ∧ m + 4 < q + 2 ∧ kb 0 j (L ++ [[], [], fs, ft]) (L ++ [[], [], fs, ft]) ((L.length, q + 2) :: lc) 0 (m + 5) q ∧ cod Ps j q = some (29, L.length + 2) ∧ cod Ps j (q + 1) = some (21, m + 3) ∧ m + 3 ≤ q + 1 ∧ cod Ps j (q + 2) = some (29, L.length) ∧ b = q + 3) else
  if c = 28 then (dE xa ≤ 128 ∧ 1 + dE xb ≤ 128 ∧ ∃ m p, ka 0 j [] L [] 0 a m ∧ kb 0 j [] L [] 0 m p ∧ cod Ps j p = some (27, 0) ∧ b = p + 1) else
  False
def C3 (c fk : Nat) (fs ft : Str) (fp : List Str) (xa : Tr) (xb : Tr) (xd : Tr) (ka : CP) (kb : CP) (kd : CP) (md j : Nat) (L0 L : List Str) (lc : List (Nat × Nat)) (i a b : Nat) : Prop :=
  if c = 19 then (dE xa ≤ 128 ∧ 1 + dE xb ≤ 128 ∧ 2 + dE xd ≤ 128 ∧ ∃ m p q, ka 0 j [] L [] 0 a m ∧ kb 0 j [] L [] 0 m p ∧ kd 0 j [] L [] 0 p q ∧ cod Ps j q = some (12, 0) ∧ b = q + 1) else
  if c = 21 then (dE xa ≤ 128 ∧ ∃ m p, ka 0 j [] L [] 0 a m ∧ cod Ps j m = some (22, p + 1) ∧ m < p + 1 ∧ kb 0 j L L lc 0 (m + 1) p ∧ cod Ps j p = some (21, b) ∧ p < b ∧ kd 0 j L L lc 0 (p + 1) b) else
  if c = 23 then (fs ≠ [] ∧ dE xa ≤ 128 ∧ dE xb ≤ 128 ∧ L.length + 4 ≤ (pr Ps j).ns ∧ ∃ m p, ka 0 j [] L [] 0 a m ∧ cod Ps j m = some (6, L.length) ∧ kb 0 j [] (L ++ [[]]) [] 0 (m + 1) p ∧ cod Ps j p = some (6, L.length + 1) ∧ (∃ k, cod Ps j (p + 1) = some (1, k) ∧ con Ps j k = some (vNum (fInt 1))) ∧ CL Ps j L (p + 2) b (fun q => kd 0 j (L ++ [[], [], [], fs]) (L ++ [[], [], [], fs]) ((L.length, q + 6) :: lc) 0 ((p + 2) + 6) q)) else
  False
def C4 (c fk : Nat) (fs ft : Str) (fp : List Str) (xa : Tr) (xb : Tr) (xd : Tr) (xe : Tr) (ka : CP) (kb : CP) (kd : CP) (ke : CP) (md j : Nat) (L0 L : List Str) (lc : List (Nat × Nat)) (i a b : Nat) : Prop :=
  if c = 24 then (fs ≠ [] ∧ dE xa ≤ 128 ∧ dE xb ≤ 128 ∧ dE xd ≤ 128 ∧ L.length + 4 ≤ (pr Ps j).ns ∧ ∃ m p r, ka 0 j [] L [] 0 a m ∧ cod Ps j m = some (6, L.length) ∧ kb 0 j [] (L ++ [[]]) [] 0 (m + 1) p ∧ cod Ps j p = some (6, L.length + 1) ∧ kd 0 j [] (L ++ [[], []]) [] 0 (p + 1) r ∧ CL Ps j L r b (fun q => ke 0 j (L ++ [[], [], [], fs]) (L ++ [[], [], [], fs]) ((L.length, q + 6) :: lc) 0 (r + 6) q)) else
  False
def C : Tr → CP
  | ⟨c, fk, fs, ft, fp, []⟩ => fun md j L0 L lc i a b => C0 Ps Fs c fk fs ft fp   md j L0 L lc i a b
  | ⟨c, fk, fs, ft, fp, [x]⟩ => fun md j L0 L lc i a b => C1 Ps Fs c fk fs ft fp x (fun m j L0 L lc i a b => C x m j L0 L lc i a b) md j L0 L lc i a b
  | ⟨c, fk, fs, ft, fp, [x, y]⟩ => fun md j L0 L lc i a b => C2 Ps c fk fs ft fp x y (fun m j L0 L lc i a b => C x m j L0 L lc i a b) (fun m j L0 L lc i a b => C y m j L0 L lc i a b) md j L0 L lc i a b
  | ⟨c, fk, fs, ft, fp, [x, y, z]⟩ => fun md j L0 L lc i a b => C3 Ps c fk fs ft fp x y z (fun m j L0 L lc i a b => C x m j L0 L lc i a b) (fun m j L0 L lc i a b => C y m j L0 L lc i a b) (fun m j L0 L lc i a b => C z m j L0 L lc i a b) md j L0 L lc i a b
  | ⟨c, fk, fs, ft, fp, [x, y, z, w]⟩ => fun md j L0 L lc i a b => C4 Ps c fk fs ft fp x y z w (fun m j L0 L lc i a b => C x m j L0 L lc i a b) (fun m j L0 L lc i a b => C y m j L0 L lc i a b) (fun m j L0 L lc i a b => C z m j L0 L lc i a b) (fun m j L0 L lc i a b => C w m j L0 L lc i a b) md j L0 L lc i a b
  | _ => fun _ _ _ _ _ _ _ _ => False
def CE (j : Nat) (L : List Str) (e : Ex) (a b : Nat) : Prop := C Ps Fs e 0 j [] L [] 0 a b
def CA (j : Nat) (L : List Str) (l : ExL) (a b : Nat) : Prop := C Ps Fs l 0 j [] L [] 0 a b
def CI (j : Nat) (L : List Str) (l : ExL) (i a b : Nat) : Prop := C Ps Fs l 1 j [] L [] i a b
/-- statements from the scope L on, in a block that began in the scope L0. -/
def CB (j : Nat) (L0 L : List Str) (lc : List (Nat × Nat)) (l : StL) (a b : Nat) : Prop := C Ps Fs l 0 j L0 L lc 0 a b
def CS (j : Nat) (L : List Str) (lc : List (Nat × Nat)) (s : St) (a b : Nat) : Prop := C Ps Fs s 0 j [] L lc 0 a b
end

section
variable {Ps : List Proto} {Fs : Nat → FI} {j : Nat} {L0 L : List Str} {lc : List (Nat × Nat)} {i a b : Nat}
theorem CE_lit {k : Nat} : CE Ps Fs j L (Ex.lit k) a b ↔ (cod Ps j a = some (k - 10, 0) ∧ b = a + 1) := Iff.rfl
theorem CE_num {x : Nat} : CE Ps Fs j L (Ex.num x) a b ↔ ((∃ k, cod Ps j a = some (1, k) ∧ con Ps j k = some (vNum x)) ∧ b = a + 1) := Iff.rfl
theorem CE_str {s : Str} : CE Ps Fs j L (Ex.str s) a b ↔ ((∃ k, cod Ps j a = some (1, k) ∧ con Ps j k = some (vStr s)) ∧ b = a + 1) := Iff.rfl
theorem CE_name {s : Str} : CE Ps Fs j L (Ex.name s) a b ↔ (CV Ps Fs j L s a 5 7 9 ∧ b = a + 1) := Iff.rfl
theorem CE_index {x : Ex} {k : Ex} : CE Ps Fs j L (Ex.index x k) a b ↔ (∃ m p, CE Ps Fs j L x a m ∧ CE Ps Fs j L k m p ∧ cod Ps j p = some (11, 0) ∧ b = p + 1) := Iff.rfl
theorem CE_call {f : Ex} {zs : ExL} : CE Ps Fs j L (Ex.call f zs) a b ↔ (∃ m p, CE Ps Fs j L f a m ∧ CA Ps Fs j L zs m p ∧ cod Ps j p = some (26, lenE zs) ∧ lenE zs ≤ 3 ∧ cod Ps j (p + 1) = some (25, 0) ∧ b = p + 2) := Iff.rfl
theorem CE_func {n : Nat} {ps : List Str} {bd : StL} : CE Ps Fs j L (Ex.func n ps bd) a b ↔ (cod Ps j a = some (28, n) ∧ b = a + 1 ∧ CF Ps Fs j L n ps (fun z => CB Ps Fs n ps ps [] bd 0 z)) := Iff.rfl
theorem CE_table {zs : ExL} : CE Ps Fs j L (Ex.table zs) a b ↔ (cod Ps j a = some (14, 0) ∧ CI Ps Fs j L zs 1 (a + 1) b) := Iff.rfl
theorem CE_bin {op : Nat} {x : Ex} {y : Ex} : CE Ps Fs j L (Ex.bin op x y) a b ↔ (∃ m p, CE Ps Fs j L x a m ∧ CE Ps Fs j L y m p ∧ cod Ps j p = some (binI op) ∧ b = p + 1 ∧ (op = 20 ∨ (11 ≤ op ∧ op ≤ 16) ∨ (1 ≤ op ∧ op ≤ 6))) := Iff.rfl
theorem CE_un {op : Nat} {x : Ex} : CE Ps Fs j L (Ex.un op x) a b ↔ (∃ m, CE Ps Fs j L x a m ∧ cod Ps j m = some (unI op) ∧ b = m + 1 ∧ 1 ≤ op ∧ op ≤ 3) := Iff.rfl
theorem CE_land {x : Ex} {y : Ex} : CE Ps Fs j L (Ex.land x y) a b ↔ (∃ m, CE Ps Fs j L x a m ∧ cod Ps j m = some (23, b) ∧ m < b ∧ CE Ps Fs j L y (m + 1) b) := Iff.rfl
theorem CE_lor {x : Ex} {y : Ex} : CE Ps Fs j L (Ex.lor x y) a b ↔ (∃ m, CE Ps Fs j L x a m ∧ cod Ps j m = some (24, b) ∧ m < b ∧ CE Ps Fs j L y (m + 1) b) := Iff.rfl
theorem CA_nil  : CA Ps Fs j L ExL.nil a b ↔ (b = a) := Iff.rfl
theorem CA_cons {e : Ex} {l : ExL} : CA Ps Fs j L (ExL.cons e l) a b ↔ (∃ m, CE Ps Fs j L e a m ∧ CA Ps Fs j L l m b) := Iff.rfl
theorem CI_nil  : CI Ps Fs j L ExL.nil i a b ↔ (b = a) := Iff.rfl
theorem CI_cons {e : Ex} {l : ExL} : CI Ps Fs j L (ExL.cons e l) i a b ↔ (∃ m, CE Ps Fs j L e a m ∧ cod Ps j m = some (13, i) ∧ CI Ps Fs j L l (i + 1) (m + 1) b) := Iff.rfl
theorem CB_nil  : CB Ps Fs j L0 L lc StL.nil a b ↔ ((if L0.length < L.length then cod Ps j a = some (29, L0.length) ∧ b = a + 1 else b = a)) := Iff.rfl
theorem CB_cons {s : St} {l : StL} : CB Ps Fs j L0 L lc (StL.cons s l) a b ↔ ((aftS L s).length ≤ (pr Ps j).ns ∧ ∃ m, CS Ps Fs j L lc s a m ∧ CB Ps Fs j L0 (aftS L s) lc l m b) := Iff.rfl
theorem CS_loc {s : Str} : CS Ps Fs j L lc (St.loc s) a b ↔ (s ≠ [] ∧ cod Ps j a = some (2, 0) ∧ cod Ps j (a + 1) = some (6, L.length) ∧ b = a + 2) := Iff.rfl
theorem CS_locV {s : Str} {v : Ex} : CS Ps Fs j L lc (St.locV s v) a b ↔ (s ≠ [] ∧ dE v ≤ 128 ∧ ∃ m, CE Ps Fs j L v a m ∧ cod Ps j m = some (6, L.length) ∧ b = m + 1) := Iff.rfl
theorem CS_loc2 {s : Str} {t : Str} {f : Ex} {zs : ExL} : CS Ps Fs j L lc (St.loc2 s t f zs) a b ↔ (s ≠ [] ∧ t ≠ [] ∧ max 2 (max (dE f) (1 + dA zs)) ≤ 128 ∧ ∃ m p, CE Ps Fs j L f a m ∧ CA Ps Fs j L zs m p ∧ cod Ps j p = some (26, lenE zs) ∧ lenE zs ≤ 3 ∧ cod Ps j (p + 1) = some (6, L.length + 1) ∧ cod Ps j (p + 2) = some (6, L.length) ∧ b = p + 3) := Iff.rfl
theorem CS_locFn {s : Str} {n : Nat} {ps : List Str} {bd : StL} : CS Ps Fs j L lc (St.locFn s n ps bd) a b ↔ (s ≠ [] ∧ cod Ps j a = some (28, n) ∧ CF Ps Fs j (L ++ [s]) n ps (fun z => CB Ps Fs n ps ps [] bd 0 z) ∧ cod Ps j (a + 1) = some (6, L.length) ∧ b = a + 2) := Iff.rfl
theorem CS_setN {s : Str} {v : Ex} : CS Ps Fs j L lc (St.setN s v) a b ↔ (dE v ≤ 128 ∧ ∃ m, CE Ps Fs j L v a m ∧ CV Ps Fs j L s m 6 8 10 ∧ b = m + 1) := Iff.rfl
theorem CS_setI {x : Ex} {k : Ex} {v : Ex} : CS Ps Fs j L lc (St.setI x k v) a b ↔ (dE x ≤ 128 ∧ 1 + dE k ≤ 128 ∧ 2 + dE v ≤ 128 ∧ ∃ m p q, CE Ps Fs j L x a m ∧ CE Ps Fs j L k m p ∧ CE Ps Fs j L v p q ∧ cod Ps j q = some (12, 0) ∧ b = q + 1) := Iff.rfl
theorem CS_call {f : Ex} {zs : ExL} : CS Ps Fs j L lc (St.call f zs) a b ↔ (max 2 (max (dE f) (1 + dA zs)) ≤ 128 ∧ ∃ m p, CE Ps Fs j L f a m ∧ CA Ps Fs j L zs m p ∧ cod Ps j p = some (26, lenE zs) ∧ lenE zs ≤ 3 ∧ cod Ps j (p + 1) = some (25, 0) ∧ cod Ps j (p + 2) = some (25, 0) ∧ b = p + 3) := Iff.rfl
theorem CS_iff {c : Ex} {t : StL} {e : StL} : CS Ps Fs j L lc (St.iff c t e) a b ↔ (dE c ≤ 128 ∧ ∃ m p, CE Ps Fs j L c a m ∧ cod Ps j m = some (22, p + 1) ∧ m < p + 1 ∧ CB Ps Fs j L L lc t (m + 1) p ∧ cod Ps j p = some (21, b) ∧ p < b ∧ CB Ps Fs j L L lc e (p + 1) b) := Iff.rfl
theorem CS_whl {c : Ex} {bd : StL} : CS Ps Fs j L lc (St.whl c bd) a b ↔ (dE c ≤ 128 ∧ ∃ m p, CE Ps Fs j L c a m ∧ cod Ps j m = some (22, b) ∧ m < b ∧ CB Ps Fs j L L ((L.length, b) :: lc) bd (m + 1) p ∧ cod Ps j p = some (21, a) ∧ a ≤ p ∧ b = p + 1) := Iff.rfl
theorem CS_for2 {s : Str} {f : Ex} {l : Ex} {bd : StL} : CS Ps Fs j L lc (St.for2 s f l bd) a b ↔ (s ≠ [] ∧ dE f ≤ 128 ∧ dE l ≤ 128 ∧ L.length + 4 ≤ (pr Ps j).ns ∧ ∃ m p, CE Ps Fs j L f a m ∧ cod Ps j m = some (6, L.length) ∧ CE Ps Fs j (L ++ [[]]) l (m + 1) p ∧ cod Ps j p = some (6, L.length + 1) ∧ (∃ k, cod Ps j (p + 1) = some (1, k) ∧ con Ps j k = some (vNum (fInt 1))) ∧ CL Ps j L (p + 2) b (fun q => CB Ps Fs j (L ++ [[], [], [], s]) (L ++ [[], [], [], s]) ((L.length, q + 6) :: lc) bd ((p + 2) + 6) q)) := Iff.rfl
theorem CS_for3 {s : Str} {f : Ex} {l : Ex} {q : Ex} {bd : StL} : CS Ps Fs j L lc (St.for3 s f l q bd) a b ↔ (s ≠ [] ∧ dE f ≤ 128 ∧ dE l ≤ 128 ∧ dE q ≤ 128 ∧ L.length + 4 ≤ (pr Ps j).ns ∧ ∃ m p r, CE Ps Fs j L f a m ∧ cod Ps j m = some (6, L.length) ∧ CE Ps Fs j (L ++ [[]]) l (m + 1) p ∧ cod Ps j p = some (6, L.length + 1) ∧ CE Ps Fs j (L ++ [[], []]) q (p + 1) r ∧ CL Ps j L r b (fun q => CB Ps Fs j (L ++ [[], [], [], s]) (L ++ [[], [], [], s]) ((L.length, q + 6) :: lc) bd (r + 6) q)) := Iff.rfl
theorem CS_forIn {s : Str} {t : Str} {x : Ex} {bd : StL} : CS Ps Fs j L lc (St.forIn s t x bd) a b ↔ (s ≠ [] ∧ t ≠ [] ∧ dE x ≤ 128 ∧ L.length + 4 ≤ (pr Ps j).ns ∧ ∃ m q, CE Ps Fs j L x a m ∧ cod Ps j m = some (6, L.length) ∧ cod Ps j (m + 1) = some (2, 0) ∧ cod Ps j (m + 2) = some (6, L.length + 1) ∧ cod Ps j (m + 3) = some (32, L.length) ∧ cod Ps j (m + 4) = some (22, q + 2) ∧ m + 4 < q + 2 ∧ CB Ps Fs j (L ++ [[], [], s, t]) (L ++ [[], [], s, t]) ((L.length, q + 2) :: lc) bd (m + 5) q ∧ cod Ps j q = some (29, L.length + 2) ∧ cod Ps j (q + 1) = some (21, m + 3) ∧ m + 3 ≤ q + 1 ∧ cod Ps j (q + 2) = some (29, L.length) ∧ b = q + 3) := Iff.rfl
theorem CS_ret0  : CS Ps Fs j L lc St.ret0 a b ↔ (cod Ps j a = some (2, 0) ∧ cod Ps j (a + 1) = some (2, 0) ∧ cod Ps j (a + 2) = some (27, 0) ∧ b = a + 3) := Iff.rfl
theorem CS_ret1 {v : Ex} : CS Ps Fs j L lc (St.ret1 v) a b ↔ (dE v ≤ 127 ∧ ∃ m, CE Ps Fs j L v a m ∧ cod Ps j m = some (2, 0) ∧ cod Ps j (m + 1) = some (27, 0) ∧ b = m + 2) := Iff.rfl
theorem CS_ret2 {v : Ex} {u : Ex} : CS Ps Fs j L lc (St.ret2 v u) a b ↔ (dE v ≤ 128 ∧ 1 + dE u ≤ 128 ∧ ∃ m p, CE Ps Fs j L v a m ∧ CE Ps Fs j L u m p ∧ cod Ps j p = some (27, 0) ∧ b = p + 1) := Iff.rfl
theorem CS_brk  : CS Ps Fs j L lc St.brk a b ↔ (∃ n x r, lc = (n, x) :: r ∧ (if n < L.length then cod Ps j a = some (29, n) ∧ cod Ps j (a + 1) = some (21, x) ∧ a + 1 < x ∧ b = a + 2 else cod Ps j a = some (21, x) ∧ a < x ∧ b = a + 1)) := Iff.rfl
theorem aftS_loc {s : Str} : aftS L (.loc s) = L ++ [s] := rfl
theorem aftS_locV {s : Str} {v : Ex} : aftS L (.locV s v) = L ++ [s] := rfl
theorem aftS_loc2 {s t : Str} {f : Ex} {zs : ExL} : aftS L (.loc2 s t f zs) = L ++ [s, t] := rfl
theorem aftS_locFn {s : Str} {n : Nat} {ps : List Str} {bd : StL} : aftS L (.locFn s n ps bd) = L ++ [s] := rfl
end

end Go.Proofs.Qxb6500568aGreatDoor
