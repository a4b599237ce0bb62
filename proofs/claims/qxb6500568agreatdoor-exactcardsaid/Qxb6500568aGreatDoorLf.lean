import Derived.Test.Qxb6500568aGreatDoorLe
namespace Go.Proofs.Qxb6500568aGreatDoor
open Ieee
set_option linter.unusedVariables false
set_option linter.unusedSimpArgs false

/-! The tasks of a frame against a place of its code. -/

/-- the scope that a list of locals means in a frame: names and variables. -/
def Dy (sl : List Nat) (od : List (Str × Nat)) (L : List Str) : List (Str × Nat) := (vis L).map (fun p => (p.1, sl.getD p.2 0)) ++ od

/-- hidden slots are hidden. -/
def hk (k : Nat) : Nat := if k = 1 then 3 else if k = 0 then 2 else 0
def HidOK (L : List Str) (hid : List Nat) (fl : List (Nat × Nat)) : Prop :=
  (∀ s ∈ hid, L[s]? = some []) ∧ ∀ p ∈ fl, ∀ k, k < hk p.2 → L[p.1 + k]? = some []
/-- operands of which something is known lie below m. -/
def OpLt (m : Nat) (fl : List (Nat × Nat)) : Prop := ∀ p ∈ fl, p.2 = 2 → p.1 < m

/-- a while loop's code and tree. -/
structure WhD (G : Arena) (Ps : List Proto) (Fs : Nat → FI) (j n : Nat) (c : Ex) (bd : StL) (L : List Str) (lc : List (Nat × Nat)) (top m p : Nat) : Prop where
  hc : IsE G (nd G n).A c
  hbd : IsSL G (nd G n).B bd
  d : dE c ≤ 128
  ce : CE Ps Fs j L c top m
  i1 : cod Ps j m = some (22, p + 1)
  l1 : m < p + 1
  cb : CB Ps Fs j L L ((L.length, p + 1) :: lc) bd (m + 1) p
  i2 : cod Ps j p = some (21, top)
  l2 : top ≤ p
/-- a numeric loop's code and tree; r: the place of the step's store. -/
structure FoD (G : Arena) (Ps : List Proto) (Fs : Nat → FI) (j n : Nat) (bd : StL) (L : List Str) (lc : List (Nat × Nat)) (r q : Nat) : Prop where
  hs : (nd G n).S ≠ []
  hbd : IsSL G (nd G n).B bd
  ns : L.length + 4 ≤ (pr Ps j).ns
  i1 : cod Ps j (r + 1) = some (30, L.length)
  i2 : cod Ps j (r + 2) = some (31, L.length)
  i3 : cod Ps j (r + 3) = some (22, q + 6)
  l3 : r + 3 < q + 6
  i4 : cod Ps j (r + 4) = some (5, L.length)
  i5 : cod Ps j (r + 5) = some (6, L.length + 3)
  cb : CB Ps Fs j (L ++ [[], [], [], (nd G n).S]) (L ++ [[], [], [], (nd G n).S]) ((L.length, q + 6) :: lc) bd (r + 6) q
  j0 : cod Ps j q = some (29, L.length + 3)
  j1 : cod Ps j (q + 1) = some (5, L.length)
  j2 : cod Ps j (q + 2) = some (5, L.length + 2)
  j3 : cod Ps j (q + 3) = some (15, 1)
  j4 : cod Ps j (q + 4) = some (6, L.length)
  j5 : cod Ps j (q + 5) = some (21, r + 2)
  l5 : r + 2 ≤ q + 5
  j6 : cod Ps j (q + 6) = some (29, L.length)
/-- a loop over a table; m: the place of the table's store. -/
structure InD (G : Arena) (Ps : List Proto) (Fs : Nat → FI) (j n : Nat) (s t : Str) (bd : StL) (L : List Str) (lc : List (Nat × Nat)) (m q : Nat) : Prop where
  nm : IsNm G (nd G n).A [s, t]
  hs : s ≠ []
  ht : t ≠ []
  hbd : IsSL G (nd G n).C bd
  ns : L.length + 4 ≤ (pr Ps j).ns
  i1 : cod Ps j (m + 1) = some (2, 0)
  i2 : cod Ps j (m + 2) = some (6, L.length + 1)
  i3 : cod Ps j (m + 3) = some (32, L.length)
  i4 : cod Ps j (m + 4) = some (22, q + 2)
  l4 : m + 4 < q + 2
  cb : CB Ps Fs j (L ++ [[], [], s, t]) (L ++ [[], [], s, t]) ((L.length, q + 2) :: lc) bd (m + 5) q
  j0 : cod Ps j q = some (29, L.length + 2)
  j1 : cod Ps j (q + 1) = some (21, m + 3)
  l1 : m + 3 ≤ q + 1
  j2 : cod Ps j (q + 2) = some (29, L.length)

section
variable (G : Arena) (Ps : List Proto) (Fs : Nat → FI) (B : Nat → List (Str × Nat) → Prop) (sl : List Nat) (od : List (Str × Nat)) (hb j : Nat)

/-- the rules: pc, tasks, operands, locals alive, hidden slots whose values lie on the model's stack, loops open, what is known: of a loop's hidden slots (1: numeric; 0: over a table), of an operand (2: a table). The first Bool: what stands at pc is the first task's. -/
structure KR (R : Bool → Nat → List Tk → Nat → List Str → List Nat → List (Nat × Nat) → List (Nat × Nat) → Prop) (Q : List (Nat × Nat) → List Tk → List Str → List Nat → List (Nat × Nat) → Prop) : Prop where
  set : ∀ {pc ts m L hid lc fl}, R true pc ts m L hid lc fl → R false pc ts m L hid lc fl
  jmp : ∀ {pc x ts m L hid lc fl}, cod Ps j pc = some (21, x) → pc < x → R false x ts m L hid lc fl → R false pc ts m L hid lc fl
  close : ∀ {pc n ts L hid lc fl}, cod Ps j pc = some (29, n) → n ≤ L.length → L.length ≤ (pr Ps j).ns → R false (pc + 1) ts 0 (L.take n) hid lc fl → R false pc ts 0 L hid lc fl
  stash : ∀ {pc ts L hid lc fl}, cod Ps j pc = some (6, L.length) → HidOK L hid fl → L.length < (pr Ps j).ns → R false (pc + 1) ts 0 (L ++ [[]]) (L.length :: hid) lc fl → R false pc ts 1 L hid lc fl
  foot : ∀ {pc L}, cod Ps j pc = some (2, 0) → cod Ps j (pc + 1) = some (2, 0) → cod Ps j (pc + 2) = some (27, 0) → R true pc [] 0 L [] [] []
  block : ∀ {pc pc' n l e L0 L ts hid lc fl}, IsSL G n l → B e (Dy sl od L) → CB Ps Fs j L0 L lc l pc pc' → L0 <+: L → L.length ≤ (pr Ps j).ns → Q lc ts L0 hid fl → R false pc' ts 0 L0 hid lc fl → R true pc (⟨1, n, 0, e⟩ :: ts) 0 L hid lc fl
  evl : ∀ {pc pc' n ex e m L ts hid lc fl}, IsE G n ex → B e (Dy sl od L) → CE Ps Fs j L ex pc pc' → m + dE ex ≤ 128 → OpLt m fl → R false pc' ts (m + 1) L hid lc fl → R true pc (⟨2, n, 0, e⟩ :: ts) m L hid lc fl
  evl0 : ∀ {pc e m L ts hid lc fl}, cod Ps j pc = some (2, 0) → m + 1 ≤ 128 → OpLt m fl → R false (pc + 1) ts (m + 1) L hid lc fl → R true pc (⟨2, 0, 0, e⟩ :: ts) m L hid lc fl
  evl1 : ∀ {pc k e m L ts hid lc fl}, cod Ps j pc = some (1, k) → con Ps j k = some (vNum (fInt 1)) → m + 1 ≤ 128 → OpLt m fl → R false (pc + 1) ts (m + 1) L hid lc fl → R true pc (⟨2, 0, 1, e⟩ :: ts) m L hid lc fl
  pop : ∀ {pc n x e m L ts hid lc fl}, cod Ps j pc = some (25, 0) → R false (pc + 1) ts m L hid lc fl → R true pc (⟨5, n, x, e⟩ :: ts) (m + 1) L hid lc fl
  bind : ∀ {pc pc' n l e L0 L ts hid lc fl}, (nd G n).S ≠ [] → IsSL G (nd G n).Nx l → cod Ps j pc = some (6, L.length) → L.length < (pr Ps j).ns → B e (Dy sl od L) → CB Ps Fs j L0 (L ++ [(nd G n).S]) lc l (pc + 1) pc' → L0 <+: L → Q lc ts L0 hid fl → R false pc' ts 0 L0 hid lc fl → R true pc (⟨6, n, 0, e⟩ :: ts) 1 L hid lc fl
  bind2 : ∀ {pc pc' n l e s t L0 L ts hid lc fl}, IsNm G (nd G n).A [s, t] → s ≠ [] → t ≠ [] → IsSL G (nd G n).Nx l → cod Ps j pc = some (6, L.length + 1) → cod Ps j (pc + 1) = some (6, L.length) → L.length + 1 < (pr Ps j).ns → B e (Dy sl od L) → CB Ps Fs j L0 (L ++ [s, t]) lc l (pc + 2) pc' → L0 <+: L → Q lc ts L0 hid fl → R false pc' ts 0 L0 hid lc fl → R true pc (⟨7, n, 0, e⟩ :: ts) 2 L hid lc fl
  storeN : ∀ {pc n e L ts hid lc fl}, CV Ps Fs j L (nd G n).S pc 6 8 10 → B e (Dy sl od L) → L.length ≤ (pr Ps j).ns → R false (pc + 1) ts 0 L hid lc fl → R true pc (⟨9, n, 0, e⟩ :: ts) 1 L hid lc fl
  storeI : ∀ {pc e L ts hid lc fl}, cod Ps j pc = some (12, 0) → R false (pc + 1) ts 0 L hid lc fl → R true pc (⟨10, 0, 0, e⟩ :: ts) 3 L hid lc fl
  iff : ∀ {pc p b n e t f L ts hid lc fl}, IsSL G (nd G n).B t → IsSL G (nd G n).C f → B e (Dy sl od L) → L.length ≤ (pr Ps j).ns → cod Ps j pc = some (22, p + 1) → pc < p + 1 → CB Ps Fs j L L lc t (pc + 1) p → cod Ps j p = some (21, b) → p < b → CB Ps Fs j L L lc f (p + 1) b → Q lc ts L hid fl → R false b ts 0 L hid lc fl → R true pc (⟨11, n, 0, e⟩ :: ts) 1 L hid lc fl
  whl : ∀ {n e c bd L ts hid lc fl top m p}, WhD G Ps Fs j n c bd L lc top m p → B e (Dy sl od L) → L.length ≤ (pr Ps j).ns → R false (p + 1) ts 0 L hid lc fl → R true top (⟨12, n, 0, e⟩ :: ⟨4, 0, hb + hid.length, 0⟩ :: ts) 0 L hid lc fl
  wtest : ∀ {n e c bd L ts hid lc fl top m p}, WhD G Ps Fs j n c bd L lc top m p → B e (Dy sl od L) → L.length ≤ (pr Ps j).ns → R false (p + 1) ts 0 L hid lc fl → R true m (⟨13, n, 0, e⟩ :: ⟨4, 0, hb + hid.length, 0⟩ :: ts) 1 L hid lc fl
  wback : ∀ {n e c bd L ts hid lc fl top m p}, WhD G Ps Fs j n c bd L lc top m p → B e (Dy sl od L) → L.length ≤ (pr Ps j).ns → R false (p + 1) ts 0 L hid lc fl → R true p (⟨14, n, 0, e⟩ :: ⟨4, 0, hb + hid.length, 0⟩ :: ts) 0 L hid ((L.length, p + 1) :: lc) fl
  loop : ∀ {pc x L ts hid lc fl}, R false pc ts 0 L hid lc fl → R true pc (⟨4, 0, x, 0⟩ :: ts) 0 L hid lc fl
  finit : ∀ {n e bd L ts hid lc fl r q}, FoD G Ps Fs j n bd L lc r q → B e (Dy sl od L) → R false (q + 7) ts 0 L hid lc fl → R true (r + 1) (⟨15, n, 0, e⟩ :: ⟨4, 0, hb + hid.length, 0⟩ :: ts) 0 (L ++ [[], [], []]) ((L.length + 2) :: (L.length + 1) :: L.length :: hid) lc fl
  ftest : ∀ {n e bd L ts hid lc fl r q}, FoD G Ps Fs j n bd L lc r q → B e (Dy sl od L) → R false (q + 7) ts 0 L hid lc fl → R true (r + 2) (⟨16, n, 0, e⟩ :: ⟨4, 0, hb + hid.length, 0⟩ :: ts) 0 (L ++ [[], [], []]) ((L.length + 2) :: (L.length + 1) :: L.length :: hid) lc ((L.length, 1) :: fl)
  fback : ∀ {n e bd L ts hid lc fl r q}, FoD G Ps Fs j n bd L lc r q → B e (Dy sl od L) → R false (q + 7) ts 0 L hid lc fl → R true q (⟨17, n, 0, e⟩ :: ⟨4, 0, hb + hid.length, 0⟩ :: ts) 0 (L ++ [[], [], [], (nd G n).S]) ((L.length + 2) :: (L.length + 1) :: L.length :: hid) ((L.length, q + 6) :: lc) ((L.length, 1) :: fl)
  inin : ∀ {n e s t bd L ts hid lc fl m q}, InD G Ps Fs j n s t bd L lc m q → B e (Dy sl od L) → R false (q + 3) ts 0 L hid lc fl → R true (m + 1) (⟨18, n, 0, e⟩ :: ⟨4, 0, hb + hid.length, 0⟩ :: ts) 0 (L ++ [[]]) (L.length :: hid) lc fl
  intest : ∀ {n e s t bd L ts hid lc fl m q}, InD G Ps Fs j n s t bd L lc m q → B e (Dy sl od L) → R false (q + 3) ts 0 L hid lc fl → R true (m + 3) (⟨19, n, 0, e⟩ :: ⟨4, 0, hb + hid.length, 0⟩ :: ts) 0 (L ++ [[], []]) ((L.length + 1) :: L.length :: hid) lc ((L.length, 0) :: fl)
  inback : ∀ {n e s t bd L ts hid lc fl m q}, InD G Ps Fs j n s t bd L lc m q → B e (Dy sl od L) → R false (q + 3) ts 0 L hid lc fl → R true q (⟨20, n, 0, e⟩ :: ⟨4, 0, hb + hid.length, 0⟩ :: ts) 0 (L ++ [[], [], s, t]) ((L.length + 1) :: L.length :: hid) ((L.length, q + 2) :: lc) ((L.length, 0) :: fl)
  ret : ∀ {pc pcx n x e L ts hid lc fl}, cod Ps j pc = some (27, 0) → HidOK L hid fl → OpLt 0 fl → R false pcx ts 0 L hid lc fl → R true pc (⟨21, n, x, e⟩ :: ts) 2 L hid lc fl
  call : ∀ {pc n x e m L ts hid lc fl}, cod Ps j pc = some (26, x) → x ≤ 3 → m + 2 ≤ 128 → OpLt m fl → R false (pc + 1) ts (m + 2) L hid lc fl → R true pc (⟨22, n, x, e⟩ :: ts) (m + x + 1) L hid lc fl
  item : ∀ {pc pc' n i e l m L ts hid lc fl}, cod Ps j pc = some (13, i) → B e (Dy sl od L) → IsEL G (nd G n).Nx l → CI Ps Fs j L l (i + 1) (pc + 1) pc' → m + 1 + dI l ≤ 128 → OpLt m fl → R false pc' ts (m + 1) L hid lc fl → R true pc (⟨23, n, i, e⟩ :: ts) (m + 2) L hid lc ((m, 2) :: fl)
  bin : ∀ {pc n m L ts hid lc fl}, cod Ps j pc = some (binI (nd G n).N) → ((nd G n).N = 20 ∨ (11 ≤ (nd G n).N ∧ (nd G n).N ≤ 16) ∨ (1 ≤ (nd G n).N ∧ (nd G n).N ≤ 6)) → OpLt m fl → R false (pc + 1) ts (m + 1) L hid lc fl → R true pc (⟨24, n, 0, 0⟩ :: ts) (m + 2) L hid lc fl
  un : ∀ {pc n m L ts hid lc fl}, cod Ps j pc = some (unI (nd G n).N) → 1 ≤ (nd G n).N → (nd G n).N ≤ 3 → OpLt m fl → R false (pc + 1) ts (m + 1) L hid lc fl → R true pc (⟨25, n, 0, 0⟩ :: ts) (m + 1) L hid lc fl
  land : ∀ {pc b n e y m L ts hid lc fl}, IsE G (nd G n).B y → B e (Dy sl od L) → cod Ps j pc = some (23, b) → pc < b → CE Ps Fs j L y (pc + 1) b → m + dE y ≤ 128 → OpLt m fl → R false b ts (m + 1) L hid lc fl → R true pc (⟨26, n, 0, e⟩ :: ts) (m + 1) L hid lc fl
  lor : ∀ {pc b n e y m L ts hid lc fl}, IsE G (nd G n).B y → B e (Dy sl od L) → cod Ps j pc = some (24, b) → pc < b → CE Ps Fs j L y (pc + 1) b → m + dE y ≤ 128 → OpLt m fl → R false b ts (m + 1) L hid lc fl → R true pc (⟨27, n, 0, e⟩ :: ts) (m + 1) L hid lc fl
  index : ∀ {pc m L ts hid lc fl}, cod Ps j pc = some (11, 0) → OpLt m fl → R false (pc + 1) ts (m + 1) L hid lc fl → R true pc (⟨28, 0, 0, 0⟩ :: ts) (m + 2) L hid lc fl
  bnone : ∀ {ts L hid fl}, Q [] ts L hid fl
  bsome : ∀ {n x r ts ts' L hid hid0 fl fl0}, brkL ts = Option.some (⟨4, 0, hb + hid0.length, 0⟩, ts') → hid0 <:+ hid → fl0 <:+ fl → n ≤ L.length → R false x ts' 0 (L.take n) hid0 r fl0 → Q ((n, x) :: r) ts L hid fl
/-- the least relation that the rules make. -/
def K (q : Bool) (pc : Nat) (ts : List Tk) (m : Nat) (L : List Str) (hid : List Nat) (lc fl : List (Nat × Nat)) : Prop := ∀ R Q, KR G Ps Fs B sl od hb j R Q → R q pc ts m L hid lc fl
/-- a break from here: to the innermost loop's end. -/
def BK (lc : List (Nat × Nat)) (ts : List Tk) (L : List Str) (hid : List Nat) (fl : List (Nat × Nat)) : Prop := ∀ R Q, KR G Ps Fs B sl od hb j R Q → Q lc ts L hid fl
end

section
variable {G : Arena} {Ps : List Proto} {Fs : Nat → FI} {B : Nat → List (Str × Nat) → Prop} {sl : List Nat} {od : List (Str × Nat)} {hb j : Nat}
theorem K.set {pc ts m L hid lc fl} : K G Ps Fs B sl od hb j true pc ts m L hid lc fl → K G Ps Fs B sl od hb j false pc ts m L hid lc fl := fun h1 R Q H => H.set (h1 R Q H)
theorem K.jmp {pc x ts m L hid lc fl} : cod Ps j pc = some (21, x) → pc < x → K G Ps Fs B sl od hb j false x ts m L hid lc fl → K G Ps Fs B sl od hb j false pc ts m L hid lc fl := fun h1 h2 h3 R Q H => H.jmp h1 h2 (h3 R Q H)
theorem K.close {pc n ts L hid lc fl} : cod Ps j pc = some (29, n) → n ≤ L.length → L.length ≤ (pr Ps j).ns → K G Ps Fs B sl od hb j false (pc + 1) ts 0 (L.take n) hid lc fl → K G Ps Fs B sl od hb j false pc ts 0 L hid lc fl := fun h1 h2 h3 h4 R Q H => H.close h1 h2 h3 (h4 R Q H)
theorem K.stash {pc ts L hid lc fl} : cod Ps j pc = some (6, L.length) → HidOK L hid fl → L.length < (pr Ps j).ns → K G Ps Fs B sl od hb j false (pc + 1) ts 0 (L ++ [[]]) (L.length :: hid) lc fl → K G Ps Fs B sl od hb j false pc ts 1 L hid lc fl := fun h1 h2 h3 h4 R Q H => H.stash h1 h2 h3 (h4 R Q H)
theorem K.foot {pc L} : cod Ps j pc = some (2, 0) → cod Ps j (pc + 1) = some (2, 0) → cod Ps j (pc + 2) = some (27, 0) → K G Ps Fs B sl od hb j true pc [] 0 L [] [] [] := fun h1 h2 h3 R Q H => H.foot h1 h2 h3
theorem K.block {pc pc' n l e L0 L ts hid lc fl} : IsSL G n l → B e (Dy sl od L) → CB Ps Fs j L0 L lc l pc pc' → L0 <+: L → L.length ≤ (pr Ps j).ns → BK G Ps Fs B sl od hb j lc ts L0 hid fl → K G Ps Fs B sl od hb j false pc' ts 0 L0 hid lc fl → K G Ps Fs B sl od hb j true pc (⟨1, n, 0, e⟩ :: ts) 0 L hid lc fl := fun h1 h2 h3 h4 h5 h6 h7 R Q H => H.block h1 h2 h3 h4 h5 (h6 R Q H) (h7 R Q H)
theorem K.evl {pc pc' n ex e m L ts hid lc fl} : IsE G n ex → B e (Dy sl od L) → CE Ps Fs j L ex pc pc' → m + dE ex ≤ 128 → OpLt m fl → K G Ps Fs B sl od hb j false pc' ts (m + 1) L hid lc fl → K G Ps Fs B sl od hb j true pc (⟨2, n, 0, e⟩ :: ts) m L hid lc fl := fun h1 h2 h3 h4 h5 h6 R Q H => H.evl h1 h2 h3 h4 h5 (h6 R Q H)
theorem K.evl0 {pc e m L ts hid lc fl} : cod Ps j pc = some (2, 0) → m + 1 ≤ 128 → OpLt m fl → K G Ps Fs B sl od hb j false (pc + 1) ts (m + 1) L hid lc fl → K G Ps Fs B sl od hb j true pc (⟨2, 0, 0, e⟩ :: ts) m L hid lc fl := fun h1 h2 h3 h4 R Q H => H.evl0 h1 h2 h3 (h4 R Q H)
theorem K.evl1 {pc k e m L ts hid lc fl} : cod Ps j pc = some (1, k) → con Ps j k = some (vNum (fInt 1)) → m + 1 ≤ 128 → OpLt m fl → K G Ps Fs B sl od hb j false (pc + 1) ts (m + 1) L hid lc fl → K G Ps Fs B sl od hb j true pc (⟨2, 0, 1, e⟩ :: ts) m L hid lc fl := fun h1 h2 h3 h4 h5 R Q H => H.evl1 h1 h2 h3 h4 (h5 R Q H)
theorem K.pop {pc n x e m L ts hid lc fl} : cod Ps j pc = some (25, 0) → K G Ps Fs B sl od hb j false (pc + 1) ts m L hid lc fl → K G Ps Fs B sl od hb j true pc (⟨5, n, x, e⟩ :: ts) (m + 1) L hid lc fl := fun h1 h2 R Q H => H.pop h1 (h2 R Q H)
theorem K.bind {pc pc' n l e L0 L ts hid lc fl} : (nd G n).S ≠ [] → IsSL G (nd G n).Nx l → cod Ps j pc = some (6, L.length) → L.length < (pr Ps j).ns → B e (Dy sl od L) → CB Ps Fs j L0 (L ++ [(nd G n).S]) lc l (pc + 1) pc' → L0 <+: L → BK G Ps Fs B sl od hb j lc ts L0 hid fl → K G Ps Fs B sl od hb j false pc' ts 0 L0 hid lc fl → K G Ps Fs B sl od hb j true pc (⟨6, n, 0, e⟩ :: ts) 1 L hid lc fl := fun h1 h2 h3 h4 h5 h6 h7 h8 h9 R Q H => H.bind h1 h2 h3 h4 h5 h6 h7 (h8 R Q H) (h9 R Q H)
theorem K.bind2 {pc pc' n l e s t L0 L ts hid lc fl} : IsNm G (nd G n).A [s, t] → s ≠ [] → t ≠ [] → IsSL G (nd G n).Nx l → cod Ps j pc = some (6, L.length + 1) → cod Ps j (pc + 1) = some (6, L.length) → L.length + 1 < (pr Ps j).ns → B e (Dy sl od L) → CB Ps Fs j L0 (L ++ [s, t]) lc l (pc + 2) pc' → L0 <+: L → BK G Ps Fs B sl od hb j lc ts L0 hid fl → K G Ps Fs B sl od hb j false pc' ts 0 L0 hid lc fl → K G Ps Fs B sl od hb j true pc (⟨7, n, 0, e⟩ :: ts) 2 L hid lc fl := fun h1 h2 h3 h4 h5 h6 h7 h8 h9 h10 h11 h12 R Q H => H.bind2 h1 h2 h3 h4 h5 h6 h7 h8 h9 h10 (h11 R Q H) (h12 R Q H)
theorem K.storeN {pc n e L ts hid lc fl} : CV Ps Fs j L (nd G n).S pc 6 8 10 → B e (Dy sl od L) → L.length ≤ (pr Ps j).ns → K G Ps Fs B sl od hb j false (pc + 1) ts 0 L hid lc fl → K G Ps Fs B sl od hb j true pc (⟨9, n, 0, e⟩ :: ts) 1 L hid lc fl := fun h1 h2 h3 h4 R Q H => H.storeN h1 h2 h3 (h4 R Q H)
theorem K.storeI {pc e L ts hid lc fl} : cod Ps j pc = some (12, 0) → K G Ps Fs B sl od hb j false (pc + 1) ts 0 L hid lc fl → K G Ps Fs B sl od hb j true pc (⟨10, 0, 0, e⟩ :: ts) 3 L hid lc fl := fun h1 h2 R Q H => H.storeI h1 (h2 R Q H)
theorem K.iff {pc p b n e t f L ts hid lc fl} : IsSL G (nd G n).B t → IsSL G (nd G n).C f → B e (Dy sl od L) → L.length ≤ (pr Ps j).ns → cod Ps j pc = some (22, p + 1) → pc < p + 1 → CB Ps Fs j L L lc t (pc + 1) p → cod Ps j p = some (21, b) → p < b → CB Ps Fs j L L lc f (p + 1) b → BK G Ps Fs B sl od hb j lc ts L hid fl → K G Ps Fs B sl od hb j false b ts 0 L hid lc fl → K G Ps Fs B sl od hb j true pc (⟨11, n, 0, e⟩ :: ts) 1 L hid lc fl := fun h1 h2 h3 h4 h5 h6 h7 h8 h9 h10 h11 h12 R Q H => H.iff h1 h2 h3 h4 h5 h6 h7 h8 h9 h10 (h11 R Q H) (h12 R Q H)
theorem K.whl {n e c bd L ts hid lc fl top m p} : WhD G Ps Fs j n c bd L lc top m p → B e (Dy sl od L) → L.length ≤ (pr Ps j).ns → K G Ps Fs B sl od hb j false (p + 1) ts 0 L hid lc fl → K G Ps Fs B sl od hb j true top (⟨12, n, 0, e⟩ :: ⟨4, 0, hb + hid.length, 0⟩ :: ts) 0 L hid lc fl := fun h1 h2 h3 h4 R Q H => H.whl h1 h2 h3 (h4 R Q H)
theorem K.wtest {n e c bd L ts hid lc fl top m p} : WhD G Ps Fs j n c bd L lc top m p → B e (Dy sl od L) → L.length ≤ (pr Ps j).ns → K G Ps Fs B sl od hb j false (p + 1) ts 0 L hid lc fl → K G Ps Fs B sl od hb j true m (⟨13, n, 0, e⟩ :: ⟨4, 0, hb + hid.length, 0⟩ :: ts) 1 L hid lc fl := fun h1 h2 h3 h4 R Q H => H.wtest h1 h2 h3 (h4 R Q H)
theorem K.wback {n e c bd L ts hid lc fl top m p} : WhD G Ps Fs j n c bd L lc top m p → B e (Dy sl od L) → L.length ≤ (pr Ps j).ns → K G Ps Fs B sl od hb j false (p + 1) ts 0 L hid lc fl → K G Ps Fs B sl od hb j true p (⟨14, n, 0, e⟩ :: ⟨4, 0, hb + hid.length, 0⟩ :: ts) 0 L hid ((L.length, p + 1) :: lc) fl := fun h1 h2 h3 h4 R Q H => H.wback h1 h2 h3 (h4 R Q H)
theorem K.loop {pc x L ts hid lc fl} : K G Ps Fs B sl od hb j false pc ts 0 L hid lc fl → K G Ps Fs B sl od hb j true pc (⟨4, 0, x, 0⟩ :: ts) 0 L hid lc fl := fun h1 R Q H => H.loop (h1 R Q H)
theorem K.finit {n e bd L ts hid lc fl r q} : FoD G Ps Fs j n bd L lc r q → B e (Dy sl od L) → K G Ps Fs B sl od hb j false (q + 7) ts 0 L hid lc fl → K G Ps Fs B sl od hb j true (r + 1) (⟨15, n, 0, e⟩ :: ⟨4, 0, hb + hid.length, 0⟩ :: ts) 0 (L ++ [[], [], []]) ((L.length + 2) :: (L.length + 1) :: L.length :: hid) lc fl := fun h1 h2 h3 R Q H => H.finit h1 h2 (h3 R Q H)
theorem K.ftest {n e bd L ts hid lc fl r q} : FoD G Ps Fs j n bd L lc r q → B e (Dy sl od L) → K G Ps Fs B sl od hb j false (q + 7) ts 0 L hid lc fl → K G Ps Fs B sl od hb j true (r + 2) (⟨16, n, 0, e⟩ :: ⟨4, 0, hb + hid.length, 0⟩ :: ts) 0 (L ++ [[], [], []]) ((L.length + 2) :: (L.length + 1) :: L.length :: hid) lc ((L.length, 1) :: fl) := fun h1 h2 h3 R Q H => H.ftest h1 h2 (h3 R Q H)
theorem K.fback {n e bd L ts hid lc fl r q} : FoD G Ps Fs j n bd L lc r q → B e (Dy sl od L) → K G Ps Fs B sl od hb j false (q + 7) ts 0 L hid lc fl → K G Ps Fs B sl od hb j true q (⟨17, n, 0, e⟩ :: ⟨4, 0, hb + hid.length, 0⟩ :: ts) 0 (L ++ [[], [], [], (nd G n).S]) ((L.length + 2) :: (L.length + 1) :: L.length :: hid) ((L.length, q + 6) :: lc) ((L.length, 1) :: fl) := fun h1 h2 h3 R Q H => H.fback h1 h2 (h3 R Q H)
theorem K.inin {n e s t bd L ts hid lc fl m q} : InD G Ps Fs j n s t bd L lc m q → B e (Dy sl od L) → K G Ps Fs B sl od hb j false (q + 3) ts 0 L hid lc fl → K G Ps Fs B sl od hb j true (m + 1) (⟨18, n, 0, e⟩ :: ⟨4, 0, hb + hid.length, 0⟩ :: ts) 0 (L ++ [[]]) (L.length :: hid) lc fl := fun h1 h2 h3 R Q H => H.inin h1 h2 (h3 R Q H)
theorem K.intest {n e s t bd L ts hid lc fl m q} : InD G Ps Fs j n s t bd L lc m q → B e (Dy sl od L) → K G Ps Fs B sl od hb j false (q + 3) ts 0 L hid lc fl → K G Ps Fs B sl od hb j true (m + 3) (⟨19, n, 0, e⟩ :: ⟨4, 0, hb + hid.length, 0⟩ :: ts) 0 (L ++ [[], []]) ((L.length + 1) :: L.length :: hid) lc ((L.length, 0) :: fl) := fun h1 h2 h3 R Q H => H.intest h1 h2 (h3 R Q H)
theorem K.inback {n e s t bd L ts hid lc fl m q} : InD G Ps Fs j n s t bd L lc m q → B e (Dy sl od L) → K G Ps Fs B sl od hb j false (q + 3) ts 0 L hid lc fl → K G Ps Fs B sl od hb j true q (⟨20, n, 0, e⟩ :: ⟨4, 0, hb + hid.length, 0⟩ :: ts) 0 (L ++ [[], [], s, t]) ((L.length + 1) :: L.length :: hid) ((L.length, q + 2) :: lc) ((L.length, 0) :: fl) := fun h1 h2 h3 R Q H => H.inback h1 h2 (h3 R Q H)
theorem K.ret {pc pcx n x e L ts hid lc fl} : cod Ps j pc = some (27, 0) → HidOK L hid fl → OpLt 0 fl → K G Ps Fs B sl od hb j false pcx ts 0 L hid lc fl → K G Ps Fs B sl od hb j true pc (⟨21, n, x, e⟩ :: ts) 2 L hid lc fl := fun h1 h2 h3 h4 R Q H => H.ret h1 h2 h3 (h4 R Q H)
theorem K.call {pc n x e m L ts hid lc fl} : cod Ps j pc = some (26, x) → x ≤ 3 → m + 2 ≤ 128 → OpLt m fl → K G Ps Fs B sl od hb j false (pc + 1) ts (m + 2) L hid lc fl → K G Ps Fs B sl od hb j true pc (⟨22, n, x, e⟩ :: ts) (m + x + 1) L hid lc fl := fun h1 h2 h3 h4 h5 R Q H => H.call h1 h2 h3 h4 (h5 R Q H)
theorem K.item {pc pc' n i e l m L ts hid lc fl} : cod Ps j pc = some (13, i) → B e (Dy sl od L) → IsEL G (nd G n).Nx l → CI Ps Fs j L l (i + 1) (pc + 1) pc' → m + 1 + dI l ≤ 128 → OpLt m fl → K G Ps Fs B sl od hb j false pc' ts (m + 1) L hid lc fl → K G Ps Fs B sl od hb j true pc (⟨23, n, i, e⟩ :: ts) (m + 2) L hid lc ((m, 2) :: fl) := fun h1 h2 h3 h4 h5 h6 h7 R Q H => H.item h1 h2 h3 h4 h5 h6 (h7 R Q H)
theorem K.bin {pc n m L ts hid lc fl} : cod Ps j pc = some (binI (nd G n).N) → ((nd G n).N = 20 ∨ (11 ≤ (nd G n).N ∧ (nd G n).N ≤ 16) ∨ (1 ≤ (nd G n).N ∧ (nd G n).N ≤ 6)) → OpLt m fl → K G Ps Fs B sl od hb j false (pc + 1) ts (m + 1) L hid lc fl → K G Ps Fs B sl od hb j true pc (⟨24, n, 0, 0⟩ :: ts) (m + 2) L hid lc fl := fun h1 h2 h3 h4 R Q H => H.bin h1 h2 h3 (h4 R Q H)
theorem K.un {pc n m L ts hid lc fl} : cod Ps j pc = some (unI (nd G n).N) → 1 ≤ (nd G n).N → (nd G n).N ≤ 3 → OpLt m fl → K G Ps Fs B sl od hb j false (pc + 1) ts (m + 1) L hid lc fl → K G Ps Fs B sl od hb j true pc (⟨25, n, 0, 0⟩ :: ts) (m + 1) L hid lc fl := fun h1 h2 h3 h4 h5 R Q H => H.un h1 h2 h3 h4 (h5 R Q H)
theorem K.land {pc b n e y m L ts hid lc fl} : IsE G (nd G n).B y → B e (Dy sl od L) → cod Ps j pc = some (23, b) → pc < b → CE Ps Fs j L y (pc + 1) b → m + dE y ≤ 128 → OpLt m fl → K G Ps Fs B sl od hb j false b ts (m + 1) L hid lc fl → K G Ps Fs B sl od hb j true pc (⟨26, n, 0, e⟩ :: ts) (m + 1) L hid lc fl := fun h1 h2 h3 h4 h5 h6 h7 h8 R Q H => H.land h1 h2 h3 h4 h5 h6 h7 (h8 R Q H)
theorem K.lor {pc b n e y m L ts hid lc fl} : IsE G (nd G n).B y → B e (Dy sl od L) → cod Ps j pc = some (24, b) → pc < b → CE Ps Fs j L y (pc + 1) b → m + dE y ≤ 128 → OpLt m fl → K G Ps Fs B sl od hb j false b ts (m + 1) L hid lc fl → K G Ps Fs B sl od hb j true pc (⟨27, n, 0, e⟩ :: ts) (m + 1) L hid lc fl := fun h1 h2 h3 h4 h5 h6 h7 h8 R Q H => H.lor h1 h2 h3 h4 h5 h6 h7 (h8 R Q H)
theorem K.index {pc m L ts hid lc fl} : cod Ps j pc = some (11, 0) → OpLt m fl → K G Ps Fs B sl od hb j false (pc + 1) ts (m + 1) L hid lc fl → K G Ps Fs B sl od hb j true pc (⟨28, 0, 0, 0⟩ :: ts) (m + 2) L hid lc fl := fun h1 h2 h3 R Q H => H.index h1 h2 (h3 R Q H)
theorem BK.none {ts L hid fl} : BK G Ps Fs B sl od hb j [] ts L hid fl := fun R Q H => H.bnone
theorem BK.some {n x r ts ts' L hid hid0 fl fl0} : brkL ts = Option.some (⟨4, 0, hb + hid0.length, 0⟩, ts') → hid0 <:+ hid → fl0 <:+ fl → n ≤ L.length → K G Ps Fs B sl od hb j false x ts' 0 (L.take n) hid0 r fl0 → BK G Ps Fs B sl od hb j ((n, x) :: r) ts L hid fl := fun h1 h2 h3 h4 h5 R Q H => H.bsome h1 h2 h3 h4 (h5 R Q H)
theorem K.elim {motive : ∀ (q : Bool) (pc : Nat) (ts : List Tk) (m : Nat) (L : List Str) (hid : List Nat) (lc fl : List (Nat × Nat)), K G Ps Fs B sl od hb j q pc ts m L hid lc fl → Prop}
    (set : ∀ {pc ts m L hid lc fl}, (h1 : K G Ps Fs B sl od hb j true pc ts m L hid lc fl) → motive false pc ts m L hid lc fl (K.set h1))
    (jmp : ∀ {pc x ts m L hid lc fl}, (h1 : cod Ps j pc = some (21, x)) → (h2 : pc < x) → (h3 : K G Ps Fs B sl od hb j false x ts m L hid lc fl) → motive false pc ts m L hid lc fl (K.jmp h1 h2 h3))
    (close : ∀ {pc n ts L hid lc fl}, (h1 : cod Ps j pc = some (29, n)) → (h2 : n ≤ L.length) → (h3 : L.length ≤ (pr Ps j).ns) → (h4 : K G Ps Fs B sl od hb j false (pc + 1) ts 0 (L.take n) hid lc fl) → motive false pc ts 0 L hid lc fl (K.close h1 h2 h3 h4))
    (stash : ∀ {pc ts L hid lc fl}, (h1 : cod Ps j pc = some (6, L.length)) → (h2 : HidOK L hid fl) → (h3 : L.length < (pr Ps j).ns) → (h4 : K G Ps Fs B sl od hb j false (pc + 1) ts 0 (L ++ [[]]) (L.length :: hid) lc fl) → motive false pc ts 1 L hid lc fl (K.stash h1 h2 h3 h4))
    (foot : ∀ {pc L}, (h1 : cod Ps j pc = some (2, 0)) → (h2 : cod Ps j (pc + 1) = some (2, 0)) → (h3 : cod Ps j (pc + 2) = some (27, 0)) → motive true pc [] 0 L [] [] [] (K.foot h1 h2 h3))
    (block : ∀ {pc pc' n l e L0 L ts hid lc fl}, (h1 : IsSL G n l) → (h2 : B e (Dy sl od L)) → (h3 : CB Ps Fs j L0 L lc l pc pc') → (h4 : L0 <+: L) → (h5 : L.length ≤ (pr Ps j).ns) → (h6 : BK G Ps Fs B sl od hb j lc ts L0 hid fl) → (h7 : K G Ps Fs B sl od hb j false pc' ts 0 L0 hid lc fl) → motive true pc (⟨1, n, 0, e⟩ :: ts) 0 L hid lc fl (K.block h1 h2 h3 h4 h5 h6 h7))
    (evl : ∀ {pc pc' n ex e m L ts hid lc fl}, (h1 : IsE G n ex) → (h2 : B e (Dy sl od L)) → (h3 : CE Ps Fs j L ex pc pc') → (h4 : m + dE ex ≤ 128) → (h5 : OpLt m fl) → (h6 : K G Ps Fs B sl od hb j false pc' ts (m + 1) L hid lc fl) → motive true pc (⟨2, n, 0, e⟩ :: ts) m L hid lc fl (K.evl h1 h2 h3 h4 h5 h6))
    (evl0 : ∀ {pc e m L ts hid lc fl}, (h1 : cod Ps j pc = some (2, 0)) → (h2 : m + 1 ≤ 128) → (h3 : OpLt m fl) → (h4 : K G Ps Fs B sl od hb j false (pc + 1) ts (m + 1) L hid lc fl) → motive true pc (⟨2, 0, 0, e⟩ :: ts) m L hid lc fl (K.evl0 h1 h2 h3 h4))
    (evl1 : ∀ {pc k e m L ts hid lc fl}, (h1 : cod Ps j pc = some (1, k)) → (h2 : con Ps j k = some (vNum (fInt 1))) → (h3 : m + 1 ≤ 128) → (h4 : OpLt m fl) → (h5 : K G Ps Fs B sl od hb j false (pc + 1) ts (m + 1) L hid lc fl) → motive true pc (⟨2, 0, 1, e⟩ :: ts) m L hid lc fl (K.evl1 h1 h2 h3 h4 h5))
    (pop : ∀ {pc n x e m L ts hid lc fl}, (h1 : cod Ps j pc = some (25, 0)) → (h2 : K G Ps Fs B sl od hb j false (pc + 1) ts m L hid lc fl) → motive true pc (⟨5, n, x, e⟩ :: ts) (m + 1) L hid lc fl (K.pop h1 h2))
    (bind : ∀ {pc pc' n l e L0 L ts hid lc fl}, (h1 : (nd G n).S ≠ []) → (h2 : IsSL G (nd G n).Nx l) → (h3 : cod Ps j pc = some (6, L.length)) → (h4 : L.length < (pr Ps j).ns) → (h5 : B e (Dy sl od L)) → (h6 : CB Ps Fs j L0 (L ++ [(nd G n).S]) lc l (pc + 1) pc') → (h7 : L0 <+: L) → (h8 : BK G Ps Fs B sl od hb j lc ts L0 hid fl) → (h9 : K G Ps Fs B sl od hb j false pc' ts 0 L0 hid lc fl) → motive true pc (⟨6, n, 0, e⟩ :: ts) 1 L hid lc fl (K.bind h1 h2 h3 h4 h5 h6 h7 h8 h9))
    (bind2 : ∀ {pc pc' n l e s t L0 L ts hid lc fl}, (h1 : IsNm G (nd G n).A [s, t]) → (h2 : s ≠ []) → (h3 : t ≠ []) → (h4 : IsSL G (nd G n).Nx l) → (h5 : cod Ps j pc = some (6, L.length + 1)) → (h6 : cod Ps j (pc + 1) = some (6, L.length)) → (h7 : L.length + 1 < (pr Ps j).ns) → (h8 : B e (Dy sl od L)) → (h9 : CB Ps Fs j L0 (L ++ [s, t]) lc l (pc + 2) pc') → (h10 : L0 <+: L) → (h11 : BK G Ps Fs B sl od hb j lc ts L0 hid fl) → (h12 : K G Ps Fs B sl od hb j false pc' ts 0 L0 hid lc fl) → motive true pc (⟨7, n, 0, e⟩ :: ts) 2 L hid lc fl (K.bind2 h1 h2 h3 h4 h5 h6 h7 h8 h9 h10 h11 h12))
    (storeN : ∀ {pc n e L ts hid lc fl}, (h1 : CV Ps Fs j L (nd G n).S pc 6 8 10) → (h2 : B e (Dy sl od L)) → (h3 : L.length ≤ (pr Ps j).ns) → (h4 : K G Ps Fs B sl od hb j false (pc + 1) ts 0 L hid lc fl) → motive true pc (⟨9, n, 0, e⟩ :: ts) 1 L hid lc fl (K.storeN h1 h2 h3 h4))
    (storeI : ∀ {pc e L ts hid lc fl}, (h1 : cod Ps j pc = some (12, 0)) → (h2 : K G Ps Fs B sl od hb j false (pc + 1) ts 0 L hid lc fl) → motive true pc (⟨10, 0, 0, e⟩ :: ts) 3 L hid lc fl (K.storeI h1 h2))
    (iff : ∀ {pc p b n e t f L ts hid lc fl}, (h1 : IsSL G (nd G n).B t) → (h2 : IsSL G (nd G n).C f) → (h3 : B e (Dy sl od L)) → (h4 : L.length ≤ (pr Ps j).ns) → (h5 : cod Ps j pc = some (22, p + 1)) → (h6 : pc < p + 1) → (h7 : CB Ps Fs j L L lc t (pc + 1) p) → (h8 : cod Ps j p = some (21, b)) → (h9 : p < b) → (h10 : CB Ps Fs j L L lc f (p + 1) b) → (h11 : BK G Ps Fs B sl od hb j lc ts L hid fl) → (h12 : K G Ps Fs B sl od hb j false b ts 0 L hid lc fl) → motive true pc (⟨11, n, 0, e⟩ :: ts) 1 L hid lc fl (K.iff h1 h2 h3 h4 h5 h6 h7 h8 h9 h10 h11 h12))
    (whl : ∀ {n e c bd L ts hid lc fl top m p}, (h1 : WhD G Ps Fs j n c bd L lc top m p) → (h2 : B e (Dy sl od L)) → (h3 : L.length ≤ (pr Ps j).ns) → (h4 : K G Ps Fs B sl od hb j false (p + 1) ts 0 L hid lc fl) → motive true top (⟨12, n, 0, e⟩ :: ⟨4, 0, hb + hid.length, 0⟩ :: ts) 0 L hid lc fl (K.whl h1 h2 h3 h4))
    (wtest : ∀ {n e c bd L ts hid lc fl top m p}, (h1 : WhD G Ps Fs j n c bd L lc top m p) → (h2 : B e (Dy sl od L)) → (h3 : L.length ≤ (pr Ps j).ns) → (h4 : K G Ps Fs B sl od hb j false (p + 1) ts 0 L hid lc fl) → motive true m (⟨13, n, 0, e⟩ :: ⟨4, 0, hb + hid.length, 0⟩ :: ts) 1 L hid lc fl (K.wtest h1 h2 h3 h4))
    (wback : ∀ {n e c bd L ts hid lc fl top m p}, (h1 : WhD G Ps Fs j n c bd L lc top m p) → (h2 : B e (Dy sl od L)) → (h3 : L.length ≤ (pr Ps j).ns) → (h4 : K G Ps Fs B sl od hb j false (p + 1) ts 0 L hid lc fl) → motive true p (⟨14, n, 0, e⟩ :: ⟨4, 0, hb + hid.length, 0⟩ :: ts) 0 L hid ((L.length, p + 1) :: lc) fl (K.wback h1 h2 h3 h4))
    (loop : ∀ {pc x L ts hid lc fl}, (h1 : K G Ps Fs B sl od hb j false pc ts 0 L hid lc fl) → motive true pc (⟨4, 0, x, 0⟩ :: ts) 0 L hid lc fl (K.loop h1))
    (finit : ∀ {n e bd L ts hid lc fl r q}, (h1 : FoD G Ps Fs j n bd L lc r q) → (h2 : B e (Dy sl od L)) → (h3 : K G Ps Fs B sl od hb j false (q + 7) ts 0 L hid lc fl) → motive true (r + 1) (⟨15, n, 0, e⟩ :: ⟨4, 0, hb + hid.length, 0⟩ :: ts) 0 (L ++ [[], [], []]) ((L.length + 2) :: (L.length + 1) :: L.length :: hid) lc fl (K.finit h1 h2 h3))
    (ftest : ∀ {n e bd L ts hid lc fl r q}, (h1 : FoD G Ps Fs j n bd L lc r q) → (h2 : B e (Dy sl od L)) → (h3 : K G Ps Fs B sl od hb j false (q + 7) ts 0 L hid lc fl) → motive true (r + 2) (⟨16, n, 0, e⟩ :: ⟨4, 0, hb + hid.length, 0⟩ :: ts) 0 (L ++ [[], [], []]) ((L.length + 2) :: (L.length + 1) :: L.length :: hid) lc ((L.length, 1) :: fl) (K.ftest h1 h2 h3))
    (fback : ∀ {n e bd L ts hid lc fl r q}, (h1 : FoD G Ps Fs j n bd L lc r q) → (h2 : B e (Dy sl od L)) → (h3 : K G Ps Fs B sl od hb j false (q + 7) ts 0 L hid lc fl) → motive true q (⟨17, n, 0, e⟩ :: ⟨4, 0, hb + hid.length, 0⟩ :: ts) 0 (L ++ [[], [], [], (nd G n).S]) ((L.length + 2) :: (L.length + 1) :: L.length :: hid) ((L.length, q + 6) :: lc) ((L.length, 1) :: fl) (K.fback h1 h2 h3))
    (inin : ∀ {n e s t bd L ts hid lc fl m q}, (h1 : InD G Ps Fs j n s t bd L lc m q) → (h2 : B e (Dy sl od L)) → (h3 : K G Ps Fs B sl od hb j false (q + 3) ts 0 L hid lc fl) → motive true (m + 1) (⟨18, n, 0, e⟩ :: ⟨4, 0, hb + hid.length, 0⟩ :: ts) 0 (L ++ [[]]) (L.length :: hid) lc fl (K.inin h1 h2 h3))
    (intest : ∀ {n e s t bd L ts hid lc fl m q}, (h1 : InD G Ps Fs j n s t bd L lc m q) → (h2 : B e (Dy sl od L)) → (h3 : K G Ps Fs B sl od hb j false (q + 3) ts 0 L hid lc fl) → motive true (m + 3) (⟨19, n, 0, e⟩ :: ⟨4, 0, hb + hid.length, 0⟩ :: ts) 0 (L ++ [[], []]) ((L.length + 1) :: L.length :: hid) lc ((L.length, 0) :: fl) (K.intest h1 h2 h3))
    (inback : ∀ {n e s t bd L ts hid lc fl m q}, (h1 : InD G Ps Fs j n s t bd L lc m q) → (h2 : B e (Dy sl od L)) → (h3 : K G Ps Fs B sl od hb j false (q + 3) ts 0 L hid lc fl) → motive true q (⟨20, n, 0, e⟩ :: ⟨4, 0, hb + hid.length, 0⟩ :: ts) 0 (L ++ [[], [], s, t]) ((L.length + 1) :: L.length :: hid) ((L.length, q + 2) :: lc) ((L.length, 0) :: fl) (K.inback h1 h2 h3))
    (ret : ∀ {pc pcx n x e L ts hid lc fl}, (h1 : cod Ps j pc = some (27, 0)) → (h2 : HidOK L hid fl) → (h3 : OpLt 0 fl) → (h4 : K G Ps Fs B sl od hb j false pcx ts 0 L hid lc fl) → motive true pc (⟨21, n, x, e⟩ :: ts) 2 L hid lc fl (K.ret h1 h2 h3 h4))
    (call : ∀ {pc n x e m L ts hid lc fl}, (h1 : cod Ps j pc = some (26, x)) → (h2 : x ≤ 3) → (h3 : m + 2 ≤ 128) → (h4 : OpLt m fl) → (h5 : K G Ps Fs B sl od hb j false (pc + 1) ts (m + 2) L hid lc fl) → motive true pc (⟨22, n, x, e⟩ :: ts) (m + x + 1) L hid lc fl (K.call h1 h2 h3 h4 h5))
    (item : ∀ {pc pc' n i e l m L ts hid lc fl}, (h1 : cod Ps j pc = some (13, i)) → (h2 : B e (Dy sl od L)) → (h3 : IsEL G (nd G n).Nx l) → (h4 : CI Ps Fs j L l (i + 1) (pc + 1) pc') → (h5 : m + 1 + dI l ≤ 128) → (h6 : OpLt m fl) → (h7 : K G Ps Fs B sl od hb j false pc' ts (m + 1) L hid lc fl) → motive true pc (⟨23, n, i, e⟩ :: ts) (m + 2) L hid lc ((m, 2) :: fl) (K.item h1 h2 h3 h4 h5 h6 h7))
    (bin : ∀ {pc n m L ts hid lc fl}, (h1 : cod Ps j pc = some (binI (nd G n).N)) → (h2 : ((nd G n).N = 20 ∨ (11 ≤ (nd G n).N ∧ (nd G n).N ≤ 16) ∨ (1 ≤ (nd G n).N ∧ (nd G n).N ≤ 6))) → (h3 : OpLt m fl) → (h4 : K G Ps Fs B sl od hb j false (pc + 1) ts (m + 1) L hid lc fl) → motive true pc (⟨24, n, 0, 0⟩ :: ts) (m + 2) L hid lc fl (K.bin h1 h2 h3 h4))
    (un : ∀ {pc n m L ts hid lc fl}, (h1 : cod Ps j pc = some (unI (nd G n).N)) → (h2 : 1 ≤ (nd G n).N) → (h3 : (nd G n).N ≤ 3) → (h4 : OpLt m fl) → (h5 : K G Ps Fs B sl od hb j false (pc + 1) ts (m + 1) L hid lc fl) → motive true pc (⟨25, n, 0, 0⟩ :: ts) (m + 1) L hid lc fl (K.un h1 h2 h3 h4 h5))
    (land : ∀ {pc b n e y m L ts hid lc fl}, (h1 : IsE G (nd G n).B y) → (h2 : B e (Dy sl od L)) → (h3 : cod Ps j pc = some (23, b)) → (h4 : pc < b) → (h5 : CE Ps Fs j L y (pc + 1) b) → (h6 : m + dE y ≤ 128) → (h7 : OpLt m fl) → (h8 : K G Ps Fs B sl od hb j false b ts (m + 1) L hid lc fl) → motive true pc (⟨26, n, 0, e⟩ :: ts) (m + 1) L hid lc fl (K.land h1 h2 h3 h4 h5 h6 h7 h8))
    (lor : ∀ {pc b n e y m L ts hid lc fl}, (h1 : IsE G (nd G n).B y) → (h2 : B e (Dy sl od L)) → (h3 : cod Ps j pc = some (24, b)) → (h4 : pc < b) → (h5 : CE Ps Fs j L y (pc + 1) b) → (h6 : m + dE y ≤ 128) → (h7 : OpLt m fl) → (h8 : K G Ps Fs B sl od hb j false b ts (m + 1) L hid lc fl) → motive true pc (⟨27, n, 0, e⟩ :: ts) (m + 1) L hid lc fl (K.lor h1 h2 h3 h4 h5 h6 h7 h8))
    (index : ∀ {pc m L ts hid lc fl}, (h1 : cod Ps j pc = some (11, 0)) → (h2 : OpLt m fl) → (h3 : K G Ps Fs B sl od hb j false (pc + 1) ts (m + 1) L hid lc fl) → motive true pc (⟨28, 0, 0, 0⟩ :: ts) (m + 2) L hid lc fl (K.index h1 h2 h3))
    {q : Bool} {pc : Nat} {ts : List Tk} {m : Nat} {L : List Str} {hid : List Nat} {lc fl : List (Nat × Nat)} (h : K G Ps Fs B sl od hb j q pc ts m L hid lc fl) : motive q pc ts m L hid lc fl h := by
  have hh := h (fun q pc ts m L hid lc fl => ∃ k : K G Ps Fs B sl od hb j q pc ts m L hid lc fl, motive q pc ts m L hid lc fl k) (fun lc ts L hid fl => BK G Ps Fs B sl od hb j lc ts L hid fl) {
      set := fun h1 => ⟨K.set h1.1, set h1.1⟩
      jmp := fun h1 h2 h3 => ⟨K.jmp h1 h2 h3.1, jmp h1 h2 h3.1⟩
      close := fun h1 h2 h3 h4 => ⟨K.close h1 h2 h3 h4.1, close h1 h2 h3 h4.1⟩
      stash := fun h1 h2 h3 h4 => ⟨K.stash h1 h2 h3 h4.1, stash h1 h2 h3 h4.1⟩
      foot := fun h1 h2 h3 => ⟨K.foot h1 h2 h3, foot h1 h2 h3⟩
      block := fun h1 h2 h3 h4 h5 h6 h7 => ⟨K.block h1 h2 h3 h4 h5 h6 h7.1, block h1 h2 h3 h4 h5 h6 h7.1⟩
      evl := fun h1 h2 h3 h4 h5 h6 => ⟨K.evl h1 h2 h3 h4 h5 h6.1, evl h1 h2 h3 h4 h5 h6.1⟩
      evl0 := fun h1 h2 h3 h4 => ⟨K.evl0 h1 h2 h3 h4.1, evl0 h1 h2 h3 h4.1⟩
      evl1 := fun h1 h2 h3 h4 h5 => ⟨K.evl1 h1 h2 h3 h4 h5.1, evl1 h1 h2 h3 h4 h5.1⟩
      pop := fun h1 h2 => ⟨K.pop h1 h2.1, pop h1 h2.1⟩
      bind := fun h1 h2 h3 h4 h5 h6 h7 h8 h9 => ⟨K.bind h1 h2 h3 h4 h5 h6 h7 h8 h9.1, bind h1 h2 h3 h4 h5 h6 h7 h8 h9.1⟩
      bind2 := fun h1 h2 h3 h4 h5 h6 h7 h8 h9 h10 h11 h12 => ⟨K.bind2 h1 h2 h3 h4 h5 h6 h7 h8 h9 h10 h11 h12.1, bind2 h1 h2 h3 h4 h5 h6 h7 h8 h9 h10 h11 h12.1⟩
      storeN := fun h1 h2 h3 h4 => ⟨K.storeN h1 h2 h3 h4.1, storeN h1 h2 h3 h4.1⟩
      storeI := fun h1 h2 => ⟨K.storeI h1 h2.1, storeI h1 h2.1⟩
      iff := fun h1 h2 h3 h4 h5 h6 h7 h8 h9 h10 h11 h12 => ⟨K.iff h1 h2 h3 h4 h5 h6 h7 h8 h9 h10 h11 h12.1, iff h1 h2 h3 h4 h5 h6 h7 h8 h9 h10 h11 h12.1⟩
      whl := fun h1 h2 h3 h4 => ⟨K.whl h1 h2 h3 h4.1, whl h1 h2 h3 h4.1⟩
      wtest := fun h1 h2 h3 h4 => ⟨K.wtest h1 h2 h3 h4.1, wtest h1 h2 h3 h4.1⟩
      wback := fun h1 h2 h3 h4 => ⟨K.wback h1 h2 h3 h4.1, wback h1 h2 h3 h4.1⟩
      loop := fun h1 => ⟨K.loop h1.1, loop h1.1⟩
      finit := fun h1 h2 h3 => ⟨K.finit h1 h2 h3.1, finit h1 h2 h3.1⟩
      ftest := fun h1 h2 h3 => ⟨K.ftest h1 h2 h3.1, ftest h1 h2 h3.1⟩
      fback := fun h1 h2 h3 => ⟨K.fback h1 h2 h3.1, fback h1 h2 h3.1⟩
      inin := fun h1 h2 h3 => ⟨K.inin h1 h2 h3.1, inin h1 h2 h3.1⟩
      intest := fun h1 h2 h3 => ⟨K.intest h1 h2 h3.1, intest h1 h2 h3.1⟩
      inback := fun h1 h2 h3 => ⟨K.inback h1 h2 h3.1, inback h1 h2 h3.1⟩
      ret := fun h1 h2 h3 h4 => ⟨K.ret h1 h2 h3 h4.1, ret h1 h2 h3 h4.1⟩
      call := fun h1 h2 h3 h4 h5 => ⟨K.call h1 h2 h3 h4 h5.1, call h1 h2 h3 h4 h5.1⟩
      item := fun h1 h2 h3 h4 h5 h6 h7 => ⟨K.item h1 h2 h3 h4 h5 h6 h7.1, item h1 h2 h3 h4 h5 h6 h7.1⟩
      bin := fun h1 h2 h3 h4 => ⟨K.bin h1 h2 h3 h4.1, bin h1 h2 h3 h4.1⟩
      un := fun h1 h2 h3 h4 h5 => ⟨K.un h1 h2 h3 h4 h5.1, un h1 h2 h3 h4 h5.1⟩
      land := fun h1 h2 h3 h4 h5 h6 h7 h8 => ⟨K.land h1 h2 h3 h4 h5 h6 h7 h8.1, land h1 h2 h3 h4 h5 h6 h7 h8.1⟩
      lor := fun h1 h2 h3 h4 h5 h6 h7 h8 => ⟨K.lor h1 h2 h3 h4 h5 h6 h7 h8.1, lor h1 h2 h3 h4 h5 h6 h7 h8.1⟩
      index := fun h1 h2 h3 => ⟨K.index h1 h2 h3.1, index h1 h2 h3.1⟩
      bnone := BK.none
      bsome := fun h1 h2 h3 h4 h5 => BK.some h1 h2 h3 h4 h5.1 }
  exact hh.2
theorem BK.inv {lc : List (Nat × Nat)} {ts : List Tk} {L : List Str} {hid : List Nat} {fl : List (Nat × Nat)} (h : BK G Ps Fs B sl od hb j lc ts L hid fl) :
    lc = [] ∨ ∃ n x r ts' hid0 fl0, lc = (n, x) :: r ∧ brkL ts = Option.some (⟨4, 0, hb + hid0.length, 0⟩, ts') ∧ hid0 <:+ hid ∧ fl0 <:+ fl ∧ n ≤ L.length ∧ K G Ps Fs B sl od hb j false x ts' 0 (L.take n) hid0 r fl0 := by
  have hh := h (fun q pc ts m L hid lc fl => K G Ps Fs B sl od hb j q pc ts m L hid lc fl) (fun lc ts L hid fl => BK G Ps Fs B sl od hb j lc ts L hid fl ∧ (lc = [] ∨ ∃ n x r ts' hid0 fl0, lc = (n, x) :: r ∧ brkL ts = Option.some (⟨4, 0, hb + hid0.length, 0⟩, ts') ∧ hid0 <:+ hid ∧ fl0 <:+ fl ∧ n ≤ L.length ∧ K G Ps Fs B sl od hb j false x ts' 0 (L.take n) hid0 r fl0)) {
      set := fun h1 => K.set h1
      jmp := fun h1 h2 h3 => K.jmp h1 h2 h3
      close := fun h1 h2 h3 h4 => K.close h1 h2 h3 h4
      stash := fun h1 h2 h3 h4 => K.stash h1 h2 h3 h4
      foot := fun h1 h2 h3 => K.foot h1 h2 h3
      block := fun h1 h2 h3 h4 h5 h6 h7 => K.block h1 h2 h3 h4 h5 h6.1 h7
      evl := fun h1 h2 h3 h4 h5 h6 => K.evl h1 h2 h3 h4 h5 h6
      evl0 := fun h1 h2 h3 h4 => K.evl0 h1 h2 h3 h4
      evl1 := fun h1 h2 h3 h4 h5 => K.evl1 h1 h2 h3 h4 h5
      pop := fun h1 h2 => K.pop h1 h2
      bind := fun h1 h2 h3 h4 h5 h6 h7 h8 h9 => K.bind h1 h2 h3 h4 h5 h6 h7 h8.1 h9
      bind2 := fun h1 h2 h3 h4 h5 h6 h7 h8 h9 h10 h11 h12 => K.bind2 h1 h2 h3 h4 h5 h6 h7 h8 h9 h10 h11.1 h12
      storeN := fun h1 h2 h3 h4 => K.storeN h1 h2 h3 h4
      storeI := fun h1 h2 => K.storeI h1 h2
      iff := fun h1 h2 h3 h4 h5 h6 h7 h8 h9 h10 h11 h12 => K.iff h1 h2 h3 h4 h5 h6 h7 h8 h9 h10 h11.1 h12
      whl := fun h1 h2 h3 h4 => K.whl h1 h2 h3 h4
      wtest := fun h1 h2 h3 h4 => K.wtest h1 h2 h3 h4
      wback := fun h1 h2 h3 h4 => K.wback h1 h2 h3 h4
      loop := fun h1 => K.loop h1
      finit := fun h1 h2 h3 => K.finit h1 h2 h3
      ftest := fun h1 h2 h3 => K.ftest h1 h2 h3
      fback := fun h1 h2 h3 => K.fback h1 h2 h3
      inin := fun h1 h2 h3 => K.inin h1 h2 h3
      intest := fun h1 h2 h3 => K.intest h1 h2 h3
      inback := fun h1 h2 h3 => K.inback h1 h2 h3
      ret := fun h1 h2 h3 h4 => K.ret h1 h2 h3 h4
      call := fun h1 h2 h3 h4 h5 => K.call h1 h2 h3 h4 h5
      item := fun h1 h2 h3 h4 h5 h6 h7 => K.item h1 h2 h3 h4 h5 h6 h7
      bin := fun h1 h2 h3 h4 => K.bin h1 h2 h3 h4
      un := fun h1 h2 h3 h4 h5 => K.un h1 h2 h3 h4 h5
      land := fun h1 h2 h3 h4 h5 h6 h7 h8 => K.land h1 h2 h3 h4 h5 h6 h7 h8
      lor := fun h1 h2 h3 h4 h5 h6 h7 h8 => K.lor h1 h2 h3 h4 h5 h6 h7 h8
      index := fun h1 h2 h3 => K.index h1 h2 h3
      bnone := ⟨BK.none, .inl rfl⟩
      bsome := fun h1 h2 h3 h4 h5 => ⟨BK.some h1 h2 h3 h4 h5, .inr ⟨_, _, _, _, _, _, rfl, h1, h2, h3, h4, h5⟩⟩ }
  exact hh.2
end

end Go.Proofs.Qxb6500568aGreatDoor
