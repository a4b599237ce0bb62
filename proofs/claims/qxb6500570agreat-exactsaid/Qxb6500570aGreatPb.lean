import Derived.Test.Qxb6500570aGreatPa
/- Plain: the parser as a machine with two stacks over the tokens. -/
namespace Go.Proofs.Qxb6500570aGreat
set_option linter.unusedVariables false
set_option linter.unusedSimpArgs false

/-- A mark: 1 a sign, 2 an operator, 3 a bracket, 4 a call. -/
structure Mk where
  k : Nat
  o : Nat
  n : Nat
  l : Int

/-- The machine. -/
structure PS where
  ts : List Tk
  ar : List Nd
  ov : List Nat
  os : List Mk
  hv : Bool

abbrev nLeaf (k n : Nat) : Nd := ⟨k, 0, -1, -1, n, zR, zR⟩
abbrev nRef (r : Rf) : Nd := ⟨3, 0, -1, -1, 0, r, zR⟩
abbrev nRng (r q : Rf) : Nd := ⟨4, 0, -1, -1, 0, r, q⟩
abbrev nNeg (a : Nat) : Nd := ⟨6, 0, a, -1, 0, zR, zR⟩
abbrev nBin (o a b : Nat) : Nd := ⟨7, o, a, b, 0, zR, zR⟩
abbrev nCall (f : Nat) (a : Int) (n : Nat) : Nd := ⟨8, f, a, -1, n, zR, zR⟩
abbrev nArg (a : Nat) (b : Int) : Nd := ⟨9, 0, a, b, 0, zR, zR⟩

def addN (ar : List Nd) (x : Nd) : Option (List Nd) := if ar.length < 24 then some (ar ++ [x]) else none

def strg (o : Nat) : Nat := if o ≤ 6 then 1 else if o ≤ 8 then 2 else 3
def topS (os : List Mk) : Nat := match os with
  | [] => 0
  | m :: _ => if m.k = 2 then strg m.o else 0
def rangeOK (f : Nat) : Bool := decide (1 ≤ f) && decide (f ≤ 4)
def arity (f n : Nat) : Bool := if f = 5 then decide (n = 3) else if f = 8 ∨ f = 9 ∨ f = 10 then decide (n = 1) else if 1 ≤ f ∧ f ≤ 7 then decide (1 ≤ n) else false
def rgOf (os : List Mk) : Bool := match os with
  | [] => false
  | m :: _ => decide (m.k = 4) && rangeOK m.o
def hdT (ts : List Tk) : Tk := ts.headD tkEnd

def joinP (m : Mk) (ar : List Nd) (ov : List Nat) : Option (List Nd × List Nat) := match ov with
  | b :: a :: ov' => (addN ar (nBin m.o a b)).map (fun ar' => (ar', ar.length :: ov'))
  | _ => none

def settle : List Mk → List Nd → List Nat → Option (List Nd × List Nat × List Mk)
  | [], ar, ov => some (ar, ov, [])
  | m :: os, ar, ov => if m.k = 1 then
        match ov with
        | v :: ov' => match addN ar (nNeg v) with
          | some ar' => settle os ar' (ar.length :: ov')
          | none => none
        | [] => none
      else if m.k = 2 ∧ strg m.o = 3 then (joinP m ar ov).map (fun x => (x.1, x.2, os))
      else some (ar, ov, m :: os)

def settleS (ts : List Tk) (ar : List Nd) (ov : List Nat) (os : List Mk) : Option PS := (settle os ar ov).map (fun x => ⟨ts, x.1, x.2.1, x.2.2, true⟩)
def wholeP (x : Nd) (ts : List Tk) (ar : List Nd) (ov : List Nat) (os : List Mk) : Option PS := match addN ar x with
  | some ar' => settleS ts ar' (ar.length :: ov) os
  | none => none

/-- An expression is at its end. -/
def shutP (m : Mk) (ts : List Tk) (ar : List Nd) (ov : List Nat) (os : List Mk) : Option (PS ⊕ List Nd) :=
  if (hdT ts).k = 41 then
    (if m.k = 3 then (settleS ts.tail ar ov os).map .inl else if arity m.o m.n = true then (wholeP (nCall m.o m.l m.n) ts.tail ar ov os).map .inl else none)
  else none
def closeP (ts : List Tk) (ar : List Nd) (ov : List Nat) (os : List Mk) : Option (PS ⊕ List Nd) := match os with
  | [] => if (hdT ts).k = 0 then some (.inr ar) else none
  | m :: os' => if m.k = 4 then
        match ov with
        | v :: ov' => match addN ar (nArg v m.l) with
          | some ar' => if (hdT ts).k = 44 then some (.inl ⟨ts.tail, ar', ov', ⟨4, m.o, m.n + 1, ar.length⟩ :: os', false⟩)
              else shutP ⟨4, m.o, m.n + 1, ar.length⟩ ts ar' ov' os'
          | none => none
        | [] => none
      else shutP m ts ar ov os'

def tkS (t : Tk) : Nat := if t.k = 6 then strg t.n else 0
def isRng (ar : List Nd) (v : Nat) : Bool := match ar[v]? with
  | some x => decide (x.k = 4)
  | none => false
/-- An operator, or the end of the expression. -/
def after2 (s : Nat) (ts : List Tk) (ar : List Nd) (ov : List Nat) (os : List Mk) : Option (PS ⊕ List Nd) :=
  if s = 0 then closeP ts ar ov os else match ov with
    | v :: ov' => if isRng ar v = true then none else some (.inl ⟨ts.tail, ar, ov, ⟨2, (hdT ts).n, 0, 0⟩ :: os, false⟩)
    | [] => none
def after1 (s : Nat) (ts : List Tk) (ar : List Nd) (ov : List Nat) (os : List Mk) : Option (PS ⊕ List Nd) := match os with
  | m :: os' => if s < 2 ∧ topS os = 1 then
        match joinP m ar ov with
        | some x => after2 0 ts x.1 x.2 os'
        | none => none
      else after2 s ts ar ov os
  | [] => after2 s ts ar ov os
def after0 (s : Nat) (ts : List Tk) (ar : List Nd) (ov : List Nat) (os : List Mk) : Option (PS ⊕ List Nd) := match os with
  | m :: os' => if s < 3 ∧ topS os = 2 then
        match joinP m ar ov with
        | some x => after1 s ts x.1 x.2 os'
        | none => none
      else after1 s ts ar ov os
  | [] => after1 s ts ar ov os

def refP (r : Rf) (ts : List Tk) (ar : List Nd) (ov : List Nat) (os : List Mk) : Option PS :=
  if (hdT ts).k = 1 then none else if (hdT ts).k = 58 then
    (if (hdT ts.tail).k = 4 ∧ rgOf os = true then wholeP (nRng r (hdT ts.tail).r) ts.tail.tail ar ov os else none)
  else wholeP (nRef r) ts ar ov os
/-- An operand is due. -/
def atomP (ts : List Tk) (ar : List Nd) (ov : List Nat) (os : List Mk) : Option PS :=
  if (hdT ts).k = 2 then wholeP (nLeaf (hdT ts).o (hdT ts).n) ts.tail ar ov os
  else if (hdT ts).k = 4 then refP (hdT ts).r ts.tail ar ov os
  else if (hdT ts).k = 5 then
    (if (hdT ts.tail).k = 40 ∧ (hdT ts.tail.tail).k ≠ 41 ∧ (hdT ts.tail.tail).k ≠ 1 then some ⟨ts.tail.tail, ar, ov, ⟨4, (hdT ts).n, 0, -1⟩ :: os, false⟩ else none)
  else if (hdT ts).k = 40 then some ⟨ts.tail, ar, ov, ⟨3, 0, 0, 0⟩ :: os, false⟩
  else if (hdT ts).k = 6 ∧ (hdT ts).n = 8 then some ⟨ts.tail, ar, ov, ⟨1, 0, 0, 0⟩ :: os, false⟩
  else none

def stepM (st : PS) : Option (PS ⊕ List Nd) := if st.hv = true then after0 (tkS (hdT st.ts)) st.ts st.ar st.ov st.os else (atomP st.ts st.ar st.ov st.os).map .inl

def runM : Nat → PS → Option (List Nd)
  | 0, _ => none
  | f + 1, st => match stepM st with
    | none => none
    | some (.inr ar) => some ar
    | some (.inl st') => runM f st'

theorem hd_ne {ts : List Tk} (h : (hdT ts).k ≠ 0) : ts.tail.length + 1 = ts.length := by
  cases ts with
  | nil => exact absurd rfl h
  | cons t ts => simp

theorem settleS_ts {ts : List Tk} {ar : List Nd} {ov : List Nat} {os : List Mk} {st : PS} (h : settleS ts ar ov os = some st) : st.ts = ts ∧ st.hv = true := by
  unfold settleS at h
  cases hs : settle os ar ov with
  | none => rw [hs] at h; cases h
  | some x => rw [hs] at h; cases h; exact ⟨rfl, rfl⟩
theorem wholeP_ts {x : Nd} {ts : List Tk} {ar : List Nd} {ov : List Nat} {os : List Mk} {st : PS} (h : wholeP x ts ar ov os = some st) : st.ts = ts ∧ st.hv = true := by
  unfold wholeP at h
  split at h
  · exact settleS_ts h
  · cases h
theorem shutP_ts {m : Mk} {ts : List Tk} {ar : List Nd} {ov : List Nat} {os : List Mk} {st : PS} (h : shutP m ts ar ov os = some (.inl st)) : st.ts.length < ts.length := by
  unfold shutP at h
  split at h
  · rename_i hk
    have hl := hd_ne (ts := ts) (by omega)
    split at h
    · cases hs : settleS ts.tail ar ov os with
      | none => rw [hs] at h; cases h
      | some x => rw [hs] at h; cases h; have := (settleS_ts hs).1; rw [this]; omega
    · split at h
      · cases hs : wholeP (nCall m.o m.l m.n) ts.tail ar ov os with
        | none => rw [hs] at h; cases h
        | some x => rw [hs] at h; cases h; have := (wholeP_ts hs).1; rw [this]; omega
      · cases h
  · cases h
theorem closeP_ts {ts : List Tk} {ar : List Nd} {ov : List Nat} {os : List Mk} {st : PS} (h : closeP ts ar ov os = some (.inl st)) : st.ts.length < ts.length := by
  unfold closeP at h
  split at h
  · split at h <;> cases h
  · split at h
    · split at h
      · split at h
        · split at h
          · rename_i hk
            have hl := hd_ne (ts := ts) (by omega)
            cases h
            show ts.tail.length < _
            omega
          · exact shutP_ts h
        · cases h
      · cases h
    · exact shutP_ts h
theorem after2_ts {s : Nat} {ts : List Tk} {ar : List Nd} {ov : List Nat} {os : List Mk} {st : PS} (hs : s = 0 ∨ (hdT ts).k ≠ 0) (h : after2 s ts ar ov os = some (.inl st)) : st.ts.length < ts.length := by
  unfold after2 at h
  split at h
  · exact closeP_ts h
  · have hl := hd_ne (ts := ts) (by omega)
    split at h
    · split at h
      · cases h
      · cases h
        show ts.tail.length < _
        omega
    · cases h
theorem after1_ts {s : Nat} {ts : List Tk} {ar : List Nd} {ov : List Nat} {os : List Mk} {st : PS} (hs : s = 0 ∨ (hdT ts).k ≠ 0) (h : after1 s ts ar ov os = some (.inl st)) : st.ts.length < ts.length := by
  unfold after1 at h
  split at h
  · split at h
    · split at h
      · exact after2_ts (.inl rfl) h
      · cases h
    · exact after2_ts hs h
  · exact after2_ts hs h
theorem after0_ts {s : Nat} {ts : List Tk} {ar : List Nd} {ov : List Nat} {os : List Mk} {st : PS} (hs : s = 0 ∨ (hdT ts).k ≠ 0) (h : after0 s ts ar ov os = some (.inl st)) : st.ts.length < ts.length := by
  unfold after0 at h
  split at h
  · split at h
    · split at h
      · exact after1_ts hs h
      · cases h
    · exact after1_ts hs h
  · exact after1_ts hs h
theorem refP_ts {r : Rf} {ts : List Tk} {ar : List Nd} {ov : List Nat} {os : List Mk} {st : PS} (h : refP r ts ar ov os = some st) : st.ts.length ≤ ts.length := by
  unfold refP at h
  split at h
  · cases h
  · split at h
    · split at h
      · rw [(wholeP_ts h).1]; simp only [List.length_tail]; omega
      · cases h
    · rw [(wholeP_ts h).1]; exact Nat.le_refl _
theorem atomP_ts {ts : List Tk} {ar : List Nd} {ov : List Nat} {os : List Mk} {st : PS} (h : atomP ts ar ov os = some st) : st.ts.length < ts.length := by
  unfold atomP at h
  split at h
  · rename_i hk
    have hl := hd_ne (ts := ts) (by omega)
    rw [(wholeP_ts h).1]; omega
  · split at h
    · rename_i hk
      have hl := hd_ne (ts := ts) (by omega)
      have := refP_ts h
      omega
    · split at h
      · rename_i hk
        have hl := hd_ne (ts := ts) (by omega)
        split at h
        · cases h
          show ts.tail.tail.length < _
          simp only [List.length_tail] at hl ⊢
          omega
        · cases h
      · split at h
        · rename_i hk
          have hl := hd_ne (ts := ts) (by omega)
          cases h
          show ts.tail.length < _
          omega
        · split at h
          · rename_i hk
            have hl := hd_ne (ts := ts) (by omega)
            cases h
            show ts.tail.length < _
            omega
          · cases h
theorem stepM_ts {st st' : PS} (h : stepM st = some (.inl st')) : st'.ts.length < st.ts.length := by
  unfold stepM at h
  split at h
  · refine after0_ts ?_ h
    unfold tkS
    split
    · rename_i hk; right; omega
    · exact .inl rfl
  · cases hs : atomP st.ts st.ar st.ov st.os with
    | none => rw [hs] at h; cases h
    | some x => rw [hs] at h; cases h; exact atomP_ts hs

theorem runM_up : ∀ (n f g : Nat) (st : PS), st.ts.length ≤ n → st.ts.length < f → st.ts.length < g → runM f st = runM g st := by
  intro n
  induction n with
  | zero =>
    intro f g st hn hf hg
    cases f with
    | zero => omega
    | succ f =>
      cases g with
      | zero => omega
      | succ g =>
        simp only [runM]
        cases hs : stepM st with
        | none => rfl
        | some x =>
          cases x with
          | inl st' => have := stepM_ts hs; omega
          | inr ar => rfl
  | succ n ih =>
    intro f g st hn hf hg
    cases f with
    | zero => omega
    | succ f =>
      cases g with
      | zero => omega
      | succ g =>
        simp only [runM]
        cases hs : stepM st with
        | none => rfl
        | some x =>
          cases x with
          | inl st' => have := stepM_ts hs; exact ih f g st' (by omega) (by omega) (by omega)
          | inr ar => rfl

/-- What the machine answers from a state on. -/
def R (st : PS) : Option (List Nd) := runM (st.ts.length + 1) st
def RO' (x : Option (PS ⊕ List Nd)) : Option (List Nd) := match x with
  | none => none
  | some (.inr ar) => some ar
  | some (.inl st) => R st
theorem R_eq (st : PS) : R st = RO' (stepM st) := by
  unfold R
  simp only [runM]
  cases hs : stepM st with
  | none => rfl
  | some x =>
    cases x with
    | inl st' => have := stepM_ts hs; exact runM_up _ _ _ st' (Nat.le_refl _) (by omega) (by omega)
    | inr ar => rfl

/-- The arena that a text parses to. -/
def parseP (s : List UInt8) : Option (List Nd) := R ⟨toks s, [], [], [], false⟩

end Go.Proofs.Qxb6500570aGreat
