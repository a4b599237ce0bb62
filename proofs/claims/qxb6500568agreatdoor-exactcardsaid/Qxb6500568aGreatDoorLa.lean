import Derived.Test.Qxb6500568aGreatDoorBk
namespace Go.Proofs.Qxb6500568aGreatDoor
open Ieee
set_option linter.unusedVariables false
set_option linter.unusedSimpArgs false

/-! The language's values, and a run's tables, as plain data. -/

abbrev Str := List UInt8
structure PV where
  T : Nat
  N : Nat
  S : List UInt8
/-- equality of values is decided field by field. -/
def PV.dec (a b : PV) : Decidable (a = b) :=
  decidable_of_iff (a.T = b.T ∧ a.N = b.N ∧ a.S = b.S) (by
    constructor
    · rintro ⟨h1, h2, h3⟩; cases a; cases b; simp at h1 h2 h3; rw [h1, h2, h3]
    · rintro rfl; exact ⟨rfl, rfl, rfl⟩)

def vNil : PV := ⟨0, 0, []⟩
def vBool (b : Bool) : PV := ⟨1, if b then 1 else 0, []⟩
def vNum (x : Nat) : PV := ⟨2, x, []⟩
def vStr (s : Str) : PV := ⟨3, 0, s⟩
def vTab (h : Nat) : PV := ⟨4, h, []⟩
def vFun (h : Nat) : PV := ⟨5, h, []⟩
def vBi (h : Nat) : PV := ⟨6, h, []⟩
def vCo (h : Nat) : PV := ⟨7, h, []⟩

def wfV (v : PV) : Bool :=
  if v.T = 3 then decide (v.N = 0) && decide (v.S.length ≤ 40)
  else if v.S = [] ∧ v.T ≤ 7 then
    if v.T = 0 then decide (v.N = 0) else if v.T = 1 then decide (v.N ≤ 1) else if v.T = 6 then decide (1 ≤ v.N) && decide (v.N ≤ 11)
    else if v.T = 4 ∨ v.T = 5 ∨ v.T = 7 then decide (v.N < 4294967296) else true
  else false

def trV (v : PV) : Bool := if v.T = 0 then false else decide (v.T ≠ 1) || decide (v.N ≠ 0)

/-! tables -/

abbrev Tb := List (PV × PV)
def nrmK (k : PV) : PV := if k.T = 2 ∧ k.N = 9223372036854775808 then ⟨2, 0, k.S⟩ else k
def place : Tb → PV → Option Nat
  | [], _ => none
  | p :: t, k => @ite _ (p.1 = k) (PV.dec p.1 k) (some 0) <| (place t k).map (· + 1)
def look (t : Tb) (k : PV) : Option PV := (place t k).bind fun i => (t[i]?).map (·.2)
def tGet (t : Tb) (k : PV) : PV := (look t (nrmK k)).getD vNil
def tSet (t : Tb) (k v : PV) : Nat × Tb :=
  if k.T = 0 then (5, t) else if k.T = 2 ∧ isNaNW k.N = true then (6, t) else
  match place t (nrmK k) with
  | some i => (0, t.modify i fun p => (p.1, v))
  | none => if v.T = 0 then (0, t) else if 32 ≤ t.length then (8, t) else (0, t ++ [(nrmK k, v)])
def live : Tb → PV × PV
  | [] => (vNil, vNil)
  | p :: t => if p.2.T = 0 then live t else p
def tNext (t : Tb) (k : PV) : Option (PV × PV) :=
  if k.T = 0 then some (live t) else (place t (nrmK k)).map fun i => live (t.drop (i + 1))
def lenF : Nat → Nat → Tb → Nat
  | 0, n, _ => n
  | f + 1, n, t => match look t (vNum (fInt (n + 1))) with
    | none => n
    | some v => if v.T = 0 then n else lenF f (n + 1) t
def tLen (t : Tb) : Nat := lenF 33 0 t

theorem place_lt : ∀ {t : Tb} {k : PV} {i : Nat}, place t k = some i → i < t.length
  | [], k, i, h => by simp [place] at h
  | p :: t, k, i, h => by
    simp only [place] at h
    split at h
    · cases h; simp
    · cases hp : place t k with
      | none => rw [hp] at h; simp at h
      | some j => rw [hp] at h; simp at h; have := place_lt hp; simp; omega
theorem place_get : ∀ {t : Tb} {k : PV} {i : Nat}, place t k = some i → ∃ v, t[i]? = some (k, v)
  | [], k, i, h => by simp [place] at h
  | p :: t, k, i, h => by
    simp only [place] at h
    split at h
    · rename_i he; cases h; exact ⟨p.2, by simp [← he]⟩
    · cases hp : place t k with
      | none => rw [hp] at h; simp at h
      | some j => rw [hp] at h; simp at h; obtain ⟨v, hv⟩ := place_get hp; exact ⟨v, by rw [← h]; simpa using hv⟩
theorem place_first : ∀ {t : Tb} {k : PV} {i : Nat}, i < t.length → (∀ j, j < i → (t[j]?).map (·.1) ≠ some k) → (t[i]?).map (·.1) = some k → place t k = some i
  | p :: t, k, 0, hl, hn, h => by simp at h; simp [place, h]
  | p :: t, k, i + 1, hl, hn, h => by
    have h0 := hn 0 (by omega); simp at h0
    have := place_first (t := t) (k := k) (i := i) (by simp at hl; omega) (fun j hj => by simpa using hn (j + 1) (by omega)) (by simpa using h)
    simp [place, h0, this]
theorem place_none : ∀ {t : Tb} {k : PV}, (∀ j : Nat, (t[j]?).map (·.1) ≠ some k) → place t k = none
  | [], k, _ => rfl
  | p :: t, k, hn => by
    have h0 := hn 0; simp at h0
    have := place_none (t := t) (k := k) (fun j => by simpa using hn (j + 1))
    simp [place, h0, this]
theorem place_some {t : Tb} {k v : PV} {i : Nat} (h : t[i]? = some (k, v)) (hd : ∀ j u, t[j]? = some (k, u) → j = i) : place t k = some i := by
  have hl : i < t.length := by have := List.getElem?_eq_some_iff.mp h; exact this.1
  refine place_first hl (fun j hj he => ?_) (by simp [h])
  cases hq : t[j]? with
  | none => simp [hq] at he
  | some q =>
    obtain ⟨q1, q2⟩ := q
    simp [hq] at he; subst he
    have := hd j q2 hq; omega

/-- the keys of a table are well formed, never nil, never NaN, never -0, and unlike. -/
structure TOK (t : Tb) : Prop where
  len : t.length ≤ 32
  key : ∀ (i : Nat) k v, t[i]? = some (k, v) → wfV k = true ∧ wfV v = true ∧ k.T ≠ 0 ∧ (k.T = 2 → isNaNW k.N = false) ∧ nrmK k = k ∧ W64 k.N
  one : ∀ (i j : Nat) k u v, t[i]? = some (k, u) → t[j]? = some (k, v) → i = j

end Go.Proofs.Qxb6500568aGreatDoor
