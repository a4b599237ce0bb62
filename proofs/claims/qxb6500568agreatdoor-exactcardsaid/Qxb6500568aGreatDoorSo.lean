import Derived.Test.Qxb6500568aGreatDoorSn
namespace Go.Proofs.Qxb6500568aGreatDoor
open Ieee
set_option linter.unusedVariables false
set_option linter.unusedSimpArgs false
set_option linter.unusedSectionVars false

/-! The tokens of a text. -/

/-- how the keywords (kinds 5 ..) and the signs (kinds 24 ..) are spelled. -/
def kwL : List Str := [[98, 114, 101, 97, 107], [100, 111], [101, 108, 115, 101], [101, 108, 115, 101, 105, 102], [101, 110, 100], [102, 97, 108, 115, 101], [102, 111, 114], [102, 117, 110, 99, 116, 105, 111, 110], [105, 102], [105, 110], [108, 111, 99, 97, 108], [110, 105, 108], [110, 111, 116], [114, 101, 116, 117, 114, 110], [116, 104, 101, 110], [116, 114, 117, 101], [119, 104, 105, 108, 101], [111, 114], [97, 110, 100]]
def sgL : List Str := [[61, 61], [126, 61], [60], [60, 61], [62], [62, 61], [46, 46], [43], [45], [42], [47], [47, 47], [37], [35], [61], [40], [41], [123], [125], [91], [93], [44], [46]]
def isSp (c : UInt8) : Bool := c == 32 || c == 9 || c == 10 || c == 13
def isLet (c : UInt8) : Bool := (decide (97 ≤ c) && decide (c ≤ 122)) || (decide (65 ≤ c) && decide (c ≤ 90)) || c == 95
def isDig (c : UInt8) : Bool := decide (48 ≤ c) && decide (c ≤ 57)
def isWrd (c : UInt8) : Bool := isLet c || isDig c
/-- blanks and comments; cm: within a comment. What is left, and its place. -/
def skipL : Bool → Str → Nat → Str × Nat
  | _, [], p => ([], p)
  | true, c :: r, p => if c = 10 then skipL false r (p + 1) else skipL true r (p + 1)
  | false, c :: r, p => if isSp c = true then skipL false r (p + 1) else if c = 45 ∧ r.head? = some 45 then skipL true r (p + 1) else (c :: r, p)
def posS (w : Str) (l : List Str) : Option Nat := posP (fun u => decide (u = w)) l
/-- the length of the number that opens a text. -/
def numLen (l : Str) : Nat :=
  let d := (l.takeWhile isDig).length
  let r := l.drop d
  match r with
  | c :: q =>
    if c = 46 ∧ (q.head?.map isDig).getD false = true then d + 1 + (q.takeWhile isDig).length
    else if c = 112 ∧ (q.head?.map isDig).getD false = true then d + 1 + (q.takeWhile isDig).length
    else if c = 112 ∧ q.head? = some 45 ∧ (q.tail.head?.map isDig).getD false = true then d + 2 + (q.tail.takeWhile isDig).length
    else d
  | [] => d
def twoC (c d : UInt8) : Bool := (c == 61 && d == 61) || (c == 126 && d == 61) || (c == 60 && d == 61) || (c == 62 && d == 61) || (c == 46 && d == 46) || (c == 47 && d == 47)
/-- the token that opens at c, and how many bytes it takes. -/
def tokAt (c : UInt8) (r : Str) (p : Nat) : Tok × Nat :=
  if isLet c = true then
    let w := c :: r.takeWhile isWrd
    (if w.length ≤ 40 then ⟨match posS w kwL with | some i => 5 + i | none => 2, p, w, 0, 0⟩ else ⟨1, p, [], 0, 14⟩, w.length)
  else if isDig c = true then
    let w := (c :: r).take (numLen (c :: r))
    (match parN w with | some x => ⟨3, p, [], x, 0⟩ | none => ⟨1, p, [], 0, 2⟩, w.length)
  else if c = 34 then
    let w := r.takeWhile fun d => decide (d ≠ 34) && decide (d ≠ 10)
    (if (r.drop w.length).head? = some 34 ∧ w.length ≤ 40 then ⟨4, p, w, 0, 0⟩ else ⟨1, p, [], 0, 14⟩, w.length + 2)
  else
    let w : Str := match r with | d :: _ => if twoC c d = true then [c, d] else [c] | [] => [c]
    (match posS w sgL with | some i => ⟨24 + i, p, [], 0, 0⟩ | none => ⟨1, p, [], 0, 13⟩, w.length)
def toksF : Nat → Str → Nat → List Tok
  | 0, _, _ => []
  | n + 1, s, p => match skipL false s p with
    | ([], q) => [⟨0, q, [], 0, 0⟩]
    | (c :: r, q) => if (tokAt c r q).1.k = 1 then [(tokAt c r q).1] else (tokAt c r q).1 :: toksF n ((c :: r).drop (tokAt c r q).2) (q + (tokAt c r q).2)
def toks (s : Str) : List Tok := toksF (s.length + 1) s 0

def TkO (t : Tok) : Prop := (t.k = 2 → NmW t.s) ∧ (t.k = 4 → t.s.length ≤ 40) ∧ (t.k = 3 → W64 t.n ∧ (isNaNW t.n = true → t.n = nanB))
theorem tkO_bad {p e : Nat} : TkO ⟨1, p, [], 0, e⟩ := ⟨(fun h => by cases h), (fun h => by cases h), (fun h => by cases h)⟩
theorem tokAt_ok (c : UInt8) (r : Str) (p : Nat) : TkO (tokAt c r p).1 := by
  unfold tokAt
  dsimp only
  split
  · show TkO (if _ then _ else _)
    split
    · rename_i h
      have hk : ∀ o : Option Nat, (match o with | some i => 5 + i | none => 2) ≠ 4 ∧ (match o with | some i => 5 + i | none => 2) ≠ 3 := fun o => by
        rcases o with _ | i
        · exact ⟨by decide, by decide⟩
        · exact ⟨by show 5 + i ≠ 4; omega, by show 5 + i ≠ 3; omega⟩
      exact ⟨fun _ => ⟨by simp, h⟩, fun h4 => absurd h4 (hk _).1, fun h3 => absurd h3 (hk _).2⟩
    · exact tkO_bad
  · split
    · show TkO (match parN _ with | some x => _ | none => _)
      split
      · rename_i x hx
        exact ⟨(fun h => by cases h), (fun h => by cases h), fun _ => parN_ok hx⟩
      · exact tkO_bad
    · split
      · show TkO (if _ then _ else _)
        split
        · rename_i h
          exact ⟨(fun h => by cases h), fun _ => h.2, (fun h => by cases h)⟩
        · exact tkO_bad
      · show TkO (match posS _ sgL with | some i => _ | none => _)
        split
        · exact ⟨fun h => (by have h : 24 + _ = 2 := h; omega), fun h => (by have h : 24 + _ = 4 := h; omega), fun h => (by have h : 24 + _ = 3 := h; omega)⟩
        · exact tkO_bad
theorem toksF_ok : ∀ (n : Nat) (s : Str) (p : Nat), TkOK (toksF n s p)
  | 0, s, p => fun t ht => by cases ht
  | n + 1, s, p => by
    unfold toksF
    rcases skipL false s p with ⟨_ | ⟨c, r⟩, q⟩
    · intro t ht
      rw [List.mem_singleton.1 ht]
      exact ⟨(fun h => by cases h), (fun h => by cases h), (fun h => by cases h)⟩
    · dsimp only
      split
      · intro t ht
        rw [List.mem_singleton.1 ht]
        exact tokAt_ok c r q
      · intro t ht
        rcases List.mem_cons.1 ht with rfl | ht
        · exact tokAt_ok c r q
        · exact toksF_ok n _ _ t ht

end Go.Proofs.Qxb6500568aGreatDoor
