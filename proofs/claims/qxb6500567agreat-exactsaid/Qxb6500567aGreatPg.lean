import Derived.Test.Qxb6500567aGreatPf
/- The grammar, plain: a descent and a stack machine that read alike. -/
namespace Go.Proofs.Qxb6500567aGreat
set_option linter.unusedVariables false
set_option linter.unusedSimpArgs false

/-- An error and its place. -/
abbrev Er := Nat × Nat

/-- The bytes lo .. hi. -/
def rng (lo hi : Nat) : Cset := if lo ≤ hi then 2 ^ (hi + 1) - 2 ^ lo else 0
/-- All other bytes. -/
def cpl (S : Cset) : Cset := S ^^^ (2 ^ 256 - 1)

def isDig (b : UInt8) : Bool := decide (48 ≤ b.toNat ∧ b.toNat ≤ 57)

/-- One digit more, never above 4. -/
def digS (v : Int) (b : UInt8) : Int := if 3 < (if v < 0 then 0 else v) * 10 + ((b.toNat : Int) - 48) then 4 else (if v < 0 then 0 else v) * 10 + ((b.toNat : Int) - 48)

/-- A number: -1 where no digit stands; never above 4. -/
def numF : List UInt8 → Int → Int × Nat
  | [], v => (v, 0)
  | b :: bs, v => if isDig b then ((numF bs (digS v b)).1, (numF bs (digS v b)).2 + 1) else (v, 0)
def num (p : List UInt8) (i : Nat) : Int × Nat := let r := numF (p.drop i) (-1); (r.1, i + r.2)

/-- The second number in braces. -/
def brcB (p : List UInt8) (a : Int × Nat) : Int × Nat := if p[a.2]? = some 44 then num p (a.2 + 1) else a
def mxO (v : Int) : Option Nat := if v < 0 then none else some v.toNat

/-- The count in braces, behind the brace at i. -/
def brc (p : List UInt8) (i : Nat) : Option (Nat × Option Nat × Nat) :=
  if p[(brcB p (num p (i + 1))).2]? = some 125 ∧ 0 ≤ (num p (i + 1)).1 ∧ (num p (i + 1)).1 ≤ 3 ∧ (brcB p (num p (i + 1))).1 ≤ 3 ∧ (0 ≤ (brcB p (num p (i + 1))).1 → (num p (i + 1)).1 ≤ (brcB p (num p (i + 1))).1) then
    some ((num p (i + 1)).1.toNat, mxO (brcB p (num p (i + 1))).1, (brcB p (num p (i + 1))).2 + 1) else none

def isSign (b : UInt8) : Bool := b == 42 || b == 43 || b == 63 || b == 123

/-- A sign at i: none: malformed. -/
def sgn (p : List UInt8) (i : Nat) (b : UInt8) : Option (Nat × Option Nat × Nat) :=
  if b = 42 then some (0, none, i + 1) else if b = 43 then some (1, none, i + 1) else if b = 63 then some (0, some 1, i + 1) else brc p i

def hexv (b : UInt8) : Int := if isDig b then (b.toNat : Int) - 48 else if 97 ≤ b.toNat ∧ b.toNat ≤ 102 then (b.toNat : Int) - 87 else if 65 ≤ b.toNat ∧ b.toNat ≤ 70 then (b.toNat : Int) - 55 else -1

def isAln (b : UInt8) : Bool := decide ((48 ≤ b.toNat ∧ b.toNat ≤ 57) ∨ (65 ≤ b.toNat ∧ b.toNat ≤ 90) ∨ (97 ≤ b.toNat ∧ b.toNat ≤ 122))

def wordS : Cset := ((rng 48 57 ||| rng 65 90) ||| rng 97 122) ||| rng 95 95
def blankS : Cset := (rng 9 10 ||| rng 13 13) ||| rng 32 32

/-- What an escape stands for: the set; is it one byte, and which; how many bytes it takes. -/
def escB (c : UInt8) (h l : Option UInt8) : Option (Cset × Bool × Nat × Nat) :=
  if c = 110 then some (rng 10 10, true, 10, 2) else if c = 116 then some (rng 9 9, true, 9, 2) else if c = 114 then some (rng 13 13, true, 13, 2)
  else if c = 100 then some (rng 48 57, false, 0, 2) else if c = 68 then some (cpl (rng 48 57), false, 0, 2)
  else if c = 119 then some (wordS, false, 0, 2) else if c = 87 then some (cpl wordS, false, 0, 2)
  else if c = 115 then some (blankS, false, 0, 2) else if c = 83 then some (cpl blankS, false, 0, 2)
  else if c = 120 then
    match h, l with
    | some h, some l => if 0 ≤ hexv h ∧ 0 ≤ hexv l then some (rng (hexv h * 16 + hexv l).toNat (hexv h * 16 + hexv l).toNat, true, (hexv h * 16 + hexv l).toNat, 4) else none
    | _, _ => none
  else if isAln c then none else some (rng c.toNat c.toNat, true, c.toNat, 2)

def esc (p : List UInt8) (i : Nat) : Except Er (Cset × Bool × Nat × Nat) :=
  match p[i + 1]? with
  | none => .error (4, i)
  | some c => match escB c p[i + 2]? p[i + 3]? with
    | none => .error (4, i)
    | some (S, one, b, k) => .ok (S, one, b, i + k)

/-- A member of a class. -/
def item (p : List UInt8) (i : Nat) (b : UInt8) : Except Er (Cset × Bool × Nat × Nat) :=
  if b = 92 then esc p i else .ok (rng b.toNat b.toNat, true, b.toNat, i + 1)

/-- The members of a class that was opened at at. -/
def clsF (p : List UInt8) (at' : Nat) : Nat → Nat → Cset → Except Er (Cset × Nat)
  | 0, _, _ => .error (0, 0)
  | f + 1, i, S => match p[i]? with
    | none => .error (2, at')
    | some b => if b = 93 then .ok (S, i + 1) else
      match item p i b with
      | .error e => .error e
      | .ok (m, one, lo, i1) =>
        if p[i1]? = some 45 ∧ p[i1 + 1]? ≠ none ∧ p[i1 + 1]? ≠ some 93 then
          match item p (i1 + 1) (p[i1 + 1]?.getD 0) with
          | .error e => .error e
          | .ok (_, two, hi, i2) => if one = true ∧ two = true ∧ lo ≤ hi then clsF p at' f i2 (S ||| rng lo hi) else .error (2, i1)
        else clsF p at' f i1 (S ||| m)

def cls (p : List UInt8) (i : Nat) : Except Er (Cset × Nat) :=
  if p[i + 1]? = some 94 then
    match clsF p i (p.length + 1) (i + 2) 0 with
    | .error e => .error e
    | .ok (S, j) => .ok (cpl S, j)
  else clsF p i (p.length + 1) (i + 1) 0

/-- An atom that is no group. -/
def leafA (p : List UInt8) (i : Nat) (b : UInt8) : Except Er (RE × Nat) :=
  if b = 91 then match cls p i with
    | .error e => .error e
    | .ok (S, j) => .ok (.set S, j)
  else if b = 92 then match esc p i with
    | .error e => .error e
    | .ok (S, _, _, j) => .ok (.set S, j)
  else if b = 46 then .ok (.set (cpl (rng 10 10)), i + 1)
  else if b = 94 then .ok (.bgn, i + 1)
  else if b = 36 then .ok (.fin, i + 1)
  else .ok (.set (rng b.toNat b.toNat), i + 1)

/-- Where the descent stands. -/
abbrev Md := Nat ⊕ (Nat × RE) ⊕ (Nat × Option RE) ⊕ RE ⊕ Nat
abbrev Md.alt (d : Nat) : Md := .inl d
abbrev Md.altL (d : Nat) (l : RE) : Md := .inr (.inl (d, l))
abbrev Md.catL (d : Nat) (l : Option RE) : Md := .inr (.inr (.inl (d, l)))
abbrev Md.repL (x : RE) : Md := .inr (.inr (.inr (.inl x)))
abbrev Md.atom (d : Nat) : Md := .inr (.inr (.inr (.inr d)))

theorem mdCases {P : Md → Prop} (alt : ∀ d, P (.inl d)) (altL : ∀ d l, P (.inr (.inl (d, l)))) (catL : ∀ d l, P (.inr (.inr (.inl (d, l))))) (repL : ∀ x, P (.inr (.inr (.inr (.inl x))))) (atom : ∀ d, P (.inr (.inr (.inr (.inr d))))) : ∀ md, P md
  | .inl d => alt d
  | .inr (.inl (d, l)) => altL d l
  | .inr (.inr (.inl (d, l))) => catL d l
  | .inr (.inr (.inr (.inl x))) => repL x
  | .inr (.inr (.inr (.inr d))) => atom d

abbrev PRes := Except Er (RE × Nat × Nat × Nat)

/-- The descent. i: the place; n: the nodes laid; g: the groups met. -/
def pd (p : List UInt8) : Nat → Md → Nat → Nat → Nat → PRes
  | 0, _, _, _, _ => .error (0, 0)
  | f + 1, .inl d, i, n, g => match pd p f (.catL d none) i n g with
    | .error e => .error e
    | .ok (l, i, n, g) => pd p f (.altL d l) i n g
  | f + 1, .inr (.inl (d, l)), i, n, g => if p[i]? = some 124 then
      match pd p f (.catL d none) (i + 1) n g with
      | .error e => .error e
      | .ok (r, i, n, g) => if 24 ≤ n then .error (8, i) else pd p f (.altL d (.alt l r)) i (n + 1) g
    else .ok (l, i, n, g)
  | f + 1, .inr (.inr (.inl (d, l))), i, n, g => if p[i]? = none ∨ p[i]? = some 124 ∨ p[i]? = some 41 then
      match l with
      | none => if 24 ≤ n then .error (8, i) else .ok (.emp, i, n + 1, g)
      | some l => .ok (l, i, n, g)
    else match pd p f (.atom d) i n g with
      | .error e => .error e
      | .ok (x, i, n, g) => match pd p f (.repL x) i n g with
        | .error e => .error e
        | .ok (x, i, n, g) => match l with
          | none => pd p f (.catL d (some x)) i n g
          | some l => if 24 ≤ n then .error (8, i) else pd p f (.catL d (some (.cat l x))) i (n + 1) g
  | f + 1, .inr (.inr (.inr (.inl x))), i, n, g => match p[i]? with
    | none => .ok (x, i, n, g)
    | some b => if isSign b then
        match sgn p i b with
        | none => .error (3, i)
        | some (lo, hi, j) =>
          if hi = none ∧ nul x = true then .error (5, i) else
          if 24 ≤ n then .error (8, if p[j]? = some 63 then j + 1 else j) else
          pd p f (.repL (.rep x lo hi (decide (p[j]? = some 63)))) (if p[j]? = some 63 then j + 1 else j) (n + 1) g
      else .ok (x, i, n, g)
  | f + 1, .inr (.inr (.inr (.inr d))), i, n, g => match p[i]? with
    | none => .error (0, 0)
    | some b => if b = 40 then
        if 5 ≤ d then .error (6, i) else
        if p[i + 1]? = some 63 ∧ p[i + 2]? = some 58 then
          match pd p f (.alt (d + 1)) (i + 3) n g with
          | .error e => .error e
          | .ok (x, j, n, g) => if p[j]? = some 41 then .ok (x, j + 1, n, g) else .error (1, i)
        else if 3 ≤ g then .error (7, i) else
          match pd p f (.alt (d + 1)) (i + 1) n (g + 1) with
          | .error e => .error e
          | .ok (x, j, n, g') => if p[j]? = some 41 then (if 24 ≤ n then .error (8, j + 1) else .ok (.grp x (g + 1), j + 1, n + 1, g')) else .error (1, i)
      else if isSign b then .error (3, i)
      else match leafA p i b with
        | .error e => .error e
        | .ok (x, j) => if 24 ≤ n then .error (8, j) else .ok (x, j, n + 1, g)

/-- The whole pattern. -/
def parseP (p : List UInt8) : Except Er (RE × Nat) :=
  match pd p (5 * p.length + 5) (.alt 0) 0 0 0 with
  | .error e => .error e
  | .ok (x, i, _, g) => if i < p.length then .error (1, i) else .ok (x, g)

/-! ### The stack machine -/

structure RF where
  alt : Option RE
  cat : Option RE
  atom : Option RE
  num : Nat
  at' : Nat

structure RS where
  i : Nat
  n : Nat
  g : Nat
  F : RF
  K : List RF

abbrev RRes := Except Er RS

def fresh (num at' : Nat) : RF := ⟨none, none, none, num, at'⟩

def joinR (σ : RS) : RRes := match σ.F.atom with
  | none => .ok σ
  | some a => match σ.F.cat with
    | none => .ok { σ with F := { σ.F with cat := some a, atom := none } }
    | some c => if 24 ≤ σ.n then .error (8, σ.i) else .ok { σ with n := σ.n + 1, F := { σ.F with cat := some (.cat c a), atom := none } }

/-- The branch ends: c is what it holds. -/
def fold2 (σ : RS) (c : RE) : RRes := match σ.F.alt with
  | none => .ok { σ with F := { σ.F with cat := none, alt := some c } }
  | some a => if 24 ≤ σ.n then .error (8, σ.i) else .ok { σ with n := σ.n + 1, F := { σ.F with cat := none, alt := some (.alt a c) } }

def foldR (σ : RS) : RRes := match σ.F.cat with
  | none => if 24 ≤ σ.n then .error (8, σ.i) else fold2 { σ with n := σ.n + 1 } .emp
  | some c => fold2 σ c

def openR (p : List UInt8) (σ : RS) : RRes :=
  if 5 ≤ σ.K.length then .error (6, σ.i) else
  if p[σ.i + 1]? = some 63 ∧ p[σ.i + 2]? = some 58 then .ok ⟨σ.i + 3, σ.n, σ.g, fresh 0 σ.i, σ.F :: σ.K⟩
  else if 3 ≤ σ.g then .error (7, σ.i) else .ok ⟨σ.i + 1, σ.n, σ.g + 1, fresh (σ.g + 1) σ.i, σ.F :: σ.K⟩

/-- Behind the fold, at ')'. -/
def popR (σ : RS) : RRes := match σ.K with
  | [] => .error (1, σ.i)
  | G :: K => if 0 < σ.F.num then
      (if 24 ≤ σ.n then .error (8, σ.i + 1) else .ok ⟨σ.i + 1, σ.n + 1, σ.g, { G with atom := some (.grp (σ.F.alt.getD .emp) σ.F.num) }, K⟩)
    else .ok ⟨σ.i + 1, σ.n, σ.g, { G with atom := some (σ.F.alt.getD .emp) }, K⟩

def signR (p : List UInt8) (σ : RS) (b : UInt8) : RRes := match σ.F.atom with
  | none => .error (3, σ.i)
  | some x => match sgn p σ.i b with
    | none => .error (3, σ.i)
    | some (lo, hi, j) =>
      if hi = none ∧ nul x = true then .error (5, σ.i) else
      if 24 ≤ σ.n then .error (8, if p[j]? = some 63 then j + 1 else j) else
      .ok { σ with i := if p[j]? = some 63 then j + 1 else j, n := σ.n + 1, F := { σ.F with atom := some (.rep x lo hi (decide (p[j]? = some 63))) } }

def leafR (p : List UInt8) (σ : RS) (b : UInt8) : RRes := match leafA p σ.i b with
  | .error e => .error e
  | .ok (x, j) => if 24 ≤ σ.n then .error (8, j) else .ok { σ with i := j, n := σ.n + 1, F := { σ.F with atom := some x } }

/-- What stands at i, no sign; the last atom is joined. -/
def actR (p : List UInt8) (σ : RS) (b : UInt8) : RRes :=
  if b = 124 then match foldR σ with
    | .error e => .error e
    | .ok σ => .ok { σ with i := σ.i + 1 }
  else if b = 41 then match foldR σ with
    | .error e => .error e
    | .ok σ => popR σ
  else if b = 40 then openR p σ
  else leafR p σ b

def stepR (p : List UInt8) (σ : RS) (b : UInt8) : RRes :=
  if isSign b then signR p σ b else match joinR σ with
    | .error e => .error e
    | .ok σ => actR p σ b

/-- The end. -/
def finR (σ : RS) : Except Er (RE × Nat) := match foldR σ with
  | .error e => .error e
  | .ok σ => match σ.K with
    | [] => .ok (σ.F.alt.getD .emp, σ.g)
    | _ :: _ => .error (1, σ.F.at')

def rrun (p : List UInt8) : Nat → RS → Except Er (RE × Nat)
  | 0, _ => .error (0, 0)
  | f + 1, σ => match p[σ.i]? with
    | some b => match stepR p σ b with
      | .error e => .error e
      | .ok σ => rrun p f σ
    | none => match joinR σ with
      | .error e => .error e
      | .ok σ => finR σ

/-- The rest of the run, the last atom joined. -/
def goJ (p : List UInt8) (f : Nat) (σ : RS) : Except Er (RE × Nat) := match p[σ.i]? with
  | none => finR σ
  | some b => if isSign b then .error (3, σ.i) else match actR p σ b with
    | .error e => .error e
    | .ok σ => rrun p f σ

/-- The rest of the run, behind the fold. -/
def goA (p : List UInt8) (f : Nat) (σ : RS) : Except Er (RE × Nat) := match p[σ.i]? with
  | none => match σ.K with
    | [] => .ok (σ.F.alt.getD .emp, σ.g)
    | _ :: _ => .error (1, σ.F.at')
  | some b => if b = 124 then rrun p f { σ with i := σ.i + 1 } else match popR σ with
    | .error e => .error e
    | .ok σ => rrun p f σ

/-- The rest of the run; the branch holds c. -/
def goF (p : List UInt8) (f : Nat) (σ : RS) (c : RE) : Except Er (RE × Nat) := match fold2 σ c with
  | .error e => .error e
  | .ok σ => goA p f σ

theorem rrun_none {p : List UInt8} {f : Nat} {σ : RS} (h : σ.F.atom = none) : rrun p (f + 1) σ = goJ p f σ := by
  unfold rrun goJ stepR
  cases hb : p[σ.i]? with
  | none => simp [joinR, h]
  | some b =>
    simp only
    by_cases hs : isSign b = true
    · simp [hs, signR, h]
    · simp [hs, joinR, h]

theorem rrun_join {p : List UInt8} {f : Nat} {σ : RS} (h : ∀ b, p[σ.i]? = some b → isSign b = false) : rrun p (f + 1) σ = match joinR σ with | .error e => .error e | .ok σ => goJ p f σ := by
  unfold rrun stepR
  cases hb : p[σ.i]? with
  | none =>
    simp only
    cases hj : joinR σ with
    | error e => rfl
    | ok σ' =>
      simp only
      have : σ'.i = σ.i := by
        unfold joinR at hj
        split at hj
        · cases hj; rfl
        · split at hj
          · cases hj; rfl
          · split at hj <;> cases hj; rfl
      unfold goJ
      rw [this, hb]
  | some b =>
    simp only [h b hb, Bool.false_eq_true, if_false]
    cases hj : joinR σ with
    | error e => rfl
    | ok σ' =>
      simp only
      have : σ'.i = σ.i := by
        unfold joinR at hj
        split at hj
        · cases hj; rfl
        · split at hj
          · cases hj; rfl
          · split at hj <;> cases hj; rfl
      unfold goJ
      rw [this, hb]
      simp [h b hb]

/-- Is this a place at which a branch ends? -/
def isEnd (p : List UInt8) (i : Nat) : Prop := p[i]? = none ∨ p[i]? = some 124 ∨ p[i]? = some 41

theorem goJ_end {p : List UInt8} {f : Nat} {σ : RS} (h : isEnd p σ.i) : goJ p f σ = match σ.F.cat with | none => if 24 ≤ σ.n then .error (8, σ.i) else goF p f { σ with n := σ.n + 1 } .emp | some c => goF p f σ c := by
  have hf : ∀ (σ : RS) c σ', fold2 σ c = .ok σ' → σ'.i = σ.i := by
    intro σ c σ' hj
    unfold fold2 at hj
    split at hj
    · cases hj; rfl
    · split at hj <;> cases hj; rfl
  have key : ∀ (τ : RS) c, τ.i = σ.i → goF p f τ c = match p[σ.i]? with
      | none => (match fold2 τ c with | .error e => .error e | .ok σ => match σ.K with | [] => .ok (σ.F.alt.getD .emp, σ.g) | _ :: _ => .error (1, σ.F.at'))
      | some b => (match (if b = 124 then (match fold2 τ c with | .error e => .error e | .ok σ => .ok { σ with i := σ.i + 1 }) else (match fold2 τ c with | .error e => .error e | .ok σ => popR σ) : RRes) with | .error e => .error e | .ok σ => rrun p f σ) := by
    intro τ c hτ
    unfold goF
    cases hj : fold2 τ c with
    | error e =>
      simp only
      cases p[σ.i]? with
      | none => rfl
      | some b => by_cases hb : b = 124 <;> simp [hb]
    | ok σ' =>
      simp only
      unfold goA
      rw [hf τ c σ' hj, hτ]
      cases p[σ.i]? with
      | none => rfl
      | some b => by_cases hb : b = 124 <;> simp [hb]
  unfold goJ
  rcases h with h | h | h
  · rw [h]
    simp only
    unfold finR foldR
    cases hc : σ.F.cat with
    | none =>
      simp only
      by_cases hn : 24 ≤ σ.n
      · simp [hn]
      · simp only [hn, if_false]
        rw [key { σ with n := σ.n + 1 } .emp rfl, h]
    | some c => simp only; rw [key _ _ rfl, h]
  · rw [h]
    simp only [isSign, actR]
    unfold foldR
    cases hc : σ.F.cat with
    | none =>
      simp only
      by_cases hn : 24 ≤ σ.n
      · simp [hn]
      · simp only [hn, if_false]
        rw [key { σ with n := σ.n + 1 } .emp rfl, h]
        simp
    | some c => simp only; rw [key _ _ rfl, h]; simp
  · rw [h]
    simp only [isSign, actR]
    unfold foldR
    cases hc : σ.F.cat with
    | none =>
      simp only
      by_cases hn : 24 ≤ σ.n
      · simp [hn]
      · simp only [hn, if_false]
        rw [key { σ with n := σ.n + 1 } .emp rfl, h]
        simp
    | some c => simp only; rw [key _ _ rfl, h]; simp

theorem pd_zero {p : List UInt8} {md : Md} {i n g : Nat} : pd p 0 md i n g = .error (0, 0) := by
  cases md using mdCases <;> rfl

/-- The machine does what the descent does. -/
theorem sim {p : List UInt8} : ∀ (m : Nat),
    (∀ d i n g (F : RF) (K : List RF) res, pd p m (.atom d) i n g = res → K.length = d → F.atom = none → ¬ isEnd p i →
      (∀ x i' n' g', res = .ok (x, i', n', g') → ∃ k, ∀ f, goJ p (f + k) ⟨i, n, g, F, K⟩ = rrun p f ⟨i', n', g', { F with atom := some x }, K⟩) ∧ (∀ e, res = .error e → e.1 ≠ 0 → ∃ k, ∀ f, goJ p (f + k) ⟨i, n, g, F, K⟩ = .error e)) ∧
    (∀ x i n g (F : RF) (K : List RF) res, pd p m (.repL x) i n g = res →
      (∀ x' i' n' g', res = .ok (x', i', n', g') → (∀ b, p[i']? = some b → isSign b = false) ∧ ∃ k, ∀ f, rrun p (f + k) ⟨i, n, g, { F with atom := some x }, K⟩ = rrun p f ⟨i', n', g', { F with atom := some x' }, K⟩) ∧ (∀ e, res = .error e → e.1 ≠ 0 → ∃ k, ∀ f, rrun p (f + k) ⟨i, n, g, { F with atom := some x }, K⟩ = .error e)) ∧
    (∀ d l i n g (F : RF) (K : List RF) res, pd p m (.catL d l) i n g = res → K.length = d → F.atom = none → F.cat = l →
      (∀ x i' n' g', res = .ok (x, i', n', g') → isEnd p i' ∧ ∃ k cat', ∀ f, goJ p (f + k) ⟨i, n, g, F, K⟩ = goF p f ⟨i', n', g', { F with cat := cat' }, K⟩ x) ∧ (∀ e, res = .error e → e.1 ≠ 0 → ∃ k, ∀ f, goJ p (f + k) ⟨i, n, g, F, K⟩ = .error e)) ∧
    (∀ d l i n g (F : RF) (K : List RF) res, pd p m (.altL d l) i n g = res → K.length = d → F.atom = none → F.cat = none → F.alt = some l → isEnd p i →
      (∀ x i' n' g', res = .ok (x, i', n', g') → (p[i']? = none ∨ p[i']? = some 41) ∧ ∃ k, ∀ f, goA p (f + k) ⟨i, n, g, F, K⟩ = goA p f ⟨i', n', g', { F with alt := some x }, K⟩) ∧ (∀ e, res = .error e → e.1 ≠ 0 → ∃ k, ∀ f, goA p (f + k) ⟨i, n, g, F, K⟩ = .error e)) ∧
    (∀ d i n g num at' (K : List RF) res, pd p m (.alt d) i n g = res → K.length = d →
      (∀ x i' n' g', res = .ok (x, i', n', g') → (p[i']? = none ∨ p[i']? = some 41) ∧ ∃ k, ∀ f, goJ p (f + k) ⟨i, n, g, fresh num at', K⟩ = goA p f ⟨i', n', g', { fresh num at' with alt := some x }, K⟩) ∧ (∀ e, res = .error e → e.1 ≠ 0 → ∃ k, ∀ f, goJ p (f + k) ⟨i, n, g, fresh num at', K⟩ = .error e)) := by
  intro m
  induction m with
  | zero =>
    have z : ∀ md i n g res, pd p 0 md i n g = res → res = .error (0, 0) := by
      intro md i n g res h
      rw [← h, pd_zero]
    refine ⟨?_, ?_, ?_, ?_, ?_⟩
    · intro d i n g F K res hres _ _ _
      rw [z _ _ _ _ _ hres]
      exact ⟨fun _ _ _ _ h => by (cases h), fun e he hne => absurd (by cases he; rfl) hne⟩
    · intro x i n g F K res hres
      rw [z _ _ _ _ _ hres]
      exact ⟨fun _ _ _ _ h => by (cases h), fun e he hne => absurd (by cases he; rfl) hne⟩
    · intro d l i n g F K res hres _ _ _
      rw [z _ _ _ _ _ hres]
      exact ⟨fun _ _ _ _ h => by (cases h), fun e he hne => absurd (by cases he; rfl) hne⟩
    · intro d l i n g F K res hres _ _ _ _ _
      rw [z _ _ _ _ _ hres]
      exact ⟨fun _ _ _ _ h => by (cases h), fun e he hne => absurd (by cases he; rfl) hne⟩
    · intro d i n g num at' K res hres _
      rw [z _ _ _ _ _ hres]
      exact ⟨fun _ _ _ _ h => by (cases h), fun e he hne => absurd (by cases he; rfl) hne⟩
  | succ m ih =>
    obtain ⟨ihA, ihR, ihC, ihL, ihT⟩ := ih
    refine ⟨?_, ?_, ?_, ?_, ?_⟩
    · -- an atom
      intro d i n g F K res hres hK hF hend
      subst hK
      unfold pd at hres
      cases hb : p[i]? with
      | none => exact absurd (.inl hb) hend
      | some b =>
        rw [hb] at hres
        simp only at hres
        have h124 : b ≠ 124 := fun h => hend (.inr (.inl (by rw [hb, h])))
        have h41 : b ≠ 41 := fun h => hend (.inr (.inr (by rw [hb, h])))
        by_cases h40 : b = 40
        · rw [if_pos h40] at hres
          have hgo : ∀ f, goJ p f ⟨i, n, g, F, K⟩ = match openR p ⟨i, n, g, F, K⟩ with | .error e => .error e | .ok σ => rrun p f σ := by
            intro f
            unfold goJ
            simp only [hb, h40]
            rfl
          by_cases h5 : 5 ≤ K.length
          · rw [if_pos h5] at hres
            subst hres
            refine ⟨fun _ _ _ _ h => by (cases h), fun e he _ => ⟨0, fun f => ?_⟩⟩
            cases he
            rw [hgo]
            simp [openR, h5]
          · rw [if_neg h5] at hres
            by_cases hq : p[i + 1]? = some 63 ∧ p[i + 2]? = some 58
            · rw [if_pos hq] at hres
              have hopen : ∀ f, goJ p (f + 1) ⟨i, n, g, F, K⟩ = goJ p f ⟨i + 3, n, g, fresh 0 i, F :: K⟩ := by
                intro f
                rw [hgo]
                simp only [openR, h5, hq, if_false, and_self, if_true]
                exact rrun_none rfl
              obtain ⟨t1, t2⟩ := ihT (K.length + 1) (i + 3) n g 0 i (F :: K) _ rfl rfl
              cases hs : pd p m (.alt (K.length + 1)) (i + 3) n g with
              | error e =>
                rw [hs] at hres t2
                simp only at hres
                subst hres
                refine ⟨fun _ _ _ _ h => by (cases h), fun e' he hne => ?_⟩
                cases he
                obtain ⟨k, hk⟩ := t2 e rfl hne
                exact ⟨k + 1, fun f => by rw [← Nat.add_assoc, hopen, hk]⟩
              | ok r =>
                obtain ⟨x, j, n1, g1⟩ := r
                rw [hs] at hres t1
                simp only at hres
                obtain ⟨hj, k, hk⟩ := t1 x j n1 g1 rfl
                rcases hj with hj | hj
                · rw [if_neg (by rw [hj]; simp)] at hres
                  subst hres
                  refine ⟨fun _ _ _ _ h => by (cases h), fun e he _ => ⟨k + 1, fun f => ?_⟩⟩
                  cases he
                  rw [← Nat.add_assoc, hopen, hk]
                  unfold goA
                  simp only [hj]
                  rfl
                · rw [if_pos hj] at hres
                  subst hres
                  refine ⟨fun x' i' n' g' h => ⟨k + 1, fun f => ?_⟩, fun e h => by (cases h)⟩
                  cases h
                  rw [← Nat.add_assoc, hopen, hk]
                  unfold goA
                  simp only [hj]
                  rfl
            · rw [if_neg hq] at hres
              by_cases h3 : 3 ≤ g
              · rw [if_pos h3] at hres
                subst hres
                refine ⟨fun _ _ _ _ h => by (cases h), fun e he _ => ⟨0, fun f => ?_⟩⟩
                cases he
                rw [hgo]
                simp only [openR, h5, hq, h3, if_false, if_true]
              · rw [if_neg h3] at hres
                have hopen : ∀ f, goJ p (f + 1) ⟨i, n, g, F, K⟩ = goJ p f ⟨i + 1, n, g + 1, fresh (g + 1) i, F :: K⟩ := by
                  intro f
                  rw [hgo]
                  simp only [openR, h5, hq, h3, if_false]
                  exact rrun_none rfl
                obtain ⟨t1, t2⟩ := ihT (K.length + 1) (i + 1) n (g + 1) (g + 1) i (F :: K) _ rfl rfl
                cases hs : pd p m (.alt (K.length + 1)) (i + 1) n (g + 1) with
                | error e =>
                  rw [hs] at hres t2
                  simp only at hres
                  subst hres
                  refine ⟨fun _ _ _ _ h => by (cases h), fun e' he hne => ?_⟩
                  cases he
                  obtain ⟨k, hk⟩ := t2 e rfl hne
                  exact ⟨k + 1, fun f => by rw [← Nat.add_assoc, hopen, hk]⟩
                | ok r =>
                  obtain ⟨x, j, n1, g1⟩ := r
                  rw [hs] at hres t1
                  simp only at hres
                  obtain ⟨hj, k, hk⟩ := t1 x j n1 g1 rfl
                  rcases hj with hj | hj
                  · rw [if_neg (by rw [hj]; simp)] at hres
                    subst hres
                    refine ⟨fun _ _ _ _ h => by (cases h), fun e he _ => ⟨k + 1, fun f => ?_⟩⟩
                    cases he
                    rw [← Nat.add_assoc, hopen, hk]
                    unfold goA
                    simp only [hj]
                    rfl
                  · rw [if_pos hj] at hres
                    have hgA : ∀ f, goJ p (f + (k + 1)) ⟨i, n, g, F, K⟩ = (match (if 24 ≤ n1 then .error (8, j + 1) else .ok ⟨j + 1, n1 + 1, g1, { F with atom := some (.grp x (g + 1)) }, K⟩ : RRes) with | .error e => .error e | .ok σ => rrun p f σ) := by
                      intro f
                      rw [← Nat.add_assoc, hopen, hk]
                      unfold goA
                      simp only [hj]
                      rfl
                    by_cases h24 : 24 ≤ n1
                    · rw [if_pos h24] at hres
                      subst hres
                      refine ⟨fun _ _ _ _ h => by (cases h), fun e he _ => ⟨k + 1, fun f => ?_⟩⟩
                      cases he
                      rw [hgA, if_pos h24]
                    · rw [if_neg h24] at hres
                      subst hres
                      refine ⟨fun x' i' n' g' h => ⟨k + 1, fun f => ?_⟩, fun e h => by (cases h)⟩
                      cases h
                      rw [hgA, if_neg h24]
        · rw [if_neg h40] at hres
          by_cases hsg : isSign b = true
          · rw [if_pos hsg] at hres
            subst hres
            refine ⟨fun _ _ _ _ h => by (cases h), fun e he _ => ⟨0, fun f => ?_⟩⟩
            cases he
            unfold goJ
            simp only [hb, hsg, if_true]
          · rw [if_neg hsg] at hres
            have hgo : ∀ f, goJ p f ⟨i, n, g, F, K⟩ = match leafR p ⟨i, n, g, F, K⟩ b with | .error e => .error e | .ok σ => rrun p f σ := by
              intro f
              unfold goJ actR
              simp only [hb, hsg, h124, h41, h40, if_false]
              rfl
            unfold leafR at hgo
            simp only at hgo
            cases hl : leafA p i b with
            | error e =>
              rw [hl] at hres hgo
              simp only at hres hgo
              subst hres
              refine ⟨fun _ _ _ _ h => by (cases h), fun e' he _ => ⟨0, fun f => ?_⟩⟩
              cases he
              rw [hgo]
            | ok r =>
              obtain ⟨x, j⟩ := r
              rw [hl] at hres hgo
              simp only at hres hgo
              by_cases h24 : 24 ≤ n
              · rw [if_pos h24] at hres
                subst hres
                refine ⟨fun _ _ _ _ h => by (cases h), fun e he _ => ⟨0, fun f => ?_⟩⟩
                cases he
                rw [hgo, if_pos h24]
              · rw [if_neg h24] at hres
                subst hres
                refine ⟨fun x' i' n' g' h => ⟨0, fun f => ?_⟩, fun e h => by (cases h)⟩
                cases h
                rw [hgo, if_neg h24]
                rfl
    · -- the signs
      intro x i n g F K res hres
      unfold pd at hres
      cases hb : p[i]? with
      | none =>
        rw [hb] at hres
        simp only at hres
        subst hres
        refine ⟨fun x' i' n' g' h => ?_, fun e h => by (cases h)⟩
        cases h
        exact ⟨fun b h => by (rw [hb] at h; cases h), 0, fun f => rfl⟩
      | some b =>
        rw [hb] at hres
        simp only at hres
        by_cases hsg : isSign b = true
        · rw [if_pos hsg] at hres
          have hgo : ∀ f, rrun p (f + 1) ⟨i, n, g, { F with atom := some x }, K⟩ = match signR p ⟨i, n, g, { F with atom := some x }, K⟩ b with | .error e => .error e | .ok σ => rrun p f σ := by
            intro f
            conv => lhs; unfold rrun
            simp only [hb]
            unfold stepR
            simp only [hsg, if_true]
          unfold signR at hgo
          simp only at hgo
          cases hs : sgn p i b with
          | none =>
            rw [hs] at hres hgo
            simp only at hres hgo
            subst hres
            refine ⟨fun _ _ _ _ h => by (cases h), fun e he _ => ⟨1, fun f => ?_⟩⟩
            cases he
            rw [hgo]
          | some r =>
            obtain ⟨lo, hi, j⟩ := r
            rw [hs] at hres hgo
            simp only at hres hgo
            by_cases h1 : hi = none ∧ nul x = true
            · rw [if_pos h1] at hres
              subst hres
              refine ⟨fun _ _ _ _ h => by (cases h), fun e he _ => ⟨1, fun f => ?_⟩⟩
              cases he
              rw [hgo, if_pos h1]
            · rw [if_neg h1] at hres
              by_cases h24 : 24 ≤ n
              · rw [if_pos h24] at hres
                subst hres
                refine ⟨fun _ _ _ _ h => by (cases h), fun e he _ => ⟨1, fun f => ?_⟩⟩
                cases he
                rw [hgo, if_neg h1, if_pos h24]
              · rw [if_neg h24] at hres
                obtain ⟨t1, t2⟩ := ihR _ _ _ _ F K _ hres
                refine ⟨fun x' i' n' g' h => ?_, fun e h hne => ?_⟩
                · obtain ⟨h2, k, hk⟩ := t1 x' i' n' g' h
                  exact ⟨h2, k + 1, fun f => by rw [← Nat.add_assoc, hgo, if_neg h1, if_neg h24]; exact hk f⟩
                · obtain ⟨k, hk⟩ := t2 e h hne
                  exact ⟨k + 1, fun f => by rw [← Nat.add_assoc, hgo, if_neg h1, if_neg h24]; exact hk f⟩
        · rw [if_neg hsg] at hres
          subst hres
          refine ⟨fun x' i' n' g' h => ?_, fun e h => by (cases h)⟩
          cases h
          exact ⟨fun b' h => by (rw [hb] at h; cases h; simpa using hsg), 0, fun f => rfl⟩
    · -- a branch
      intro d l i n g F K res hres hK hF hFc
      unfold pd at hres
      by_cases hend : p[i]? = none ∨ p[i]? = some 124 ∨ p[i]? = some 41
      · rw [if_pos hend] at hres
        have hgo := fun f => goJ_end (p := p) (f := f) (σ := ⟨i, n, g, F, K⟩) hend
        simp only at hgo
        rw [hFc] at hgo
        cases l with
        | none =>
          simp only at hres hgo
          by_cases h24 : 24 ≤ n
          · rw [if_pos h24] at hres
            subst hres
            refine ⟨fun _ _ _ _ h => by (cases h), fun e he _ => ⟨0, fun f => ?_⟩⟩
            cases he
            rw [hgo, if_pos h24]
          · rw [if_neg h24] at hres
            subst hres
            refine ⟨fun x' i' n' g' h => ?_, fun e h => by (cases h)⟩
            cases h
            refine ⟨hend, 0, F.cat, fun f => ?_⟩
            rw [hgo, if_neg h24]
            rfl
        | some l =>
          simp only at hres hgo
          subst hres
          refine ⟨fun x' i' n' g' h => ?_, fun e h => by (cases h)⟩
          cases h
          refine ⟨hend, 0, F.cat, fun f => ?_⟩
          rw [hgo]
          rfl
      · rw [if_neg hend] at hres
        obtain ⟨a1, a2⟩ := ihA d i n g F K _ rfl hK hF hend
        cases hs : pd p m (.atom d) i n g with
        | error e =>
          rw [hs] at hres a2
          simp only at hres
          subst hres
          exact ⟨fun _ _ _ _ h => by (cases h), fun e' he hne => a2 e' he hne⟩
        | ok r =>
          obtain ⟨x, i1, n1, g1⟩ := r
          rw [hs] at hres a1
          simp only at hres
          obtain ⟨k1, hk1⟩ := a1 x i1 n1 g1 rfl
          obtain ⟨b1, b2⟩ := ihR x i1 n1 g1 F K _ rfl
          cases hs2 : pd p m (.repL x) i1 n1 g1 with
          | error e =>
            rw [hs2] at hres b2
            simp only at hres
            subst hres
            refine ⟨fun _ _ _ _ h => by (cases h), fun e' he hne => ?_⟩
            obtain ⟨k2, hk2⟩ := b2 e' he hne
            exact ⟨k2 + k1, fun f => by rw [← Nat.add_assoc, hk1, hk2]⟩
          | ok r =>
            obtain ⟨x2, i2, n2, g2⟩ := r
            rw [hs2] at hres b1
            simp only at hres
            obtain ⟨hns, k2, hk2⟩ := b1 x2 i2 n2 g2 rfl
            have hj : ∀ f, goJ p (f + (1 + k2 + k1)) ⟨i, n, g, F, K⟩ = match joinR ⟨i2, n2, g2, { F with atom := some x2 }, K⟩ with | .error e => .error e | .ok σ => goJ p f σ := by
              intro f
              rw [show f + (1 + k2 + k1) = f + 1 + k2 + k1 by omega, hk1, hk2, rrun_join hns]
            unfold joinR at hj
            simp only [hFc] at hj
            cases l with
            | none =>
              simp only at hres hj
              obtain ⟨c1, c2⟩ := ihC d (some x2) i2 n2 g2 { F with cat := some x2, atom := none } K _ hres hK rfl rfl
              refine ⟨fun x' i' n' g' h => ?_, fun e h hne => ?_⟩
              · obtain ⟨h1, k3, cat', hk3⟩ := c1 x' i' n' g' h
                refine ⟨h1, k3 + (1 + k2 + k1), cat', fun f => ?_⟩
                rw [← Nat.add_assoc, hj, hk3]
                have : F = { F with atom := none } := by cases F; simp_all
                rw [this]
              · obtain ⟨k3, hk3⟩ := c2 e h hne
                exact ⟨k3 + (1 + k2 + k1), fun f => by rw [← Nat.add_assoc, hj, hk3]⟩
            | some l =>
              simp only at hres hj
              by_cases h24 : 24 ≤ n2
              · rw [if_pos h24] at hres
                subst hres
                refine ⟨fun _ _ _ _ h => by (cases h), fun e he _ => ⟨1 + k2 + k1, fun f => ?_⟩⟩
                cases he
                rw [hj, if_pos h24]
              · rw [if_neg h24] at hres
                obtain ⟨c1, c2⟩ := ihC d (some (.cat l x2)) i2 (n2 + 1) g2 { F with cat := some (.cat l x2), atom := none } K _ hres hK rfl rfl
                refine ⟨fun x' i' n' g' h => ?_, fun e h hne => ?_⟩
                · obtain ⟨h1, k3, cat', hk3⟩ := c1 x' i' n' g' h
                  refine ⟨h1, k3 + (1 + k2 + k1), cat', fun f => ?_⟩
                  rw [← Nat.add_assoc, hj, if_neg h24]
                  simp only
                  rw [hk3]
                  have : F = { F with atom := none } := by cases F; simp_all
                  rw [this]
                · obtain ⟨k3, hk3⟩ := c2 e h hne
                  exact ⟨k3 + (1 + k2 + k1), fun f => by rw [← Nat.add_assoc, hj, if_neg h24]; simp only; rw [hk3]⟩
    · -- more branches
      intro d l i n g F K res hres hK hF hFc hFa hend
      unfold pd at hres
      by_cases h124 : p[i]? = some 124
      · rw [if_pos h124] at hres
        have hgo : ∀ f, goA p (f + 1) ⟨i, n, g, F, K⟩ = goJ p f ⟨i + 1, n, g, F, K⟩ := by
          intro f
          unfold goA
          simp only [h124, if_true]
          exact rrun_none hF
        obtain ⟨a1, a2⟩ := ihC d none (i + 1) n g F K _ rfl hK hF hFc
        cases hs : pd p m (.catL d none) (i + 1) n g with
        | error e =>
          rw [hs] at hres a2
          simp only at hres
          subst hres
          refine ⟨fun _ _ _ _ h => by (cases h), fun e' he hne => ?_⟩
          obtain ⟨k, hk⟩ := a2 e' he hne
          exact ⟨k + 1, fun f => by rw [← Nat.add_assoc, hgo, hk]⟩
        | ok r =>
          obtain ⟨y, i1, n1, g1⟩ := r
          rw [hs] at hres a1
          simp only at hres
          obtain ⟨he1, k, cat', hk⟩ := a1 y i1 n1 g1 rfl
          have hg2 : ∀ f, goA p (f + (k + 1)) ⟨i, n, g, F, K⟩ = match fold2 ⟨i1, n1, g1, { F with cat := cat' }, K⟩ y with | .error e => .error e | .ok σ => goA p f σ := by
            intro f
            rw [← Nat.add_assoc, hgo, hk]
            rfl
          unfold fold2 at hg2
          simp only [hFa] at hg2
          by_cases h24 : 24 ≤ n1
          · rw [if_pos h24] at hres
            subst hres
            refine ⟨fun _ _ _ _ h => by (cases h), fun e he _ => ⟨k + 1, fun f => ?_⟩⟩
            cases he
            rw [hg2, if_pos h24]
          · rw [if_neg h24] at hres
            obtain ⟨c1, c2⟩ := ihL d (.alt l y) i1 (n1 + 1) g1 { F with cat := none, alt := some (.alt l y) } K _ hres hK hF rfl rfl he1
            have hFF : ∀ z : RE, { F with cat := none, alt := some z } = { F with alt := some z } := by intro z; cases F; simp_all
            refine ⟨fun x' i' n' g' h => ?_, fun e h hne => ?_⟩
            · obtain ⟨h1, k3, hk3⟩ := c1 x' i' n' g' h
              refine ⟨h1, k3 + (k + 1), fun f => ?_⟩
              rw [← Nat.add_assoc, hg2, if_neg h24]
              simp only
              rw [hk3]
              simp only
              rw [hFF]
            · obtain ⟨k3, hk3⟩ := c2 e h hne
              exact ⟨k3 + (k + 1), fun f => by rw [← Nat.add_assoc, hg2, if_neg h24]; simp only; rw [hk3]⟩
      · rw [if_neg h124] at hres
        subst hres
        refine ⟨fun x' i' n' g' h => ?_, fun e h => by (cases h)⟩
        cases h
        refine ⟨?_, 0, fun f => ?_⟩
        · rcases hend with h | h | h
          · exact .inl h
          · exact absurd h h124
          · exact .inr h
        · have : F = { F with alt := some l } := by cases F; simp_all
          rw [← this]
          rfl
    · -- all branches
      intro d i n g num at' K res hres hK
      unfold pd at hres
      obtain ⟨a1, a2⟩ := ihC d none i n g (fresh num at') K _ rfl hK rfl rfl
      cases hs : pd p m (.catL d none) i n g with
      | error e =>
        rw [hs] at hres a2
        simp only at hres
        subst hres
        exact ⟨fun _ _ _ _ h => by (cases h), fun e' he hne => a2 e' he hne⟩
      | ok r =>
        obtain ⟨y, i1, n1, g1⟩ := r
        rw [hs] at hres a1
        simp only at hres
        obtain ⟨he1, k, cat', hk⟩ := a1 y i1 n1 g1 rfl
        have hg2 : ∀ f, goJ p (f + k) ⟨i, n, g, fresh num at', K⟩ = goA p f ⟨i1, n1, g1, { fresh num at' with alt := some y }, K⟩ := by
          intro f
          rw [hk]
          rfl
        obtain ⟨c1, c2⟩ := ihL d y i1 n1 g1 { fresh num at' with alt := some y } K _ hres hK rfl rfl rfl he1
        refine ⟨fun x' i' n' g' h => ?_, fun e h hne => ?_⟩
        · obtain ⟨h1, k3, hk3⟩ := c1 x' i' n' g' h
          exact ⟨h1, k3 + k, fun f => by rw [← Nat.add_assoc, hg2, hk3]⟩
        · obtain ⟨k3, hk3⟩ := c2 e h hne
          exact ⟨k3 + k, fun f => by rw [← Nat.add_assoc, hg2, hk3]⟩

end Go.Proofs.Qxb6500567aGreat
