import Derived.Test.Qxb6500570aGreatPb
import GoSem.Op.String
/- Plain: values, their arithmetic, the program of a tree. -/
namespace Go.Proofs.Qxb6500570aGreat
set_option linter.unusedVariables false
set_option linter.unusedSimpArgs false

/-- A value. -/
structure Vl where
  k : Int
  n : Int
  s : List UInt8
abbrev vZ : Vl := ⟨0, 0, []⟩
abbrev vI (n : Int) : Vl := ⟨1, n, []⟩
abbrev vE (c : Int) : Vl := ⟨4, c, []⟩
def vB (b : Bool) : Vl := ⟨3, if b = true then 1 else 0, []⟩
def vNum (n : Int) : Vl := if n > 999999999 ∨ n < -999999999 then vE 4 else vI n

/-- A value that a cell can show. -/
def Lw (v : Vl) : Prop := (v.k = 0 ∧ v.n = 0 ∧ v.s = []) ∨ (v.k = 1 ∧ -999999999 ≤ v.n ∧ v.n ≤ 999999999 ∧ v.s = []) ∨ (v.k = 2 ∧ v.n = 0 ∧ v.s.length ≤ 40) ∨ (v.k = 3 ∧ (v.n = 0 ∨ v.n = 1) ∧ v.s = []) ∨ (v.k = 4 ∧ 1 ≤ v.n ∧ v.n ≤ 6 ∧ v.s = [])

theorem Lw.z : Lw vZ := .inl ⟨rfl, rfl, rfl⟩
theorem Lw.i {n : Int} (h1 : -999999999 ≤ n) (h2 : n ≤ 999999999) : Lw (vI n) := .inr (.inl ⟨rfl, h1, h2, rfl⟩)
theorem Lw.e {c : Int} (h1 : 1 ≤ c) (h2 : c ≤ 6) : Lw (vE c) := .inr (.inr (.inr (.inr ⟨rfl, h1, h2, rfl⟩)))
theorem Lw.b (b : Bool) : Lw (vB b) := by
  refine .inr (.inr (.inr (.inl ⟨rfl, ?_, rfl⟩)))
  cases b <;> simp [vB]
theorem Lw.num (n : Int) : Lw (vNum n) := by
  unfold vNum
  split
  · exact Lw.e (by omega) (by omega)
  · exact Lw.i (by omega) (by omega)
/-- Its bounds. -/
theorem Lw.bd {v : Vl} (h : Lw v) : -999999999 ≤ v.n ∧ v.n ≤ 999999999 ∧ 0 ≤ v.k ∧ v.k ≤ 4 ∧ v.s.length ≤ 40 := by
  rcases h with ⟨h1, h2, h3⟩ | ⟨h1, h2, h3, h4⟩ | ⟨h1, h2, h3⟩ | ⟨h1, h2, h3⟩ | ⟨h1, h2, h3, h4⟩
  · rw [h3]; simp; omega
  · rw [h4]; simp; omega
  · omega
  · rw [h3]; simp; omega
  · rw [h4]; simp; omega

def cntV (v : Vl) : Bool := decide (v.k = 1) || decide (v.k = 0)
def amt (v : Vl) : Int := if v.k = 1 then v.n else 0
def wdV (v : Vl) : Bool := decide (v.k = 2) || decide (v.k = 0)

def judge (op : Nat) (s : Int) : Vl :=
  if op = 1 then vB (decide (s = 0)) else if op = 2 then vB (decide (s ≠ 0)) else if op = 3 then vB (decide (s < 0)) else if op = 4 then vB (decide (s ≤ 0)) else if op = 5 then vB (decide (s > 0)) else vB (decide (s ≥ 0))
def reckon (op : Nat) (a b : Int) : Vl :=
  if op = 7 then vNum (a + b) else if op = 8 then vNum (a - b) else if op = 9 then vNum (a * b) else if b = 0 then vE 3 else vNum (a.tdiv b)
def cmpI (a b : Int) : Int := if a < b then -1 else if a > b then 1 else 0
def cmpS (a b : List UInt8) : Int := if Go.Op.bytesLess a b = true then -1 else if a = b then 0 else 1
def binV (op : Nat) (x y : Vl) : Vl :=
  if x.k = 4 then x else if y.k = 4 then y
  else if cntV x = true ∧ cntV y = true then (if 7 ≤ op then reckon op (amt x) (amt y) else judge op (cmpI (amt x) (amt y)))
  else if 7 ≤ op then vE 5
  else if wdV x = true ∧ wdV y = true then judge op (cmpS x.s y.s)
  else if x.k = 3 ∧ y.k = 3 then judge op (x.n - y.n)
  else vE 5
def unV (f : Nat) (v : Vl) : Vl :=
  if v.k = 4 then v
  else if f = 8 then (if v.k = 3 then vB (decide (v.n = 0)) else vE 5)
  else if f = 10 then (if wdV v = true then vI v.s.length else vE 5)
  else if cntV v = true then (if f = 9 ∧ 0 ≤ amt v then vI (amt v) else vI (- amt v))
  else vE 5
def chV (c x y : Vl) : Vl := if c.k = 4 then c else if c.k = 3 then (if c.n = 1 then x else y) else vE 5

theorem amt_bd {v : Vl} (h : Lw v) : -999999999 ≤ amt v ∧ amt v ≤ 999999999 := by
  have := h.bd
  unfold amt
  split <;> omega
theorem Lw.judge (op : Nat) (s : Int) : Lw (judge op s) := by
  unfold Go.Proofs.Qxb6500570aGreat.judge
  repeat' split
  all_goals exact Lw.b _
theorem Lw.reckon (op : Nat) (a b : Int) : Lw (reckon op a b) := by
  unfold Go.Proofs.Qxb6500570aGreat.reckon
  repeat' split
  all_goals first | exact Lw.num _ | exact Lw.e (by omega) (by omega)
theorem Lw.bin (op : Nat) {x y : Vl} (hx : Lw x) (hy : Lw y) : Lw (binV op x y) := by
  unfold binV
  repeat' split
  all_goals first | exact hx | exact hy | exact Lw.reckon _ _ _ | exact Lw.judge _ _ | exact Lw.e (by omega) (by omega)
theorem Lw.un (f : Nat) {v : Vl} (h : Lw v) : Lw (unV f v) := by
  have h1 := h.bd
  have h2 := amt_bd h
  unfold unV
  repeat' split
  all_goals first | exact h | exact Lw.b _ | exact Lw.e (by omega) (by omega) | exact Lw.i (by omega) (by omega)
theorem Lw.ch {c x y : Vl} (hc : Lw c) (hx : Lw x) (hy : Lw y) : Lw (chV c x y) := by
  unfold chV
  repeat' split
  all_goals first | exact hc | exact hx | exact hy | exact Lw.e (by omega) (by omega)

/-- A tally. -/
structure Ty where
  bad : Vl
  acc : Int
  cnt : Int
abbrev tyZ : Ty := ⟨vZ, 0, 0⟩
def takeT (f : Nat) (v : Vl) (inR : Bool) (t : Ty) : Ty :=
  if t.bad.k = 4 then t
  else if v.k = 4 then { t with bad := v }
  else if f = 6 ∨ f = 7 then
    (if v.k = 3 then (if decide (v.n = 1) = decide (f = 7) then { t with acc := 1 } else t) else { t with bad := vE 5 })
  else if v.k = 0 then t
  else if v.k = 1 then ⟨t.bad, (if f = 1 then t.acc + v.n else if f = 2 then (if t.cnt = 0 ∨ v.n < t.acc then v.n else t.acc) else if f = 3 then (if t.cnt = 0 ∨ v.n > t.acc then v.n else t.acc) else t.acc), t.cnt + 1⟩
  else if inR = true then t else { t with bad := vE 5 }
def shutT (f : Nat) (t : Ty) : Vl :=
  if t.bad.k = 4 then t.bad
  else if f = 1 then vNum t.acc
  else if f = 2 ∨ f = 3 then vI t.acc
  else if f = 4 then vI t.cnt
  else vB (decide (decide (t.acc = 1) = decide (f = 7)))

/-- A tally within bounds. -/
structure TyOK (f : Nat) (b : Nat) (t : Ty) : Prop where
  bad : t.bad = vZ ∨ (t.bad.k = 4 ∧ Lw t.bad)
  c0 : 0 ≤ t.cnt
  c1 : t.cnt ≤ b
  a0 : -999999999 * (t.cnt + 1) ≤ t.acc
  a1 : t.acc ≤ 999999999 * (t.cnt + 1)
  mm : f ≠ 1 → -999999999 ≤ t.acc ∧ t.acc ≤ 999999999
theorem TyOK.z (f b : Nat) : TyOK f b tyZ := ⟨.inl rfl, Int.le_refl _, by show (0 : Int) ≤ b; omega, by show -999999999 * ((0 : Int) + 1) ≤ (0 : Int); omega, by show (0 : Int) ≤ 999999999 * ((0 : Int) + 1); omega, fun _ => ⟨by show _ ≤ (0 : Int); omega, by show (0 : Int) ≤ _; omega⟩⟩
theorem TyOK.up {f b c : Nat} {t : Ty} (h : TyOK f b t) (hc : b ≤ c) : TyOK f c t := ⟨h.bad, h.c0, by have := h.c1; omega, h.a0, h.a1, h.mm⟩
theorem TyOK.take {f b : Nat} {v : Vl} {t : Ty} (inR : Bool) (h : TyOK f b t) (hv : Lw v) : TyOK f (b + 1) (takeT f v inR t) := by
  have hb := hv.bd
  have h0 := h.up (Nat.le_succ b)
  obtain ⟨g1, g2, g3, g4, g5, g6⟩ := h
  unfold takeT
  split
  · exact h0
  · split
    · rename_i h4; exact ⟨.inr ⟨h4, hv⟩, h0.c0, h0.c1, h0.a0, h0.a1, h0.mm⟩
    · split
      · rename_i hf
        split
        · split
          · exact ⟨h0.bad, h0.c0, h0.c1, by show -999999999 * (t.cnt + 1) ≤ (1 : Int); omega, by show (1 : Int) ≤ 999999999 * (t.cnt + 1); omega, fun _ => ⟨by show _ ≤ (1 : Int); omega, by show (1 : Int) ≤ _; omega⟩⟩
          · exact h0
        · exact ⟨.inr ⟨rfl, Lw.e (by omega) (by omega)⟩, h0.c0, h0.c1, h0.a0, h0.a1, h0.mm⟩
      · split
        · exact h0
        · split
          · by_cases f1 : f = 1
            · simp only [f1, if_true]
              exact ⟨g1, by show (0 : Int) ≤ t.cnt + 1; omega, by show t.cnt + 1 ≤ _; omega, by show -999999999 * (t.cnt + 1 + 1) ≤ t.acc + v.n; omega, by show t.acc + v.n ≤ 999999999 * (t.cnt + 1 + 1); omega, fun h => absurd rfl h⟩
            · simp only [if_neg f1]
              have g7 := g6 f1
              have key : ∀ x : Int, -999999999 ≤ x → x ≤ 999999999 → TyOK f (b + 1) ⟨t.bad, x, t.cnt + 1⟩ := fun x h1 h2 =>
                ⟨g1, by show (0 : Int) ≤ t.cnt + 1; omega, by show t.cnt + 1 ≤ _; omega, by show -999999999 * (t.cnt + 1 + 1) ≤ x; omega, by show x ≤ 999999999 * (t.cnt + 1 + 1); omega, fun _ => ⟨h1, h2⟩⟩
              split
              · split <;> exact key _ (by omega) (by omega)
              · split
                · split <;> exact key _ (by omega) (by omega)
                · exact key _ (by omega) (by omega)
          · split
            · exact h0
            · exact ⟨.inr ⟨rfl, Lw.e (by omega) (by omega)⟩, h0.c0, h0.c1, h0.a0, h0.a1, h0.mm⟩
theorem TyOK.shut {f b : Nat} {t : Ty} (h : TyOK f b t) (hb : b ≤ 999999999) : Lw (shutT f t) := by
  unfold shutT
  split
  · rename_i h4
    rcases h.bad with h1 | h1
    · rw [h1] at h4; exact absurd h4 (by decide)
    · exact h1.2
  · split
    · exact Lw.num _
    · rename_i f1
      have := h.mm f1
      split
      · exact Lw.i (by omega) (by omega)
      · split
        · have := h.c0; have := h.c1; exact Lw.i (by omega) (by omega)
        · exact Lw.b _

/-- An instruction: what to do, a function or an operator, a value, a set of cells. -/
structure In where
  d : Nat
  a : Nat
  v : Vl
  m : Nat

/-- The cells of a set go into a tally, by rising index. -/
def sweepT (f : Nat) (m : Nat) (env : Nat → Vl) : Nat → Nat → Ty → Ty
  | 0, _, t => t
  | n + 1, c, t => sweepT f m env n (c + 1) (if m.testBit c = true then takeT f (env c) true t else t)

/-- One instruction on the two stacks. -/
def exI (env : Nat → Vl) (x : In) (z : List Vl × List Ty) : List Vl × List Ty :=
  if x.d = 1 then (x.v :: z.1, z.2)
  else if x.d = 2 then (env x.a :: z.1, z.2)
  else if x.d = 3 then (match z.1 with
    | v :: s => (unV x.a v :: s, z.2)
    | _ => z)
  else if x.d = 4 then (match z.1 with
    | y :: u :: s => (binV x.a u y :: s, z.2)
    | _ => z)
  else if x.d = 5 then (match z.1 with
    | y :: u :: c :: s => (chV c u y :: s, z.2)
    | _ => z)
  else if x.d = 6 then (z.1, tyZ :: z.2)
  else if x.d = 7 then (match z.1, z.2 with
    | v :: s, t :: r => (s, takeT x.a v false t :: r)
    | _, _ => z)
  else if x.d = 8 then (match z.2 with
    | t :: r => (z.1, sweepT x.a x.m env 24 0 t :: r)
    | _ => z)
  else if x.d = 9 then (match z.2 with
    | t :: r => (z.1, takeT x.a (vE 2) true t :: r)
    | _ => z)
  else if x.d = 10 then (match z.2 with
    | t :: r => (shutT x.a t :: z.1, r)
    | _ => z)
  else z
def exC (env : Nat → Vl) : List In → List Vl × List Ty → List Vl × List Ty
  | [], z => z
  | x :: l, z => exC env l (exI env x z)
theorem exC_app (env : Nat → Vl) : ∀ (A B : List In) (z : List Vl × List Ty), exC env (A ++ B) z = exC env B (exC env A z)
  | [], _, _ => rfl
  | x :: A, B, z => exC_app env A B (exI env x z)

end Go.Proofs.Qxb6500570aGreat
