import Derived.Test.Qxb6500570aGreatPe
/- Plain: the program of a lawful arena, and what the arena is worth. -/
namespace Go.Proofs.Qxb6500570aGreat
set_option linter.unusedVariables false
set_option linter.unusedSimpArgs false

def gridR (r : Rf) : Bool := decide (0 ≤ r.c) && decide (r.c < 4) && decide (0 ≤ r.r) && decide (r.r < 6)
def cellR (r : Rf) : Nat := (r.r * 4 + r.c).toNat
theorem grid_iff {r : Rf} : gridR r = true ↔ 0 ≤ r.c ∧ r.c < 4 ∧ 0 ≤ r.r ∧ r.r < 6 := by unfold gridR; simp [and_assoc]
theorem cell_lt {r : Rf} (h : gridR r = true) : cellR r < 24 := by
  have := grid_iff.1 h
  unfold cellR
  omega
/-- The cells of columns c0 .. of one row, and of a block of rows. -/
def orC (r c0 : Nat) : Nat → Nat → Nat
  | 0, s => s
  | k + 1, s => orC r c0 k s ||| 2 ^ (r * 4 + (c0 + k))
def orB (c0 kc r0 : Nat) : Nat → Nat
  | 0 => 0
  | k + 1 => orC (r0 + k) c0 kc (orB c0 kc r0 k)
def blkR (a b : Rf) : Option Nat :=
  if gridR a = true then
    (if gridR b = true then some (orB (min a.c b.c).toNat ((max a.c b.c).toNat + 1 - (min a.c b.c).toNat) (min a.r b.r).toNat ((max a.r b.r).toNat + 1 - (min a.r b.r).toNat)) else none)
  else none

theorem or_lt {a b : Nat} (ha : a < 2 ^ 24) (hb : b < 2 ^ 24) : a ||| b < 2 ^ 24 := Nat.or_lt_two_pow ha hb
theorem bit_lt {c : Nat} (h : c < 24) : 2 ^ c < 2 ^ 24 := Nat.pow_lt_pow_right (by omega) h
theorem orC_lt {r c0 : Nat} : ∀ {k s : Nat}, s < 2 ^ 24 → r * 4 + (c0 + k) ≤ 24 → orC r c0 k s < 2 ^ 24
  | 0, s, hs, _ => hs
  | k + 1, s, hs, h => or_lt (orC_lt hs (by omega)) (bit_lt (by omega))
theorem orB_lt {c0 kc r0 : Nat} : ∀ {k : Nat}, c0 + kc ≤ 4 → r0 + k ≤ 6 → orB c0 kc r0 k < 2 ^ 24
  | 0, _, _ => by show 0 < _; decide
  | k + 1, hc, hr => orC_lt (orB_lt hc (by omega)) (by omega)
theorem blk_lt {a b : Rf} {m : Nat} (h : blkR a b = some m) : m < 2 ^ 24 := by
  unfold blkR at h
  split at h
  · rename_i ga
    split at h
    · rename_i gb
      have ha := grid_iff.1 ga
      have hb := grid_iff.1 gb
      cases h
      exact orB_lt (by omega) (by omega)
    · cases h
  · cases h

def tallF (f : Nat) : Bool := decide (f ≠ 5) && decide (f < 8)
def nd0 : Nd := ⟨0, 0, 0, 0, 0, zR, zR⟩
def ndA (n : List Nd) (i : Int) : Nd := n.getD i.toNat nd0

/-- The instruction of a link: what takes its argument. -/
def lkI (n : List Nd) (o : Nat) (x : Nd) : In :=
  if (ndA n x.a).k = 4 then (match blkR (ndA n x.a).p (ndA n x.a).q with
    | some m => ⟨8, o, vZ, m⟩
    | none => ⟨9, o, vZ, 0⟩)
  else ⟨7, o, vZ, 0⟩
/-- The instructions of a node; o: for a link, the function whose argument it is. -/
def cI (n : List Nd) (o : Nat) (x : Nd) : List In :=
  if x.k = 1 then [⟨1, 0, vI x.n, 0⟩]
  else if x.k = 2 then [⟨1, 0, ⟨3, x.n, []⟩, 0⟩]
  else if x.k = 5 then [⟨1, 0, vE 2, 0⟩]
  else if x.k = 3 then (if gridR x.p = true then [⟨2, cellR x.p, vZ, 2 ^ cellR x.p⟩] else [⟨1, 0, vE 2, 0⟩])
  else if x.k = 6 then [⟨3, 0, vZ, 0⟩]
  else if x.k = 7 then [⟨4, x.o.toNat, vZ, 0⟩]
  else if x.k = 8 then [⟨if x.o = 5 then 5 else if tallF x.o.toNat = true then 10 else 3, x.o.toNat, vZ, 0⟩]
  else if x.k = 9 then (if tallF o = true then (if x.b < 0 then [⟨6, o, vZ, 0⟩] else []) ++ [lkI n o x] else [])
  else []
/-- Who owns the links, behind node i. -/
def ownS (own : Nat → Nat) (x : Nd) (i : Nat) : Nat → Nat :=
  if x.k = 8 then (fun j => if j = x.a.toNat then x.o.toNat else own j)
  else if x.k = 9 then (if 0 ≤ x.b then (fun j => if j = x.b.toNat then own i else own j) else own)
  else own
/-- The program of the nodes below i, laid from the last down. -/
def cmpF (n : List Nd) : Nat → (Nat → Nat) → List In
  | 0, _ => []
  | i + 1, own => cmpF n i (ownS own (ndA n i) i) ++ cI n (own i) (ndA n i)

theorem cmp_own {n : List Nd} : ∀ {i : Nat} {own own' : Nat → Nat}, (∀ j, j < i → own j = own' j) → cmpF n i own = cmpF n i own'
  | 0, _, _, _ => rfl
  | i + 1, own, own', h => by
    show cmpF n i _ ++ _ = cmpF n i _ ++ _
    rw [h i (by omega), cmp_own (own := ownS own (ndA n i) i) (own' := ownS own' (ndA n i) i)]
    intro j hj
    unfold ownS
    split
    · simp only
      split
      · rfl
      · exact h j (by omega)
    · split
      · split
        · simp only
          split
          · exact h i (by omega)
          · exact h j (by omega)
        · exact h j (by omega)
      · exact h j (by omega)

/-- The cells that a program reads; that the nodes read. -/
def setC : List In → Nat
  | [] => 0
  | x :: l => x.m ||| setC l
theorem setC_app : ∀ (A B : List In), setC (A ++ B) = setC A ||| setC B
  | [], B => by simp [setC]
  | x :: A, B => by show x.m ||| setC (A ++ B) = _; rw [setC_app A B, ← Nat.or_assoc]; rfl
def rdN (x : Nd) : Nat := (if x.k = 3 ∧ gridR x.p = true then 2 ^ cellR x.p else 0) ||| (if x.k = 4 then (blkR x.p x.q).getD 0 else 0)
def rdF (n : List Nd) (lo : Nat) : Nat → Nat
  | 0 => 0
  | k + 1 => rdF n lo k ||| rdN (ndA n (lo + k : Nat))
theorem rdF_add (n : List Nd) (lo a : Nat) : ∀ b, rdF n lo (a + b) = rdF n lo a ||| rdF n (lo + a) b
  | 0 => by simp [rdF]
  | b + 1 => by
    show rdF n lo (a + b) ||| _ = _ ||| (rdF n (lo + a) b ||| _)
    rw [rdF_add n lo a b, Nat.or_assoc, Nat.add_assoc]
    rfl

/-- What node i is worth (first); the tally of function fn over the links up to i (second). -/
def evF (n : List Nd) (env : Nat → Vl) : Nat → Nat → Int → Vl × Ty
  | 0, _, _ => (vZ, tyZ)
  | f + 1, fn, i =>
    if (ndA n i).k = 9 then
      (vZ, if (ndA n (ndA n i).a).k = 4 then (match blkR (ndA n (ndA n i).a).p (ndA n (ndA n i).a).q with
          | some m => sweepT fn m env 24 0 (if (ndA n i).b < 0 then tyZ else (evF n env f fn (ndA n i).b).2)
          | none => takeT fn (vE 2) true (if (ndA n i).b < 0 then tyZ else (evF n env f fn (ndA n i).b).2))
        else takeT fn (evF n env f 0 (ndA n i).a).1 false (if (ndA n i).b < 0 then tyZ else (evF n env f fn (ndA n i).b).2))
    else (if (ndA n i).k = 1 then vI (ndA n i).n
      else if (ndA n i).k = 2 then ⟨3, (ndA n i).n, []⟩
      else if (ndA n i).k = 3 then (if gridR (ndA n i).p = true then env (cellR (ndA n i).p) else vE 2)
      else if (ndA n i).k = 6 then unV 0 (evF n env f 0 (ndA n i).a).1
      else if (ndA n i).k = 7 then binV (ndA n i).o.toNat (evF n env f 0 (ndA n i).a).1 (evF n env f 0 (ndA n i).b).1
      else if (ndA n i).k = 8 then
        (if (ndA n i).o = 5 then chV (evF n env f 0 (ndA n (ndA n (ndA n (ndA n i).a).b).b).a).1 (evF n env f 0 (ndA n (ndA n (ndA n i).a).b).a).1 (evF n env f 0 (ndA n (ndA n i).a).a).1
        else if tallF (ndA n i).o.toNat = true then shutT (ndA n i).o.toNat (evF n env f (ndA n i).o.toNat (ndA n i).a).2
        else unV (ndA n i).o.toNat (evF n env f 0 (ndA n (ndA n i).a).a).1)
      else vE 2, tyZ)

/-- An instruction that may be played. -/
def okI (x : In) (z : List Vl × List Ty) : Prop :=
  (x.d = 1 ∧ z.1.length < 24 ∧ Lw x.v) ∨ (x.d = 2 ∧ z.1.length < 24 ∧ x.a < 24) ∨ (x.d = 3 ∧ ∃ v s, z.1 = v :: s ∧ Lw v)
  ∨ (x.d = 4 ∧ 1 ≤ x.a ∧ x.a ≤ 10 ∧ ∃ y u s, z.1 = y :: u :: s ∧ Lw y ∧ Lw u) ∨ (x.d = 5 ∧ ∃ y u c s, z.1 = y :: u :: c :: s ∧ Lw c)
  ∨ (x.d = 6 ∧ z.2.length < 24) ∨ (x.d = 7 ∧ ∃ v s t r, z.1 = v :: s ∧ z.2 = t :: r ∧ Lw v ∧ TyOK x.a 1000 t) ∨ (x.d = 8 ∧ x.m < 2 ^ 24 ∧ ∃ t r, z.2 = t :: r ∧ TyOK x.a 1000 t)
  ∨ (x.d = 9 ∧ ∃ t r, z.2 = t :: r ∧ TyOK x.a 1000 t) ∨ (x.d = 10 ∧ z.1.length < 24 ∧ ∃ t r, z.2 = t :: r ∧ TyOK x.a 1000 t)
def safeC (env : Nat → Vl) : List In → List Vl × List Ty → Prop
  | [], _ => True
  | x :: l, z => (okI x z ∧ x.a < 24 ∧ x.m < 2 ^ 24) ∧ safeC env l (exI env x z)
theorem safe_app (env : Nat → Vl) : ∀ (A B : List In) (z : List Vl × List Ty), safeC env A z → safeC env B (exC env A z) → safeC env (A ++ B) z
  | [], _, _, _, h => h
  | x :: A, B, z, h, h' => ⟨h.1, safe_app env A B _ h.2 h'⟩
theorem safe_one {env : Nat → Vl} {x : In} {z : List Vl × List Ty} (h : okI x z) (ha : x.a < 24) (hm : x.m < 2 ^ 24) : safeC env [x] z := ⟨⟨h, ha, hm⟩, trivial⟩

theorem ndA_get {n : List Nd} {i : Nat} {x : Nd} (h : n[i]? = some x) : ndA n (i : Int) = x := by
  unfold ndA
  rw [Int.toNat_natCast, List.getD_eq_getElem?_getD, h]
  rfl
theorem sg_nr {n : List Nd} {f k lo i : Nat} (h : SgF n f false k lo i false) : isRng n i = false := by
  cases f with
  | zero => exact h.elim
  | succ f =>
    obtain ⟨x, hx, h⟩ := h
    unfold isRng
    rw [hx]
    rcases h with h | h | h | h | h | h | h | h
    all_goals first | exact absurd h.2.1 (by decide) | (simp [h.1])
theorem TyOK.sweep {fn : Nat} {env : Nat → Vl} {m : Nat} (hL : ∀ c, c < 24 → Lw (env c)) : ∀ (k c b : Nat) (t : Ty), c + k ≤ 24 → TyOK fn b t → TyOK fn (b + k) (sweepT fn m env k c t)
  | 0, _, b, t, _, h => h
  | k + 1, c, b, t, hc, h => by
    show TyOK fn (b + (k + 1)) (sweepT fn m env k (c + 1) _)
    rw [show b + (k + 1) = b + 1 + k by omega]
    refine TyOK.sweep hL k (c + 1) (b + 1) _ (by omega) ?_
    split
    · exact h.take true (hL c (by omega))
    · exact h.up (by omega)

/-- The arguments' values, the last first. -/
def argsAt (n : List Nd) (env : Nat → Vl) (f : Nat) : Int → List Vl → Prop
  | _, [] => True
  | i, W :: L => (∀ g fn, f ≤ g → (evF n env g fn (ndA n i).a).1 = W) ∧ argsAt n env f (ndA n i).b L
theorem argsAt.up {n : List Nd} {env : Nat → Vl} {f g : Nat} (hg : f ≤ g) : ∀ {L : List Vl} {i : Int}, argsAt n env f i L → argsAt n env g i L
  | [], _, _ => trivial
  | W :: L, i, h => ⟨fun g' fn hg' => h.1 g' fn (by omega), argsAt.up hg h.2⟩

abbrev NdLaw (n : List Nd) (env : Nat → Vl) (f lo i : Nat) : Prop :=
  ∃ C W, Lw W ∧ (∀ g fn, f ≤ g → (evF n env g fn (i : Nat)).1 = W) ∧ (∀ own, cmpF n (i + 1) own = cmpF n lo own ++ C) ∧ setC C = rdF n lo (i + 1 - lo)
    ∧ ∀ st fs, st.length + (i + 1 - lo) ≤ 24 → fs.length + (i + 1 - lo) ≤ 24 → safeC env C (st, fs) ∧ exC env C (st, fs) = (W :: st, fs)
abbrev TlLaw (n : List Nd) (env : Nat → Vl) (f lo i fn : Nat) : Prop :=
  ∃ C T, TyOK fn (24 * (i + 1 - lo)) T ∧ (∀ g, f ≤ g → (evF n env g fn (i : Nat)).2 = T) ∧ (∀ own, own i = fn → cmpF n (i + 1) own = cmpF n lo own ++ C) ∧ setC C = rdF n lo (i + 1 - lo)
    ∧ ∀ st fs, st.length + (i + 1 - lo) ≤ 24 → fs.length + (i + 1 - lo) ≤ 24 → safeC env C (st, fs) ∧ exC env C (st, fs) = (st, T :: fs)
abbrev ArLaw (n : List Nd) (env : Nat → Vl) (f k lo i fn : Nat) : Prop :=
  ∃ C WL, WL.length = k ∧ k ≤ i + 1 - lo ∧ (∀ v ∈ WL, Lw v) ∧ argsAt n env f (i : Nat) WL ∧ (∀ own, own i = fn → cmpF n (i + 1) own = cmpF n lo own ++ C) ∧ setC C = rdF n lo (i + 1 - lo)
    ∧ ∀ st fs, st.length + (i + 1 - lo) ≤ 24 → fs.length + (i + 1 - lo) ≤ 24 → safeC env C (st, fs) ∧ exC env C (st, fs) = (WL ++ st, fs)

theorem cmp_succ {n : List Nd} {i : Nat} {x : Nd} {own : Nat → Nat} (hx : n[i]? = some x) : cmpF n (i + 1) own = cmpF n i (ownS own x i) ++ cI n (own i) x := by
  show cmpF n i (ownS own (ndA n i) i) ++ cI n (own i) (ndA n i) = _
  rw [ndA_get hx]
theorem rd_one (n : List Nd) (i : Nat) {x : Nd} (hx : n[i]? = some x) : rdF n i (i + 1 - i) = rdN x := by
  rw [show i + 1 - i = 1 by omega]
  show 0 ||| rdN (ndA n (i + 0 : Nat)) = _
  rw [Nat.zero_or, Nat.add_zero, ndA_get hx]
theorem rd_last (n : List Nd) {lo i : Nat} {x : Nd} (hx : n[i]? = some x) (hlo : lo ≤ i) : rdF n lo (i + 1 - lo) = rdF n lo (i - lo) ||| rdN x := by
  rw [show i + 1 - lo = (i - lo) + 1 by omega]
  show _ ||| rdN (ndA n (lo + (i - lo) : Nat)) = _
  rw [show lo + (i - lo) = i by omega, ndA_get hx]
theorem rdN0 {x : Nd} (h3 : x.k ≠ 3) (h4 : x.k ≠ 4) : rdN x = 0 := by unfold rdN; rw [if_neg (fun h => h3 h.1), if_neg h4]; rfl

/-- A leaf that pushes one value. -/
theorem leaf_law {n : List Nd} {env : Nat → Vl} {f i : Nat} {x : Nd} {I : In} {W : Vl} (hx : n[i]? = some x) (hW : Lw W) (h8 : x.k ≠ 8) (h9 : x.k ≠ 9) (hc : ∀ o, cI n o x = [I]) (he : ∀ g fn, (evF n env (g + 1) fn (i : Nat)).1 = W)
    (hs : I.m = rdN x) (ha : I.a < 24) (hm : I.m < 2 ^ 24) (hok : ∀ z : List Vl × List Ty, z.1.length < 24 → okI I z) (hex : ∀ z, exI env I z = (W :: z.1, z.2)) : NdLaw n env (f + 1) i i := by
  refine ⟨[I], W, hW, ?_, ?_, ?_, ?_⟩
  · intro g fn hg
    obtain ⟨g, rfl⟩ : ∃ k, g = k + 1 := ⟨g - 1, by omega⟩
    exact he g fn
  · intro own
    rw [cmp_succ hx, hc]
    unfold ownS
    rw [if_neg h8, if_neg h9]
  · rw [rd_one n i hx]
    show I.m ||| 0 = _
    rw [Nat.or_zero, hs]
  · intro st fs h1 h2
    exact ⟨safe_one (hok _ (by show st.length < 24; omega)) ha hm, hex _⟩

end Go.Proofs.Qxb6500570aGreat
