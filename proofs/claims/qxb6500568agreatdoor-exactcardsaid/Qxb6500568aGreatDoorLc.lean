import Derived.Test.Qxb6500568aGreatDoorLb
namespace Go.Proofs.Qxb6500568aGreatDoor
open Ieee
set_option linter.unusedVariables false
set_option linter.unusedSimpArgs false

/-! The interpreter zs a plain machine. Stacks have their top at the head. -/

structure Tk where
  k : Nat
  n : Nat
  x : Nat
  e : Nat
structure ITh where
  st : Nat
  fn : Nat
  depth : Nat
  tasks : List Tk
  vals : List PV
structure Env where
  name : Str
  v : PV
  up : Nat
structure IS where
  envs : List Env
  clos : List (Nat × Nat)
  ths : List ITh
  stack : List Nat
  cur : Nat
  fuel : Nat
  first : Nat
  out : Str
  tabs : List Tb
  done : Bool
  ans : Ans

def ITh.zero : ITh := ⟨0, 0, 0, [], []⟩
def IS.th (s : IS) : ITh := s.ths.getD s.cur ITh.zero
def IS.setT (s : IS) (t : ITh) : IS := { s with ths := s.ths.set s.cur t }
def ipush (v : PV) (s : IS) : IS := s.setT { s.th with vals := v :: s.th.vals }
def IS.top (s : IS) (i : Nat) : PV := s.th.vals.getD i vNil
def idrop (k : Nat) (s : IS) : IS := s.setT { s.th with vals := s.th.vals.drop k }
def ido (k n x e : Nat) (s : IS) : IS := s.setT { s.th with tasks := ⟨k, n, x, e⟩ :: s.th.tasks }
def ifin (e : Nat) (tl : Str) (s : IS) : IS := { s with done := true, ans := ⟨e, s.fuel, s.first, s.out, tl⟩ }
/-- the new variable's number is the length of the list behind it. -/
def inew (nm : Str) (v : PV) (up : Nat) (s : IS) : IS := { s with envs := s.envs ++ [⟨nm, v, up⟩] }
def IS.last (s : IS) : Nat := s.envs.length

/-- vals[:x] -/
def cutTo (x : Nat) (l : List PV) : List PV := l.drop (l.length - x)

/-- the thread at hand is dead: its resumer gets ok, v. -/
def iback (ok : Bool) (v : PV) (s : IS) : IS :=
  match s.stack with
  | [] => ifin (if ok then 0 else 12) (shV v) s
  | c :: r =>
    let s1 : IS := { s with stack := r, cur := c }
    ipush v (ipush (vBool ok) (s1.setT { s1.th with st := 4 }))

def thrL : List Tk → Nat → Nat × Option (Tk × List Tk)
  | [], d => (d, none)
  | t :: r, d => if t.k = 3 then (if t.n = 1 then (d - 1, some (t, r)) else thrL r (d - 1)) else thrL r d
def ithrow (v : PV) (s : IS) : IS :=
  match thrL s.th.tasks s.th.depth with
  | (d, some (t, r)) => s.setT { s.th with tasks := r, depth := d, vals := v :: vBool false :: cutTo t.x s.th.vals }
  | (d, none) => iback false v (s.setT { s.th with tasks := [], depth := d, vals := [], st := 5 })
def iraise (m : Str) (s : IS) : IS := ithrow (vStr m) s

def retL : List Tk → Option (Tk × List Tk)
  | [] => none
  | t :: r => if t.k = 3 then some (t, r) else retL r
def iret (a b : PV) (s : IS) : IS :=
  match retL s.th.tasks with
  | none => s.setT { s.th with tasks := [] }
  | some (t, r) =>
    let vs := cutTo t.x s.th.vals
    if r = [] then iback true a (s.setT { s.th with tasks := r, depth := s.th.depth - 1, vals := vs, st := 5 })
    else if t.n = 1 then s.setT { s.th with tasks := r, depth := s.th.depth - 1, vals := a :: vBool true :: vs }
    else s.setT { s.th with tasks := r, depth := s.th.depth - 1, vals := b :: a :: vs }

def brkL : List Tk → Option (Tk × List Tk)
  | [] => none
  | t :: r => if t.k = 4 then some (t, r) else brkL r

/-- the parameters' variables. -/
def bindP (G : Arena) : Nat → Nat → List PV → Nat → IS → Nat × IS
  | 0, _, _, e, s => (e, s)
  | f + 1, p, zs, e, s => if p = 0 then (e, s) else
    let s1 := inew (nd G p).S (zs.headD vNil) e s
    bindP G f (nd G p).Nx zs.tail s1.last s1
def ienter (G : Arena) (root c : Nat) (zs : List PV) (prot : Nat) (s : IS) : IS :=
  let s1 := s.setT { s.th with depth := s.th.depth + 1, tasks := ⟨3, prot, s.th.vals.length, 0⟩ :: s.th.tasks }
  let cl := s.clos.getD c (0, 0)
  let q := bindP G 4 (nd G cl.1).A zs cl.2 s1
  ido 1 (if cl.1 = 0 then root else (nd G cl.1).B) 0 q.1 q.2

def findE : Nat → List Env → Nat → Str → Nat
  | 0, _, _, _ => 0
  | f + 1, es, e, nm => if e = 0 then 0 else match es[e - 1]? with
    | none => 0
    | some x => if x.name = nm then e else findE f es x.up nm
def IS.find (s : IS) (e : Nat) (nm : Str) : Nat := findE (s.envs.length + 1) s.envs e nm
def IS.var (s : IS) (e : Nat) : PV := ((s.envs[e - 1]?).map (·.v)).getD vNil
def setE (e : Nat) (v : PV) (s : IS) : IS := { s with envs := s.envs.modify (e - 1) fun x => { x with v := v } }

def iargs (G : Arena) : Nat → Nat → List Nat
  | 0, _ => []
  | f + 1, a => if a = 0 then [] else a :: iargs G f (nd G a).Nx
def icall (G : Arena) (n e : Nat) (s : IS) : IS :=
  let zs := iargs G 3 (nd G n).B
  ido 2 (nd G n).A 0 e (zs.foldr (fun a s => ido 2 a 0 e s) (ido 22 n zs.length e s))

def istmt (G : Arena) (n e : Nat) (s : IS) : IS :=
  let d := nd G n
  if d.K = 1 then (if d.A ≠ 0 then ido 2 d.A 0 e (ido 6 n 0 e s) else ipush vNil (ido 6 n 0 e s))
  else if d.K = 2 then icall G d.B e (ido 7 n 0 e s)
  else if d.K = 3 then let s1 := inew d.S vNil e s; ido 2 d.A 0 s1.last (ido 8 n 0 s1.last s1)
  else
  let s := ido 1 d.Nx 0 e s
  let h := s.th.vals.length
  if d.K = 4 then
    (if (nd G d.A).K = 17 then ido 2 d.B 0 e (ido 9 d.A 0 e s)
     else ido 2 (nd G d.A).A 0 e (ido 2 (nd G d.A).B 0 e (ido 2 d.B 0 e (ido 10 0 0 e s))))
  else if d.K = 5 then ido 2 d.A 0 e (ido 5 0 0 0 s)
  else if d.K = 6 then ido 2 d.A 0 e (ido 11 n 0 e s)
  else if d.K = 7 then ido 12 n 0 e (ido 4 0 h 0 s)
  else if d.K = 8 then
    let e2 := (nd G d.A).Nx
    let e3 := (nd G e2).Nx
    ido 2 d.A 0 e (ido 2 e2 0 e (ido 2 e3 (if e3 ≠ 0 then 0 else 1) e (ido 15 n 0 e (ido 4 0 h 0 s))))
  else if d.K = 9 then ido 2 d.B 0 e (ido 18 n 0 e (ido 4 0 h 0 s))
  else if d.K = 10 then ido 2 d.A 0 e (ido 2 d.B 0 e (ido 21 0 0 0 s))
  else if d.K = 11 then
    (match brkL s.th.tasks with
     | some (t, r) => s.setT { s.th with tasks := r, vals := cutTo t.x s.th.vals }
     | none => s.setT { s.th with tasks := [] })
  else s

def iitems (n i e : Nat) (s : IS) : IS := if n = 0 then s else ido 2 n 0 e (ido 23 n i e s)
def ieval (G : Arena) (n x e : Nat) (s : IS) : IS :=
  if n = 0 then (if x = 1 then ipush (vNum (fInt 1)) s else ipush vNil s) else
  let d := nd G n
  if d.K = 12 then ipush vNil s else if d.K = 13 then ipush (vBool true) s else if d.K = 14 then ipush (vBool false) s
  else if d.K = 15 then ipush (vNum d.N) s else if d.K = 16 then ipush (vStr d.S) s
  else if d.K = 17 then (let v := s.find e d.S; if v ≠ 0 then ipush (s.var v) s else ipush (tGet (s.tabs.getD 0 []) (vStr d.S)) s)
  else if d.K = 18 then ido 2 d.A 0 e (ido 2 d.B 0 e (ido 28 0 0 0 s))
  else if d.K = 19 then icall G n e (ido 5 0 0 0 s)
  else if d.K = 20 then (if 24 ≤ s.clos.length then ifin 8 [45] s else ipush (vFun s.clos.length) { s with clos := s.clos ++ [(n, e)] })
  else if d.K = 21 then (if 12 ≤ s.tabs.length then ifin 8 [45] s else iitems d.A 1 e (ipush (vTab s.tabs.length) { s with tabs := s.tabs ++ [[]] }))
  else if d.K = 22 then ido 2 d.A 0 e (ido 2 d.B 0 e (ido 24 n 0 0 s))
  else if d.K = 23 then ido 2 d.A 0 e (ido 25 n 0 0 s)
  else if d.K = 24 then ido 2 d.A 0 e (ido 26 n 0 e s)
  else if d.K = 25 then ido 2 d.A 0 e (ido 27 n 0 e s) else s

def iset (t k v : PV) (s : IS) : IS :=
  if t.T ≠ 4 then iraise mIndex s else
  let r := tSet (s.tabs.getD t.N []) k v
  if r.1 = 8 then ifin 8 [45] s else if r.1 ≠ 0 then iraise mKey s else { s with tabs := s.tabs.set t.N r.2 }
def ires (r : Res) (s : IS) : IS := match r with | .ok v => ipush v s | .error m => iraise m s

/-- one fuel, or the run's end. -/
def iburn (s : IS) : IS := if s.fuel = 0 then ifin 9 [45] s else { s with fuel := s.fuel - 1 }

def iresume (G : Arena) (root : Nat) (a b : PV) (s : IS) : IS :=
  let c := s.ths.getD a.N ITh.zero
  let s1 := s.setT { s.th with st := 3 }
  let s2 : IS := { s1 with stack := s1.cur :: s1.stack, cur := a.N }
  let s3 := s2.setT { s2.th with st := 4 }
  if c.st = 1 then ienter G root c.fn [b] 0 { s3 with first := s3.first + 1 } else ipush vNil (ipush b s3)

/-- a call of fn with the arguments zs, which have gone from the stack. -/
def iapply1 (G : Arena) (root : Nat) (zs : List PV) (fn : PV) (s : IS) : IS :=
  let a := zs.getD 0 vNil
  let b := zs.getD 1 vNil
  let two := fun (p q : PV) (s : IS) => ipush q (ipush p s)
  if fn.T = 5 then (if 8 ≤ s.th.depth then iraise mDepth s else ienter G root fn.N zs 0 s)
  else if fn.T ≠ 6 then iraise mCall s
  else if fn.N = 1 then (if 200 < s.out.length + (txV a).length + 1 then ifin 10 [45] s else two vNil vNil { s with out := s.out ++ txV a ++ [10] })
  else if fn.N = 2 then two (vStr (txV a)) vNil s
  else if fn.N = 3 then two (if a.T = 2 then a else if a.T = 3 then (match parN a.S with | some x => vNum x | none => vNil) else vNil) vNil s
  else if fn.N = 4 then two (vStr (tyName a)) vNil s
  else if fn.N = 5 then ithrow a s
  else if fn.N = 6 then (if a.T ≠ 5 then two (vBool false) (vStr mCall) s else if 8 ≤ s.th.depth then two (vBool false) (vStr mDepth) s else ienter G root a.N [b] 1 s)
  else if fn.N = 7 then (if a.T ≠ 4 then iraise mNext s else match tNext (s.tabs.getD a.N []) b with | none => iraise mNext s | some (k, v) => two k v s)
  else if fn.N = 8 then (if a.T ≠ 5 then iraise mCall s else if 5 ≤ s.ths.length then ifin 8 [45] s else two (vCo s.ths.length) vNil { s with ths := s.ths ++ [⟨1, a.N, 0, [], []⟩] })
  else if fn.N = 9 then (if a.T ≠ 7 then iraise mCo s else
    let st := (s.ths.getD a.N ITh.zero).st
    if st ≠ 1 ∧ st ≠ 2 then two (vBool false) (vStr (stName st)) s else iresume G root a b s)
  else if fn.N = 10 then (if s.cur = 0 then iraise mYield s else
    let s1 := s.setT { s.th with st := 2 }
    match s1.stack with
    | [] => s1
    | c :: r => let s2 : IS := { s1 with stack := r, cur := c }; two (vBool true) a (s2.setT { s2.th with st := 4 }))
  else if fn.N = 11 then (if a.T ≠ 7 then iraise mCo s else two (vStr (stName (s.ths.getD a.N ITh.zero).st)) vNil s)
  else two vNil vNil s
def iapply (G : Arena) (root x : Nat) (s : IS) : IS :=
  if s.fuel = 0 then ifin 9 [45] s else
  iapply1 G root (s.th.vals.take x).reverse (s.top x) (idrop (x + 1) { s with fuel := s.fuel - 1 })

/-- the task t: s0 with it, s without it. -/
def istep1 (G : Arena) (root : Nat) (t : Tk) (s0 s : IS) : IS :=
  let d := nd G t.n
  if t.k = 1 then (if t.n ≠ 0 then istmt G t.n t.e s else s)
  else if t.k = 2 then ieval G t.n t.x t.e s
  else if t.k = 3 then iret vNil vNil s0
  else if t.k = 5 then idrop 1 s
  else if t.k = 6 then (let s1 := inew d.S (s.top 0) t.e (idrop 1 s); ido 1 d.Nx 0 s1.last s1)
  else if t.k = 7 then
    (let s1 := inew (nd G d.A).S (s.top 1) t.e (idrop 2 s)
     let s2 := inew (nd G (nd G d.A).Nx).S (s.top 0) s1.last s1
     ido 1 d.Nx 0 s2.last s2)
  else if t.k = 8 then ido 1 d.Nx 0 t.e (setE t.e (s.top 0) (idrop 1 s))
  else if t.k = 9 then
    (let v := s.top 0
     let s := idrop 1 s
     let x := s.find t.e d.S
     if x ≠ 0 then setE x v s else iset (vTab 0) (vStr d.S) v s)
  else if t.k = 10 then iset (s.top 2) (s.top 1) (s.top 0) (idrop 3 s)
  else if t.k = 11 then ido 1 (if trV (s.top 0) then d.B else d.C) 0 t.e (idrop 1 s)
  else if t.k = 12 then ido 2 d.A 0 t.e (ido 13 t.n 0 t.e s)
  else if t.k = 13 then (if trV (s.top 0) then ido 1 d.B 0 t.e (ido 14 t.n 0 t.e (idrop 1 s)) else idrop 1 s)
  else if t.k = 14 then (let s1 := iburn s; if s1.done then s1 else ido 12 t.n 0 t.e s1)
  else if t.k = 15 then
    (if (s.top 2).T = 2 ∧ (s.top 1).T = 2 ∧ (s.top 0).T = 2 then
       (if fCmp 5 (s.top 0).N 0 ∨ fCmp 3 (s.top 0).N 0 then ido 16 t.n 0 t.e s else iraise mFor s)
     else iraise mFor s)
  else if t.k = 16 then
    (if (if fCmp 5 (s.top 0).N 0 then fCmp 4 (s.top 2).N (s.top 1).N else fCmp 6 (s.top 2).N (s.top 1).N) then
       (let s1 := inew d.S (s.top 2) t.e (ido 17 t.n 0 t.e s); ido 1 d.B 0 s1.last s1)
     else idrop 3 s)
  else if t.k = 17 then
    (let s1 := s.setT { s.th with vals := s.th.vals.modify 2 fun v => { v with N := fAri 1 v.N (s.top 0).N } }
     let s2 := iburn s1
     if s2.done then s2 else ido 16 t.n 0 t.e s2)
  else if t.k = 18 then (if (s.top 0).T ≠ 4 then iraise mFor s else ido 19 t.n 0 t.e (ipush vNil s))
  else if t.k = 19 then
    (match (tNext (s.tabs.getD (s.top 1).N []) (s.top 0)).getD (vNil, vNil) with
     | (k, v) =>
       if k.T = 0 then idrop 2 s else
       let s1 := s.setT { s.th with vals := s.th.vals.set 0 k }
       let s2 := inew (nd G d.A).S k t.e (ido 20 t.n 0 t.e s1)
       let s3 := inew (nd G (nd G d.A).Nx).S v s2.last s2
       ido 1 d.C 0 s3.last s3)
  else if t.k = 20 then (let s1 := iburn s; if s1.done then s1 else ido 19 t.n 0 t.e s1)
  else if t.k = 21 then iret (s.top 1) (s.top 0) (idrop 2 s)
  else if t.k = 22 then iapply G root t.x s
  else if t.k = 23 then
    (let s1 := iset (s.top 1) (vNum (fInt t.x)) (s.top 0) (idrop 1 s)
     if s1.done then s1 else iitems d.Nx (t.x + 1) t.e s1)
  else if t.k = 24 then ires (binV d.N (s.top 1) (s.top 0)) (idrop 2 s)
  else if t.k = 25 then ires (unV s.tabs d.N (s.top 0)) (idrop 1 s)
  else if t.k = 26 then (if trV (s.top 0) then ido 2 d.B 0 t.e (idrop 1 s) else s)
  else if t.k = 27 then (if trV (s.top 0) then s else ido 2 d.B 0 t.e (idrop 1 s))
  else if t.k = 28 then (if (s.top 1).T ≠ 4 then iraise mIndex (idrop 2 s) else ipush (tGet (s.tabs.getD (s.top 1).N []) (s.top 0)) (idrop 2 s))
  else s
def istep (G : Arena) (root : Nat) (s : IS) : IS :=
  match s.th.tasks with
  | [] => s
  | t :: r => istep1 G root t s (s.setT { s.th with tasks := r })

def istart (G : Arena) (root fuel : Nat) : IS :=
  ienter G root 0 [] 0 ⟨[], [(0, 0)], [⟨4, 0, 0, [], []⟩], [], 0, fuel, 0, [], glob, false, ⟨0, 0, 0, [], []⟩⟩

end Go.Proofs.Qxb6500568aGreatDoor
