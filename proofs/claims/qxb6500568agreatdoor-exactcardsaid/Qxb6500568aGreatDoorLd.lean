import Derived.Test.Qxb6500568aGreatDoorLc
namespace Go.Proofs.Qxb6500568aGreatDoor
open Ieee
set_option linter.unusedVariables false
set_option linter.unusedSimpArgs false

/-! A bytecode machine in which every slot is a variable with a number of its own (the slots' values lie in one list). Stacks have their top at the head. -/

structure Proto where
  np : Nat
  ns : Nat
  ups : List (Nat × Nat)
  ks : List PV
  code : List (Nat × Nat)
def Proto.zero : Proto := ⟨0, 0, [], [], []⟩

structure AFr where
  clo : Nat
  pc : Nat
  slots : List Nat
  ops : List PV
  prot : Bool
structure ATh where
  st : Nat
  fn : Nat
  frs : List AFr
structure AS where
  vars : List PV
  clos : List (Nat × List Nat)
  ths : List ATh
  stack : List Nat
  cur : Nat
  fuel : Nat
  first : Nat
  out : Str
  tabs : List Tb
  done : Bool
  ans : Ans

def AFr.zero : AFr := ⟨0, 0, [], [], false⟩
def ATh.zero : ATh := ⟨0, 0, []⟩
def AS.th (s : AS) : ATh := s.ths.getD s.cur ATh.zero
def AS.setT (s : AS) (t : ATh) : AS := { s with ths := s.ths.set s.cur t }
def AS.fr (s : AS) : AFr := s.th.frs.headD AFr.zero
def AS.setF (s : AS) (f : AFr) : AS := s.setT { s.th with frs := f :: s.th.frs.tail }
def afin (e : Nat) (tl : Str) (s : AS) : AS := { s with done := true, ans := ⟨e, s.fuel, s.first, s.out, tl⟩ }
def aops (l : List PV) (s : AS) : AS := s.setF { s.fr with ops := l }
def apc (x : Nat) (s : AS) : AS := s.setF { s.fr with pc := x }
def AS.var (s : AS) (i : Nat) : PV := s.vars.getD i vNil
def aset (i : Nat) (v : PV) (s : AS) : AS := { s with vars := s.vars.set i v }
def AS.slot (s : AS) (x : Nat) : Nat := s.fr.slots.getD x 0
def AS.up (s : AS) (x : Nat) : Nat := ((s.clos.getD s.fr.clo (0, [])).2).getD x 0

def apush2 (a b : PV) (s : AS) : AS := s.setT { s.th with frs := match s.th.frs with | [] => [] | f :: r => { f with ops := b :: a :: f.ops } :: r }

def aback (ok : Bool) (v : PV) (s : AS) : AS :=
  match s.stack with
  | [] => afin (if ok then 0 else 12) (shV v) s
  | c :: r =>
    let s1 : AS := { s with stack := r, cur := c }
    apush2 (vBool ok) v (s1.setT { s1.th with st := 4 })

/-- down to the first frame that pcall made; the thread's bottom frame is never one. -/
def unwL : List AFr → Option (List AFr)
  | [] => none
  | f :: r => if f.prot ∧ r ≠ [] then some r else unwL r
def athrow (v : PV) (s : AS) : AS :=
  match unwL s.th.frs with
  | some r => apush2 (vBool false) v (s.setT { s.th with frs := r })
  | none => aback false v (s.setT { s.th with frs := [], st := 5 })
def araise (m : Str) (s : AS) : AS := athrow (vStr m) s

/-- new variables with the values vs: their numbers. -/
def anew (vs : List PV) (s : AS) : List Nat × AS := ((List.range vs.length).map (s.vars.length + ·), { s with vars := s.vars ++ vs })
def padTo (n : Nat) (l : List PV) : List PV := (List.range n).map fun i => l.getD i vNil
def aenter (Ps : List Proto) (c : Nat) (zs : List PV) (prot : Bool) (s : AS) : AS :=
  let p := Ps.getD (s.clos.getD c (0, [])).1 Proto.zero
  let q := anew (padTo p.ns (zs.take p.np)) s
  q.2.setT { q.2.th with frs := ⟨c, 0, q.1, [], prot⟩ :: q.2.th.frs }

def aret (a b : PV) (s : AS) : AS :=
  match s.th.frs with
  | [] => s
  | f :: r => if r = [] then aback true a (s.setT { s.th with frs := [], st := 5 })
    else if f.prot then apush2 (vBool true) a (s.setT { s.th with frs := r }) else apush2 a b (s.setT { s.th with frs := r })

/-- the slots from x on go on zs new variables with the same values. -/
def aclose (x : Nat) (s : AS) : AS :=
  let q := anew ((s.fr.slots.drop x).map s.var) s
  q.2.setF { q.2.fr with slots := s.fr.slots.take x ++ q.1 }

def astore (t k v : PV) (s : AS) : AS :=
  if t.T ≠ 4 then araise mIndex s else
  let r := tSet (s.tabs.getD t.N []) k v
  if r.1 = 8 then afin 8 [45] s else if r.1 ≠ 0 then araise mKey s else { s with tabs := s.tabs.set t.N r.2 }
def ares (r : Res) (l : List PV) (s : AS) : AS := match r with | .ok v => aops (v :: l) s | .error m => araise m s

def aresume (Ps : List Proto) (a b : PV) (s : AS) : AS :=
  let c := s.ths.getD a.N ATh.zero
  let s1 := s.setT { s.th with st := 3 }
  let s2 : AS := { s1 with stack := s1.cur :: s1.stack, cur := a.N }
  let s3 := s2.setT { s2.th with st := 4 }
  if c.st = 1 then aenter Ps c.fn [b] false { s3 with first := s3.first + 1 } else apush2 b vNil s3

/-- a call of fn with the arguments zs, which have gone from the stack. -/
def acall1 (Ps : List Proto) (zs : List PV) (fn : PV) (s : AS) : AS :=
  let a := zs.getD 0 vNil
  let b := zs.getD 1 vNil
  let deep := decide (8 ≤ s.th.frs.length)
  if fn.T = 5 then (if deep then araise mDepth s else aenter Ps fn.N zs false s)
  else if fn.T ≠ 6 then araise mCall s
  else if fn.N = 1 then (if 200 < s.out.length + (txV a).length + 1 then afin 10 [45] s else apush2 vNil vNil { s with out := s.out ++ txV a ++ [10] })
  else if fn.N = 2 then apush2 (vStr (txV a)) vNil s
  else if fn.N = 3 then apush2 (if a.T = 2 then a else if a.T = 3 then (match parN a.S with | some x => vNum x | none => vNil) else vNil) vNil s
  else if fn.N = 4 then apush2 (vStr (tyName a)) vNil s
  else if fn.N = 5 then athrow a s
  else if fn.N = 6 then (if a.T ≠ 5 then apush2 (vBool false) (vStr mCall) s else if deep then apush2 (vBool false) (vStr mDepth) s else aenter Ps a.N [b] true s)
  else if fn.N = 7 then (if a.T ≠ 4 then araise mNext s else match tNext (s.tabs.getD a.N []) b with | none => araise mNext s | some (k, v) => apush2 k v s)
  else if fn.N = 8 then (if a.T ≠ 5 then araise mCall s else if 5 ≤ s.ths.length then afin 8 [45] s else apush2 (vCo s.ths.length) vNil { s with ths := s.ths ++ [⟨1, a.N, []⟩] })
  else if fn.N = 9 then (if a.T ≠ 7 then araise mCo s else
    let st := (s.ths.getD a.N ATh.zero).st
    if st ≠ 1 ∧ st ≠ 2 then apush2 (vBool false) (vStr (stName st)) s else aresume Ps a b s)
  else if fn.N = 10 then (if s.cur = 0 then araise mYield s else
    let s1 := s.setT { s.th with st := 2 }
    match s1.stack with
    | [] => s1
    | c :: r => let s2 : AS := { s1 with stack := r, cur := c }; apush2 (vBool true) a (s2.setT { s2.th with st := 4 }))
  else if fn.N = 11 then (if a.T ≠ 7 then araise mCo s else apush2 (vStr (stName (s.ths.getD a.N ATh.zero).st)) vNil s)
  else araise mCall s
def acall (Ps : List Proto) (x : Nat) (s : AS) : AS :=
  if s.fuel = 0 then afin 9 [45] s else
  acall1 Ps (s.fr.ops.take x).reverse (s.fr.ops.getD x vNil) (apc (s.fr.pc + 1) (aops (s.fr.ops.drop (x + 1)) { s with fuel := s.fuel - 1 }))

/-- a jump; one that goes not forward burns. -/
def ajump (x : Nat) (s : AS) : AS :=
  if x ≤ s.fr.pc then (if s.fuel = 0 then afin 9 [45] s else apc x { s with fuel := s.fuel - 1 }) else apc x s

/-- the variables of a new closure. -/
def aups (s : AS) (ds : List (Nat × Nat)) : List Nat := ds.map fun d => if d.1 = 1 then s.slot d.2 else s.up d.2

/-- an instruction behind which pc goes on by one (if nothing is thrown). -/
def aplain (Ps : List Proto) (op x : Nat) (s : AS) : AS :=
  let p := Ps.getD (s.clos.getD s.fr.clo (0, [])).1 Proto.zero
  let l := s.fr.ops
  let k := p.ks.getD x vNil
  let nx := fun (l : List PV) (s : AS) => apc (s.fr.pc + 1) (aops l s)
  let t0 := l.getD 0 vNil
  let t1 := l.getD 1 vNil
  let t2 := l.getD 2 vNil
  let st := fun (t k v : PV) (l : List PV) (s : AS) =>
    if t.T ≠ 4 then araise mIndex s else
    let r := tSet (s.tabs.getD t.N []) k v
    if r.1 = 8 then afin 8 [45] s else if r.1 ≠ 0 then araise mKey s else nx l { s with tabs := s.tabs.set t.N r.2 }
  let rs := fun (r : Res) (l : List PV) (s : AS) => match r with | .ok v => nx (v :: l) s | .error m => araise m s
  if op = 1 then nx (k :: l) s
  else if op = 2 then nx (vNil :: l) s else if op = 3 then nx (vBool true :: l) s else if op = 4 then nx (vBool false :: l) s
  else if op = 5 then nx (s.var (s.slot x) :: l) s
  else if op = 6 then nx l.tail (aset (s.slot x) t0 s)
  else if op = 7 then nx (s.var (s.up x) :: l) s
  else if op = 8 then nx l.tail (aset (s.up x) t0 s)
  else if op = 9 then nx (tGet (s.tabs.getD 0 []) k :: l) s
  else if op = 10 then st (vTab 0) k t0 l.tail s
  else if op = 11 then (if t1.T ≠ 4 then araise mIndex s else nx (tGet (s.tabs.getD t1.N []) t0 :: l.drop 2) s)
  else if op = 12 then st t2 t1 t0 (l.drop 3) s
  else if op = 13 then st t1 (vNum (fInt x)) t0 l.tail s
  else if op = 14 then (if 12 ≤ s.tabs.length then afin 8 [45] s else nx (vTab s.tabs.length :: l) { s with tabs := s.tabs ++ [[]] })
  else if op = 15 then rs (binV x t1 t0) (l.drop 2) s
  else if op = 16 then rs (binV (x + 10) t1 t0) (l.drop 2) s
  else if op = 17 then rs (binV 20 t1 t0) (l.drop 2) s
  else if op = 18 then rs (unV s.tabs 2 t0) l.tail s
  else if op = 19 then rs (unV s.tabs 1 t0) l.tail s
  else if op = 20 then rs (unV s.tabs 3 t0) l.tail s
  else if op = 25 then nx l.tail s
  else if op = 28 then (if 24 ≤ s.clos.length then afin 8 [45] s else nx (vFun s.clos.length :: l) { s with clos := s.clos ++ [(x, aups s (Ps.getD x Proto.zero).ups)] })
  else if op = 29 then nx l (aclose x s)
  else if op = 30 then
    (let v0 := s.var (s.slot x); let v1 := s.var (s.slot (x + 1)); let v2 := s.var (s.slot (x + 2))
     if v0.T = 2 ∧ v1.T = 2 ∧ v2.T = 2 then (if fCmp 1 v2.N 0 ∨ fCmp 2 v2.N v2.N then araise mFor s else nx l s) else araise mFor s)
  else if op = 31 then
    (let v0 := s.var (s.slot x); let v1 := s.var (s.slot (x + 1)); let v2 := s.var (s.slot (x + 2))
     nx (vBool (fCmp (if fCmp 5 v2.N 0 then 4 else 6) v0.N v1.N) :: l) s)
  else if op = 32 then
    (let v0 := s.var (s.slot x); let v1 := s.var (s.slot (x + 1))
     if v0.T ≠ 4 then araise mFor s else match tNext (s.tabs.getD v0.N []) v1 with
     | none => araise mNext s
     | some (k, v) => nx (vBool (decide (k.T ≠ 0)) :: l) (aset (s.slot (x + 3)) v (aset (s.slot (x + 2)) k (aset (s.slot (x + 1)) k s))))
  else s

def astep (Ps : List Proto) (s : AS) : AS :=
  let p := Ps.getD (s.clos.getD s.fr.clo (0, [])).1 Proto.zero
  let l := s.fr.ops
  match p.code[s.fr.pc]? with
  | none => s
  | some (op, x) =>
    if op = 21 then ajump x s
    else if op = 22 then (if trV (l.headD vNil) then apc (s.fr.pc + 1) (aops l.tail s) else ajump x (aops l.tail s))
    else if op = 23 ∨ op = 24 then (if trV (l.headD vNil) = decide (op = 24) then ajump x s else apc (s.fr.pc + 1) (aops l.tail s))
    else if op = 26 then acall Ps x s
    else if op = 27 then aret (l.getD 1 vNil) (l.getD 0 vNil) s
    else aplain Ps op x s

def astart (Ps : List Proto) (fuel : Nat) : AS :=
  aenter Ps 0 [] false ⟨[], [(0, [])], [⟨4, 0, []⟩], [], 0, fuel, 0, [], glob, false, ⟨0, 0, 0, [], []⟩⟩

end Go.Proofs.Qxb6500568aGreatDoor
