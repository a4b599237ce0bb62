import Derived.Test.Qxb6500568aGreatDoorMn
namespace Go.Proofs.Qxb6500568aGreatDoor
open Ieee
set_option linter.unusedVariables false
set_option linter.unusedSimpArgs false
set_option linter.unusedSectionVars false

/-! The compiler as a plain function: a piece of a tree to its code; the pools of the functions are its state. -/

/-- what is held of a function: 'outer' the names around it, 'upos' for each upvalue its place among them (both only told, never held by the program). -/
structure FS where
  np : Nat
  ns : Nat
  ups : List (Nat × Nat)
  ks : List PV
  code : List (Nat × Nat)
  outer : List Str
  upos : List Nat
def FS.zero : FS := ⟨0, 0, [], [], [], [], []⟩
abbrev Fns := List FS
def fsAt (S : Fns) (j : Nat) : FS := S.getD j FS.zero
/-- the function at hand and those around it, each with its locals alive. -/
abbrev Chn := List (Nat × List Str)

/-- the first place whose member has the mark. -/
def posP {α : Type} (p : α → Bool) : List α → Option Nat
  | [] => none
  | x :: l => if p x = true then some 0 else (posP p l).map (· + 1)
def eqPV (u v : PV) : Bool := @decide (u = v) (PV.dec u v)

def declF (j n : Nat) (S : Fns) : Fns := S.modify j fun f => { f with ns := max f.ns n }
/-- a constant's place in the pool. -/
def conF (j : Nat) (v : PV) (S : Fns) : Nat × Fns :=
  match posP (eqPV v) (fsAt S j).ks with
  | some k => (k, S)
  | none => ((fsAt S j).ks.length, S.modify j fun f => { f with ks := f.ks ++ [v] })
/-- an upvalue's place; p: which name around it is. -/
def addUp (j : Nat) (d : Nat × Nat) (p : Nat) (S : Fns) : Nat × Fns :=
  match posP (fun e => decide (e = d)) (fsAt S j).ups with
  | some i => (i, S)
  | none => ((fsAt S j).ups.length, S.modify j fun f => { f with ups := f.ups ++ [d], upos := f.upos ++ [p] })
def upvF : Chn → Str → Fns → Option Nat × Fns
  | [], _, S => (none, S)
  | (j, L) :: r, nm, S => match r with
    | [] => (none, S)
    | (p, Lp) :: q => match lookA (vis Lp) nm with
      | some s => let o := addUp j (1, s) ((posN ((vis Lp).map (·.1)) nm).getD 0) S; (some o.1, o.2)
      | none => match upvF r nm S with
        | (none, S1) => (none, S1)
        | (some u, S1) => let o := addUp j (0, u) ((vis Lp).length + (fsAt S1 p).upos.getD u 0) S1; (some o.1, o.2)
/-- the one instruction of a variable. -/
def varF (l u g : Nat) (ch : Chn) (nm : Str) (S : Fns) : (Nat × Nat) × Fns :=
  match lookA (vis (ch.headD (0, [])).2) nm with
  | some s => ((l, s), S)
  | none => match upvF ch nm S with
    | (some x, S1) => ((u, x), S1)
    | (none, S1) => let q := conF (ch.headD (0, [])).1 (vStr nm) S1; ((g, q.1), q.2)

abbrev Cod := List (Nat × Nat)
/-- the code, told for each place where the innermost loop's breaks land; and the functions. -/
abbrev Out := (Nat → Cod) × Fns
def ln (q : Out) : Nat := (q.1 0).length
/-- md; the chain; the innermost loop's first slot; the code's first place. md: of statements: the block's first slot; of expressions: 0 arguments, else the number of the first item. -/
abbrev CKid := Nat → Chn → Nat → Nat → Fns → Out
def hj (ch : Chn) : Nat := (ch.headD (0, [])).1
def hL (ch : Chn) : List Str := (ch.headD (0, [])).2
/-- the chain with other locals at hand. -/
def loc (ch : Chn) (L : List Str) : Chn := (hj ch, L) :: ch.tail

/-- a function's literal: its parameters, its body. -/
def fnF (n : Nat) (ps : List Str) (ch : Chn) (k : CKid) (S : Fns) : Fns :=
  let S1 := S.set n ⟨ps.length, ps.length, [], [], [], (vis (hL ch)).map (·.1) ++ (fsAt S (hj ch)).outer, []⟩
  let q := k ps.length ((n, ps) :: ch) 0 0 S1
  q.2.modify n fun f => { f with code := q.1 0 ++ [(2, 0), (2, 0), (27, 0)] }

/-- the tail of a numeric loop: from the step's store at r on; its body's code at r + 6. -/
def numTail (b r : Nat) (cb : Cod) : Cod :=
  [(6, b + 2), (30, b), (31, b), (22, r + 6 + cb.length + 6), (5, b), (6, b + 3)] ++ cb ++ [(29, b + 3), (5, b), (5, b + 2), (15, 1), (6, b), (21, r + 2), (29, b)]

def cK0 (c fk : Nat) (fs : Str) (md : Nat) (ch : Chn) (base a : Nat) (S : Fns) : Out :=
  if c = 0 then (fun _ => [(fk - 10, 0)], S)
  else if c = 1 then (let q := conF (hj ch) (vNum fk) S; (fun _ => [(1, q.1)], q.2))
  else if c = 2 then (let q := conF (hj ch) (vStr fs) S; (fun _ => [(1, q.1)], q.2))
  else if c = 3 then (let q := varF 5 7 9 ch fs S; (fun _ => [q.1], q.2))
  else if c = 30 then (fun _ => (if md < (hL ch).length then [(29, md)] else []), S)
  else if c = 14 then (fun _ => [(2, 0), (6, (hL ch).length)], declF (hj ch) ((hL ch).length + 1) S)
  else if c = 26 then (fun _ => [(2, 0), (2, 0), (27, 0)], S)
  else if c = 29 then (fun x => (if base < (hL ch).length then [(29, base), (21, x)] else [(21, x)]), S)
  else (fun _ => [], S)
def cK1 (c fk : Nat) (fs : Str) (fp : List Str) (ka : CKid) (md : Nat) (ch : Chn) (base a : Nat) (S : Fns) : Out :=
  if c = 6 then (fun _ => [(28, fk)], fnF fk fp ch ka S)
  else if c = 7 then (let q := ka 1 ch 0 (a + 1) S; (fun x => (14, 0) :: q.1 x, q.2))
  else if c = 9 then (let q := ka 0 ch 0 a S; (fun x => q.1 x ++ [unI fk], q.2))
  else if c = 15 then (let q := ka 0 ch 0 a S; (fun x => q.1 x ++ [(6, (hL ch).length)], declF (hj ch) ((hL ch).length + 1) q.2))
  else if c = 17 then (fun _ => [(28, fk), (6, (hL ch).length)], fnF fk fp (loc ch (hL ch ++ [fs])) ka (declF (hj ch) ((hL ch).length + 1) S))
  else if c = 18 then (let q := ka 0 ch 0 a S; let v := varF 6 8 10 ch fs q.2; (fun x => q.1 x ++ [v.1], v.2))
  else if c = 27 then (let q := ka 0 ch 0 a S; (fun x => q.1 x ++ [(2, 0), (27, 0)], q.2))
  else (fun _ => [], S)
def cK2 (c fk : Nat) (fs ft : Str) (xa xb : Tr) (ka kb : CKid) (md : Nat) (ch : Chn) (base a : Nat) (S : Fns) : Out :=
  let q := ka 0 ch 0 a S
  let two := kb 0 ch 0 (a + ln q) q.2
  if c = 4 then (fun x => q.1 x ++ two.1 x ++ [(11, 0)], two.2)
  else if c = 5 then (fun x => q.1 x ++ two.1 x ++ [(26, lenE xb), (25, 0)], two.2)
  else if c = 8 then (fun x => q.1 x ++ two.1 x ++ [binI fk], two.2)
  else if c = 10 then (let r := kb 0 ch 0 (a + ln q + 1) q.2; (fun x => q.1 x ++ [(23, a + ln q + 1 + ln r)] ++ r.1 x, r.2))
  else if c = 11 then (let r := kb 0 ch 0 (a + ln q + 1) q.2; (fun x => q.1 x ++ [(24, a + ln q + 1 + ln r)] ++ r.1 x, r.2))
  else if c = 13 then
    (if md = 0 then (fun x => q.1 x ++ two.1 x, two.2) else
     let r := kb (md + 1) ch 0 (a + ln q + 1) q.2; (fun x => q.1 x ++ [(13, md)] ++ r.1 x, r.2))
  else if c = 31 then
    (let q := ka 0 ch base a S
     let r := kb md (loc ch (aftS (hL ch) xa)) base (a + ln q) q.2
     (fun x => q.1 x ++ r.1 x, r.2))
  else if c = 16 then (fun x => q.1 x ++ two.1 x ++ [(26, lenE xb), (6, (hL ch).length + 1), (6, (hL ch).length)], declF (hj ch) ((hL ch).length + 2) two.2)
  else if c = 20 then (fun x => q.1 x ++ two.1 x ++ [(26, lenE xb), (25, 0), (25, 0)], two.2)
  else if c = 22 then
    (let r := kb (hL ch).length ch (hL ch).length (a + ln q + 1) q.2
     let e := a + ln q + 1 + ln r + 1
     (fun x => q.1 x ++ [(22, e)] ++ r.1 e ++ [(21, a)], r.2))
  else if c = 25 then
    (let r := kb ((hL ch).length + 4) (loc ch (hL ch ++ [[], [], fs, ft])) (hL ch).length (a + ln q + 5) (declF (hj ch) ((hL ch).length + 4) q.2)
     let e := a + ln q + 5 + ln r
     (fun x => q.1 x ++ [(6, (hL ch).length), (2, 0), (6, (hL ch).length + 1), (32, (hL ch).length), (22, e + 2)] ++ r.1 (e + 2) ++ [(29, (hL ch).length + 2), (21, a + ln q + 3), (29, (hL ch).length)], r.2))
  else if c = 28 then (fun x => q.1 x ++ two.1 x ++ [(27, 0)], two.2)
  else (fun _ => [], S)
def cK3 (c : Nat) (fs : Str) (ka kb kd : CKid) (md : Nat) (ch : Chn) (base a : Nat) (S : Fns) : Out :=
  let q := ka 0 ch 0 a S
  if c = 19 then
    (let r := kb 0 ch 0 (a + ln q) q.2
     let s := kd 0 ch 0 (a + ln q + ln r) r.2
     (fun x => q.1 x ++ r.1 x ++ s.1 x ++ [(12, 0)], s.2))
  else if c = 21 then
    (let r := kb (hL ch).length ch base (a + ln q + 1) q.2
     let m := a + ln q + 1 + ln r
     let s := kd (hL ch).length ch base (m + 1) r.2
     (fun x => q.1 x ++ [(22, m + 1)] ++ r.1 x ++ [(21, m + 1 + ln s)] ++ s.1 x, s.2))
  else if c = 23 then
    (let r := kb 0 (loc ch (hL ch ++ [[]])) 0 (a + ln q + 1) (declF (hj ch) ((hL ch).length + 1) q.2)
     let o := conF (hj ch) (vNum (fInt 1)) (declF (hj ch) ((hL ch).length + 2) r.2)
     let p := a + ln q + 1 + ln r + 2
     let s := kd ((hL ch).length + 4) (loc ch (hL ch ++ [[], [], [], fs])) (hL ch).length (p + 6) (declF (hj ch) ((hL ch).length + 4) o.2)
     (fun x => q.1 x ++ [(6, (hL ch).length)] ++ r.1 x ++ [(6, (hL ch).length + 1), (1, o.1)] ++ numTail (hL ch).length p (s.1 (p + 6 + ln s + 6)), s.2))
  else (fun _ => [], S)
def cK4 (c : Nat) (fs : Str) (ka kb kd ke : CKid) (md : Nat) (ch : Chn) (base a : Nat) (S : Fns) : Out :=
  if c = 24 then
    (let q := ka 0 ch 0 a S
     let r := kb 0 (loc ch (hL ch ++ [[]])) 0 (a + ln q + 1) (declF (hj ch) ((hL ch).length + 1) q.2)
     let t := kd 0 (loc ch (hL ch ++ [[], []])) 0 (a + ln q + 1 + ln r + 1) (declF (hj ch) ((hL ch).length + 2) r.2)
     let p := a + ln q + 1 + ln r + 1 + ln t
     let s := ke ((hL ch).length + 4) (loc ch (hL ch ++ [[], [], [], fs])) (hL ch).length (p + 6) (declF (hj ch) ((hL ch).length + 4) t.2)
     (fun x => q.1 x ++ [(6, (hL ch).length)] ++ r.1 x ++ [(6, (hL ch).length + 1)] ++ t.1 x ++ numTail (hL ch).length p (s.1 (p + 6 + ln s + 6)), s.2))
  else (fun _ => [], S)
def cmp : Tr → CKid
  | ⟨c, fk, fs, ft, fp, []⟩ => fun md ch base a S => cK0 c fk fs md ch base a S
  | ⟨c, fk, fs, ft, fp, [x]⟩ => fun md ch base a S => cK1 c fk fs fp (fun md ch b a S => cmp x md ch b a S) md ch base a S
  | ⟨c, fk, fs, ft, fp, [x, y]⟩ => fun md ch base a S => cK2 c fk fs ft x y (fun md ch b a S => cmp x md ch b a S) (fun md ch b a S => cmp y md ch b a S) md ch base a S
  | ⟨c, fk, fs, ft, fp, [x, y, z]⟩ => fun md ch base a S => cK3 c fs (fun md ch b a S => cmp x md ch b a S) (fun md ch b a S => cmp y md ch b a S) (fun md ch b a S => cmp z md ch b a S) md ch base a S
  | ⟨c, fk, fs, ft, fp, [x, y, z, w]⟩ => fun md ch base a S => cK4 c fs (fun md ch b a S => cmp x md ch b a S) (fun md ch b a S => cmp y md ch b a S) (fun md ch b a S => cmp z md ch b a S) (fun md ch b a S => cmp w md ch b a S) md ch base a S
  | _ => fun _ _ _ _ S => (fun _ => [], S)

/-- the whole program: the functions' states. -/
def progF (t : StL) (n : Nat) : Fns :=
  let q := cmp t 0 [(0, [])] 0 0 (List.replicate n FS.zero)
  q.2.modify 0 fun f => { f with code := q.1 0 ++ [(2, 0), (2, 0), (27, 0)] }
def protoOf (f : FS) : Proto := ⟨f.np, f.ns, f.ups, f.ks, f.code⟩

end Go.Proofs.Qxb6500568aGreatDoor
