import Derived.Test.Qxb6500568aGreatDoorOl
namespace Go.Proofs.Qxb6500568aGreatDoor
open Ieee
set_option linter.unusedVariables false
set_option linter.unusedSimpArgs false
set_option linter.unusedSectionVars false

/-! The grammar as a plain function over tokens. -/

/-- k: the kind as the real scanner numbers them; pl: the place; s: a name's or string's text; n: a number's bits; e: the error of a bad token. -/
structure Tok where
  k : Nat
  pl : Nat
  s : Str
  n : Nat
  e : Nat
def Tok.zero : Tok := ⟨0, 0, [], 0, 0⟩
/-- the tokens from the one at hand on; locals alive; loops open; literals so far. -/
structure PS where
  tk : List Tok
  al : Nat
  lo : Nat
  fu : Nat
def PS.cur (s : PS) : Tok := s.tk.headD Tok.zero
def PS.k (s : PS) : Nat := s.cur.k
def PS.adv (s : PS) : PS := { s with tk := s.tk.tail }
/-- none: no fuel; an error and its place; or a tree and the state behind. -/
abbrev PR := Option ((Nat × Nat) ⊕ (Tr × PS))
def failP (e : Nat) (s : PS) : PR := some (.inl (if s.k = 1 then s.cur.e else e, s.cur.pl))
def okP (t : Tr) (s : PS) : PR := some (.inr (t, s))
def bdP (o : PR) (f : Tr → PS → PR) : PR := match o with
  | none => none
  | some (.inl e) => some (.inl e)
  | some (.inr (t, s)) => f t s
/-- a token of kind k is passed, or ErrSyntax. -/
def expP (k : Nat) (s : PS) (f : PS → PR) : PR := if s.k = k then f s.adv else failP 15 s
/-- a name that brings 'extra' locals alive. -/
def nameP (extra : Nat) (s : PS) (f : Str → PS → PR) : PR :=
  if s.k ≠ 2 then failP 15 s else if 0 < extra ∧ 12 < s.al + extra then failP 18 s else f s.cur.s s.adv
def endsB (s : PS) : Bool := s.k = 0 || s.k = 9 || s.k = 7 || s.k = 8

/-- mode; level; rank, closing kind or extra; count; the tree so far; the state. -/
abbrev Rec := Nat → Nat → Nat → Nat → Tr → PS → PR
def dumT : Tr := ExL.nil
/-- rank of a binary operator's kind, and the node that it makes. -/
def rankK (k : Nat) : Nat := if k = 22 then 1 else if k = 23 then 2 else if k ≤ 29 then 3 else if k = 30 then 4 else if k ≤ 32 then 5 else 6
def binT (k : Nat) (x y : Tr) : Tr :=
  if k = 22 then Ex.lor x y else if k = 23 then Ex.land x y else if k ≤ 29 then Ex.bin (k - 13) x y else if k = 30 then Ex.bin 20 x y else Ex.bin (k - 30) x y
def isBin (k : Nat) : Bool := decide (22 ≤ k) && decide (k ≤ 36)
section
variable (self : Rec)
/-- an expression of rank r or tighter. -/
def pExpr (lv r : Nat) (s : PS) : PR := bdP (self 2 lv 0 0 dumT s) fun x s => self 1 lv r 0 x s
def pClimb (lv r : Nat) (x : Tr) (s : PS) : PR :=
  if isBin s.k = true ∧ r ≤ rankK s.k then
    bdP (if rankK s.k = 4 then self 0 (lv + 1) 4 0 dumT s.adv else self 0 lv (rankK s.k + 1) 0 dumT s.adv) fun y s' => self 1 lv r 0 (binT s.k x y) s'
  else okP x s
def pUnary (lv : Nat) (s : PS) : PR :=
  if 12 < lv then failP 16 s
  else if s.k = 32 then bdP (self 2 (lv + 1) 0 0 dumT s.adv) fun x s => okP (Ex.un 1 x) s
  else if s.k = 17 then bdP (self 2 (lv + 1) 0 0 dumT s.adv) fun x s => okP (Ex.un 2 x) s
  else if s.k = 37 then bdP (self 2 (lv + 1) 0 0 dumT s.adv) fun x s => okP (Ex.un 3 x) s
  else self 3 lv 0 0 dumT s
def pPrim (lv : Nat) (s : PS) : PR :=
  if s.k = 3 then okP (Ex.num s.cur.n) s.adv
  else if s.k = 4 then okP (Ex.str s.cur.s) s.adv
  else if s.k = 2 then okP (Ex.name s.cur.s) s.adv
  else if s.k = 16 then okP (Ex.lit 12) s.adv
  else if s.k = 20 then okP (Ex.lit 13) s.adv
  else if s.k = 10 then okP (Ex.lit 14) s.adv
  else if s.k = 39 then bdP (self 0 (lv + 1) 1 0 dumT s.adv) fun x s => expP 40 s fun s => okP x s
  else if s.k = 12 then (if 12 ≤ s.fu then failP 20 s else self 12 lv 0 0 dumT s.adv)
  else if s.k = 41 then bdP (self 5 (lv + 1) 42 0 dumT s.adv) fun l s => okP (Ex.table l) s
  else failP 15 s
def pPost (lv : Nat) (s : PS) : PR := if 12 < lv then failP 16 s else bdP (pPrim self lv s) fun x s => self 4 lv 0 0 x s
def pTail (lv : Nat) (x : Tr) (s : PS) : PR :=
  if s.k = 46 then nameP 0 s.adv fun nm s => self 4 lv 0 0 (Ex.index x (Ex.str nm)) s
  else if s.k = 43 then bdP (self 0 (lv + 1) 1 0 dumT s.adv) fun k s => expP 44 s fun s => self 4 lv 0 0 (Ex.index x k) s
  else if s.k = 39 then bdP (self 5 (lv + 1) 40 0 dumT s.adv) fun l s => self 4 lv 0 0 (Ex.call x l) s
  else okP x s
/-- expressions up to the closing kind r; n: how many came before. -/
def pList (lv r n : Nat) (s : PS) : PR :=
  let go := fun s : PS => if r = 40 ∧ n = 3 then failP 19 s else bdP (self 0 lv 1 0 dumT s) fun x s => bdP (self 5 lv r (n + 1) dumT s) fun l s => okP (ExL.cons x l) s
  if s.k = r then okP ExL.nil s.adv
  else if 0 < n then expP 45 s go else go s
/-- parameters; the names so far are the tree's own. -/
def pPars (n : Nat) (x : Tr) (s : PS) : PR :=
  let go := fun s : PS => if n = 3 then failP 19 s else nameP 0 s fun nm s => self 11 0 0 (n + 1) { x with ps := x.ps ++ [nm] } s
  if s.k = 40 then okP x s.adv
  else if 0 < n then expP 45 s go else go s
/-- a literal from its '(' on. -/
def pLit (lv : Nat) (s : PS) : PR :=
  expP 39 s fun s1 => bdP (self 11 0 0 0 dumT { s1 with fu := s1.fu + 1 }) fun x s2 =>
    bdP (self 6 (lv + 1) 0 0 dumT { s2 with al := x.ps.length, lo := 0 }) fun b s3 => expP 9 s3 fun s4 => okP (Ex.func (s1.fu + 1) x.ps b) { s4 with al := s2.al, lo := s2.lo }
def pBlock (lv : Nat) (s : PS) : PR :=
  if 12 < lv then failP 16 s else bdP (self 7 lv 0 0 dumT s) fun l s' => okP l { s' with al := s.al }
/-- statements; r = 1: behind a return or a break. -/
def pStmts (lv r : Nat) (s : PS) : PR :=
  if endsB s = true then okP StL.nil s
  else if r = 1 then failP 15 s
  else bdP (self 8 lv 0 0 dumT s) fun x s => bdP (self 7 lv (if x.c = 26 ∨ x.c = 27 ∨ x.c = 28 ∨ x.c = 29 then 1 else 0) 0 dumT s) fun l s => okP (StL.cons x l) s
/-- what stands behind 'local'. -/
def pLocal (lv : Nat) (s : PS) : PR :=
  if s.k = 12 then
    (if 12 ≤ s.fu then failP 20 s else nameP 1 s.adv fun nm s => bdP (self 12 lv 0 0 dumT { s with al := s.al + 1 }) fun f s => okP (St.locFn nm f.n f.ps (f.ks.headD dumT)) s)
  else nameP 1 s fun nm s =>
    if s.k = 45 then nameP 2 s.adv fun nm2 s => expP 38 s fun s => bdP (self 0 (lv + 1) 1 0 dumT s) fun v s =>
      (if v.c = 5 then okP (St.loc2 nm nm2 (v.ks.headD dumT) (v.ks.getD 1 dumT)) { s with al := s.al + 2 } else failP 15 s)
    else if s.k = 38 then bdP (self 0 (lv + 1) 1 0 dumT s.adv) fun v s => okP (St.locV nm v) { s with al := s.al + 1 }
    else okP (St.loc nm) { s with al := s.al + 1 }
/-- 'if' or 'elseif' is at hand. -/
def pIf (lv : Nat) (s : PS) : PR :=
  bdP (self 0 (lv + 1) 1 0 dumT s.adv) fun c s => expP 19 s fun s => bdP (self 6 (lv + 1) 0 0 dumT s) fun b s =>
    if s.k = 8 then bdP (self 9 (lv + 1) 0 0 dumT s) fun x s => okP (St.iff c b (StL.cons x StL.nil)) s
    else if s.k = 7 then bdP (self 6 (lv + 1) 0 0 dumT s.adv) fun e s => expP 9 s fun s => okP (St.iff c b e) s
    else expP 9 s fun s => okP (St.iff c b StL.nil) s
/-- 'do' block 'end' of a loop with r locals of its own. -/
def pBody (lv r : Nat) (s : PS) : PR :=
  expP 6 s fun s => bdP (self 6 (lv + 1) 0 0 dumT { s with al := s.al + r, lo := s.lo + 1 }) fun b s => expP 9 s fun s => okP b { s with al := s.al - r, lo := s.lo - 1 }
def pFor (lv : Nat) (s : PS) : PR :=
  nameP 4 s fun nm s =>
    if s.k = 45 then nameP 0 s.adv fun nm2 s => expP 14 s fun s => bdP (self 0 (lv + 1) 1 0 dumT s) fun x s => bdP (self 10 lv 4 0 dumT s) fun b s => okP (St.forIn nm nm2 x b) s
    else expP 38 s fun s => bdP (self 0 (lv + 1) 1 0 dumT s) fun a s => expP 45 s fun s => bdP (self 0 (lv + 1) 1 0 dumT s) fun l s =>
      if s.k = 45 then bdP (self 0 (lv + 1) 1 0 dumT s.adv) fun q s => bdP (self 10 lv 4 0 dumT s) fun b s => okP (St.for3 nm a l q b) s
      else bdP (self 10 lv 4 0 dumT s) fun b s => okP (St.for2 nm a l b) s
def pRet (lv : Nat) (s : PS) : PR :=
  if endsB s = true then okP St.ret0 s
  else bdP (self 0 (lv + 1) 1 0 dumT s) fun a s => if s.k = 45 then bdP (self 0 (lv + 1) 1 0 dumT s.adv) fun b s => okP (St.ret2 a b) s else okP (St.ret1 a) s
def pStmt (lv : Nat) (s : PS) : PR :=
  if s.k = 15 then pLocal self lv s.adv
  else if s.k = 13 then self 9 lv 0 0 dumT s
  else if s.k = 11 then pFor self lv s.adv
  else if s.k = 21 then bdP (self 0 (lv + 1) 1 0 dumT s.adv) fun c s => bdP (self 10 lv 0 0 dumT s) fun b s => okP (St.whl c b) s
  else if s.k = 5 then (if s.lo = 0 then failP 15 s else okP St.brk s.adv)
  else if s.k = 18 then pRet self lv s.adv
  else bdP (self 3 (lv + 1) 0 0 dumT s) fun x s =>
    if s.k = 38 then
      (if x.c = 3 then bdP (self 0 (lv + 1) 1 0 dumT s.adv) fun v s => okP (St.setN x.s v) s
       else if x.c = 4 then bdP (self 0 (lv + 1) 1 0 dumT s.adv) fun v s => okP (St.setI (x.ks.headD dumT) (x.ks.getD 1 dumT) v) s
       else failP 15 s)
    else if x.c = 5 then okP (St.call (x.ks.headD dumT) (x.ks.getD 1 dumT)) s else failP 15 s
def stepP : Rec := fun m lv r n x s =>
  if m = 0 then pExpr self lv r s
  else if m = 1 then pClimb self lv r x s
  else if m = 2 then pUnary self lv s
  else if m = 3 then pPost self lv s
  else if m = 4 then pTail self lv x s
  else if m = 5 then pList self lv r n s
  else if m = 6 then pBlock self lv s
  else if m = 7 then pStmts self lv r s
  else if m = 8 then pStmt self lv s
  else if m = 9 then pIf self lv s
  else if m = 10 then pBody self lv r s
  else if m = 11 then pPars self n x s
  else pLit self lv s
end
def parP : Nat → Rec
  | 0 => fun _ _ _ _ _ _ => none
  | f + 1 => stepP (parP f)
/-- the whole text: the chunk, then the end. -/
def chunkP (f : Nat) (tk : List Tok) : PR := bdP (parP f 6 1 0 0 dumT ⟨tk, 0, 0, 0⟩) fun t s => if s.k = 0 then okP t s else failP 15 s

end Go.Proofs.Qxb6500568aGreatDoor
