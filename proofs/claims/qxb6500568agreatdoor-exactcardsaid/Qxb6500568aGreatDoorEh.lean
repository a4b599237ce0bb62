import Derived.Test.Qxb6500568aGreatDoorEg
/- Trees in memory (written by tools/mk_trm.py). -/
namespace Go.Proofs.Qxb6500568aGreatDoor
open Ieee
set_option linter.unusedVariables false
set_option linter.unusedSimpArgs false

/-- A block of a finished tree. -/
def NB (w : World) (ow : Nat → Nat) (b : Nat) (cs : List Value) (t : TypeId) : Prop := Blk w.heap b cs t ∧ ow b = 63
/-- A finished list of nodes. -/
def SlM (w : World) (ow : Nat → Nat) (V : Value) (vs : List Value) : Prop := OwT w ow 63 V 242 1 vs.length vs
/-- Names as nodes. -/
def nmM (w : World) (ow : Nat → Nat) : List Str → List Value → Prop
  | [], vs => vs = []
  | s :: l, vs => ∃ b p r, vs = .iface 305 (ptr b) :: r ∧ NB w ow b [i64c p, S s] 349 ∧ nmM w ow l r
def Tm0 (w : World) (ow : Nat → Nat) (md c k : Nat) (s t : Str) (ps : List Str)  (vs : List Value) : Prop :=
  if c = 0 then (md = 0 ∧ s = [] ∧ t = [] ∧ ps = []) ∧ ∃ (b p : Nat), vs = [.iface 381 (ptr b)] ∧ NB w ow b [i64c p, i64c k] 383 else
  if c = 1 then (md = 0 ∧ s = [] ∧ t = [] ∧ ps = []) ∧ ∃ (b p : Nat), vs = [.iface 384 (ptr b)] ∧ NB w ow b [i64c p, u64c k] 386 else
  if c = 2 then (md = 0 ∧ k = 0 ∧ t = [] ∧ ps = []) ∧ ∃ (b p : Nat), vs = [.iface 374 (ptr b)] ∧ NB w ow b [i64c p, S s] 375 else
  if c = 3 then (md = 0 ∧ k = 0 ∧ t = [] ∧ ps = []) ∧ ∃ (b p : Nat), vs = [.iface 305 (ptr b)] ∧ NB w ow b [i64c p, S s] 349 else
  if c = 12 then (md = 1 ∧ k = 0 ∧ s = [] ∧ t = [] ∧ ps = []) ∧ vs = [] else
  if c = 14 then (md = 2 ∧ k = 0 ∧ t = [] ∧ ps = []) ∧ ∃ (b : Nat) (V : Value) (ns : List Value), vs = [.iface 354 (ptr b)] ∧ NB w ow b [V, .nilIface] 356 ∧ SlM w ow V ns ∧ nmM w ow [s] ns else
  if c = 26 then (md = 2 ∧ k = 0 ∧ s = [] ∧ t = [] ∧ ps = []) ∧ ∃ (b p : Nat), vs = [.iface 239 (ptr b)] ∧ NB w ow b [i64c p, .nilIface, .nilIface] 373 else
  if c = 29 then (md = 2 ∧ k = 0 ∧ s = [] ∧ t = [] ∧ ps = []) ∧ ∃ (b p : Nat), vs = [.iface 240 (ptr b)] ∧ NB w ow b [i64c p] 297 else
  if c = 30 then (md = 3 ∧ k = 0 ∧ s = [] ∧ t = [] ∧ ps = []) ∧ vs = [] else
  False
def Tm1 (w : World) (ow : Nat → Nat) (md c k : Nat) (s t : Str) (ps : List Str) (pa : Nat → List Value → Prop) (vs : List Value) : Prop :=
  if c = 6 then (md = 0 ∧ s = [] ∧ t = []) ∧ ∃ (b p : Nat) (V U : Value) (ns us : List Value), vs = [.iface 346 (ptr b)] ∧ NB w ow b [i64c p, i64c k, V, U] 388 ∧ SlM w ow V ns ∧ nmM w ow ps ns ∧ SlM w ow U us ∧ pa 3 us else
  if c = 7 then (md = 0 ∧ k = 0 ∧ s = [] ∧ t = [] ∧ ps = []) ∧ ∃ (b p : Nat) (U : Value) (us : List Value), vs = [.iface 389 (ptr b)] ∧ NB w ow b [i64c p, U] 391 ∧ SlM w ow U us ∧ pa 1 us else
  if c = 9 then (md = 0 ∧ s = [] ∧ t = [] ∧ ps = []) ∧ ∃ (b p : Nat) (x : Value), vs = [.iface 392 (ptr b)] ∧ NB w ow b [i64c p, u64c k, x] 394 ∧ pa 0 [x] else
  if c = 15 then (md = 2 ∧ k = 0 ∧ t = [] ∧ ps = []) ∧ ∃ (b : Nat) (V : Value) (ns : List Value) (x : Value), vs = [.iface 354 (ptr b)] ∧ NB w ow b [V, x] 356 ∧ SlM w ow V ns ∧ nmM w ow [s] ns ∧ pa 0 [x] else
  if c = 17 then (md = 2 ∧ t = []) ∧ ∃ (b b1 p1 b2 p : Nat) (V U : Value) (ns us : List Value), vs = [.iface 350 (ptr b)] ∧ NB w ow b [ptr b1, ptr b2] 352 ∧ NB w ow b1 [i64c p1, S s] 349 ∧ NB w ow b2 [i64c p, i64c k, V, U] 388 ∧ SlM w ow V ns ∧ nmM w ow ps ns ∧ SlM w ow U us ∧ pa 3 us else
  if c = 18 then (md = 2 ∧ k = 0 ∧ t = [] ∧ ps = []) ∧ ∃ (b p b1 p1 : Nat) (x : Value), vs = [.iface 307 (ptr b)] ∧ NB w ow b [i64c p, .iface 305 (ptr b1), x] 309 ∧ NB w ow b1 [i64c p1, S s] 349 ∧ pa 0 [x] else
  if c = 27 then (md = 2 ∧ k = 0 ∧ s = [] ∧ t = [] ∧ ps = []) ∧ ∃ (b p : Nat) (x : Value), vs = [.iface 239 (ptr b)] ∧ NB w ow b [i64c p, x, .nilIface] 373 ∧ pa 0 [x] else
  False
def Tm2 (w : World) (ow : Nat → Nat) (md c k : Nat) (s t : Str) (ps : List Str) (pa pb : Nat → List Value → Prop) (vs : List Value) : Prop :=
  if c = 4 then (md = 0 ∧ k = 0 ∧ s = [] ∧ t = [] ∧ ps = []) ∧ ∃ (b p : Nat) (x y : Value), vs = [.iface 306 (ptr b)] ∧ NB w ow b [i64c p, x, y] 377 ∧ pa 0 [x] ∧ pb 0 [y] else
  if c = 5 then (md = 0 ∧ k = 0 ∧ s = [] ∧ t = [] ∧ ps = []) ∧ ∃ (b p : Nat) (x U : Value) (us : List Value), vs = [.iface 300 (ptr b)] ∧ NB w ow b [i64c p, x, U] 380 ∧ pa 0 [x] ∧ SlM w ow U us ∧ pb 1 us else
  if c = 8 then (md = 0 ∧ s = [] ∧ t = [] ∧ ps = []) ∧ ∃ (b p : Nat) (x y : Value), vs = [.iface 369 (ptr b)] ∧ NB w ow b [i64c p, i64c 22, u64c k, x, y] 371 ∧ pa 0 [x] ∧ pb 0 [y] else
  if c = 10 then (md = 0 ∧ k = 0 ∧ s = [] ∧ t = [] ∧ ps = []) ∧ ∃ (b p : Nat) (x y : Value), vs = [.iface 369 (ptr b)] ∧ NB w ow b [i64c p, i64c 24, u64c 0, x, y] 371 ∧ pa 0 [x] ∧ pb 0 [y] else
  if c = 11 then (md = 0 ∧ k = 0 ∧ s = [] ∧ t = [] ∧ ps = []) ∧ ∃ (b p : Nat) (x y : Value), vs = [.iface 369 (ptr b)] ∧ NB w ow b [i64c p, i64c 25, u64c 0, x, y] 371 ∧ pa 0 [x] ∧ pb 0 [y] else
  if c = 13 then (md = 1 ∧ k = 0 ∧ s = [] ∧ t = [] ∧ ps = []) ∧ ∃ (x : Value) (r : List Value), vs = x :: r ∧ pa 0 [x] ∧ pb 1 r else
  if c = 16 then (md = 2 ∧ k = 0 ∧ ps = []) ∧ ∃ (b : Nat) (V : Value) (ns : List Value) (b1 p : Nat) (x U : Value) (us : List Value), vs = [.iface 354 (ptr b)] ∧ NB w ow b [V, .iface 300 (ptr b1)] 356 ∧ SlM w ow V ns ∧ nmM w ow [s, t] ns ∧ NB w ow b1 [i64c p, x, U] 380 ∧ pa 0 [x] ∧ SlM w ow U us ∧ pb 1 us else
  if c = 20 then (md = 2 ∧ k = 0 ∧ s = [] ∧ t = [] ∧ ps = []) ∧ ∃ (b b1 p : Nat) (x U : Value) (us : List Value), vs = [.iface 302 (ptr b)] ∧ NB w ow b [ptr b1] 304 ∧ NB w ow b1 [i64c p, x, U] 380 ∧ pa 0 [x] ∧ SlM w ow U us ∧ pb 1 us else
  if c = 22 then (md = 2 ∧ k = 0 ∧ s = [] ∧ t = [] ∧ ps = []) ∧ ∃ (b p : Nat) (x U : Value) (us : List Value), vs = [.iface 293 (ptr b)] ∧ NB w ow b [i64c p, x, U] 295 ∧ pa 0 [x] ∧ SlM w ow U us ∧ pb 3 us else
  if c = 25 then (md = 2 ∧ k = 0 ∧ ps = []) ∧ ∃ (b : Nat) (V : Value) (ns : List Value) (x U : Value) (us : List Value), vs = [.iface 360 (ptr b)] ∧ NB w ow b [V, x, U] 362 ∧ SlM w ow V ns ∧ nmM w ow [s, t] ns ∧ pa 0 [x] ∧ SlM w ow U us ∧ pb 3 us else
  if c = 28 then (md = 2 ∧ k = 0 ∧ s = [] ∧ t = [] ∧ ps = []) ∧ ∃ (b p : Nat) (x y : Value), vs = [.iface 239 (ptr b)] ∧ NB w ow b [i64c p, x, y] 373 ∧ pa 0 [x] ∧ pb 0 [y] else
  if c = 31 then (md = 3 ∧ k = 0 ∧ s = [] ∧ t = [] ∧ ps = []) ∧ ∃ (x : Value) (r : List Value), vs = x :: r ∧ pa 2 [x] ∧ pb 3 r else
  False
def Tm3 (w : World) (ow : Nat → Nat) (md c k : Nat) (s t : Str) (ps : List Str) (pa pb pd : Nat → List Value → Prop) (vs : List Value) : Prop :=
  if c = 19 then (md = 2 ∧ k = 0 ∧ s = [] ∧ t = [] ∧ ps = []) ∧ ∃ (b p b1 p1 : Nat) (x y z : Value), vs = [.iface 307 (ptr b)] ∧ NB w ow b [i64c p, .iface 306 (ptr b1), z] 309 ∧ NB w ow b1 [i64c p1, x, y] 377 ∧ pa 0 [x] ∧ pb 0 [y] ∧ pd 0 [z] else
  if c = 21 then (md = 2 ∧ k = 0 ∧ s = [] ∧ t = [] ∧ ps = []) ∧ ∃ (b p : Nat) (x U : Value) (us : List Value) (V : Value) (ns : List Value), vs = [.iface 357 (ptr b)] ∧ NB w ow b [i64c p, x, U, V] 359 ∧ pa 0 [x] ∧ SlM w ow U us ∧ pb 3 us ∧ SlM w ow V ns ∧ pd 3 ns else
  if c = 23 then (md = 2 ∧ k = 0 ∧ t = [] ∧ ps = []) ∧ ∃ (b b1 p1 : Nat) (V U : Value) (us : List Value) (x y : Value), vs = [.iface 363 (ptr b)] ∧ NB w ow b [ptr b1, V, U] 365 ∧ NB w ow b1 [i64c p1, S s] 349 ∧ SlM w ow V [x, y] ∧ pa 0 [x] ∧ pb 0 [y] ∧ SlM w ow U us ∧ pd 3 us else
  False
def Tm4 (w : World) (ow : Nat → Nat) (md c k : Nat) (s t : Str) (ps : List Str) (pa pb pd pe : Nat → List Value → Prop) (vs : List Value) : Prop :=
  if c = 24 then (md = 2 ∧ k = 0 ∧ t = [] ∧ ps = []) ∧ ∃ (b b1 p1 : Nat) (V U : Value) (us : List Value) (x y z : Value), vs = [.iface 363 (ptr b)] ∧ NB w ow b [ptr b1, V, U] 365 ∧ NB w ow b1 [i64c p1, S s] 349 ∧ SlM w ow V [x, y, z] ∧ pa 0 [x] ∧ pb 0 [y] ∧ pd 0 [z] ∧ SlM w ow U us ∧ pe 3 us else
  False
/-- The tree in memory (md: 0 an expression, 1 a list of them, 2 a statement, 3 a list of them). -/
def TrM (w : World) (ow : Nat → Nat) : Nat → Tr → List Value → Prop
  | md, ⟨c, k, s, t, ps, []⟩, vs => Tm0 w ow md c k s t ps  vs
  | md, ⟨c, k, s, t, ps, [a]⟩, vs => Tm1 w ow md c k s t ps (fun m x => TrM w ow m a x) vs
  | md, ⟨c, k, s, t, ps, [a, b]⟩, vs => Tm2 w ow md c k s t ps (fun m x => TrM w ow m a x) (fun m x => TrM w ow m b x) vs
  | md, ⟨c, k, s, t, ps, [a, b, d]⟩, vs => Tm3 w ow md c k s t ps (fun m x => TrM w ow m a x) (fun m x => TrM w ow m b x) (fun m x => TrM w ow m d x) vs
  | md, ⟨c, k, s, t, ps, [a, b, d, e]⟩, vs => Tm4 w ow md c k s t ps (fun m x => TrM w ow m a x) (fun m x => TrM w ow m b x) (fun m x => TrM w ow m d x) (fun m x => TrM w ow m e x) vs
  | _, _, _ => False
section
variable {w : World} {ow : Nat → Nat} {vs : List Value}
theorem TrM_lit {k : Nat} : TrM w ow 0 (Ex.lit k) vs ↔ ∃ (b p : Nat), vs = [.iface 381 (ptr b)] ∧ NB w ow b [i64c p, i64c k] 383 := ⟨fun h => h.2, fun h => ⟨⟨rfl, rfl, rfl, rfl⟩, h⟩⟩
theorem TrM_num {k : Nat} : TrM w ow 0 (Ex.num k) vs ↔ ∃ (b p : Nat), vs = [.iface 384 (ptr b)] ∧ NB w ow b [i64c p, u64c k] 386 := ⟨fun h => h.2, fun h => ⟨⟨rfl, rfl, rfl, rfl⟩, h⟩⟩
theorem TrM_str {s : Str} : TrM w ow 0 (Ex.str s) vs ↔ ∃ (b p : Nat), vs = [.iface 374 (ptr b)] ∧ NB w ow b [i64c p, S s] 375 := ⟨fun h => h.2, fun h => ⟨⟨rfl, rfl, rfl, rfl⟩, h⟩⟩
theorem TrM_name {s : Str} : TrM w ow 0 (Ex.name s) vs ↔ ∃ (b p : Nat), vs = [.iface 305 (ptr b)] ∧ NB w ow b [i64c p, S s] 349 := ⟨fun h => h.2, fun h => ⟨⟨rfl, rfl, rfl, rfl⟩, h⟩⟩
theorem TrM_enil  : TrM w ow 1 (ExL.nil) vs ↔ vs = [] := ⟨fun h => h.2, fun h => ⟨⟨rfl, rfl, rfl, rfl, rfl⟩, h⟩⟩
theorem TrM_loc {s : Str} : TrM w ow 2 (St.loc s) vs ↔ ∃ (b : Nat) (V : Value) (ns : List Value), vs = [.iface 354 (ptr b)] ∧ NB w ow b [V, .nilIface] 356 ∧ SlM w ow V ns ∧ nmM w ow [s] ns := ⟨fun h => h.2, fun h => ⟨⟨rfl, rfl, rfl, rfl⟩, h⟩⟩
theorem TrM_ret0  : TrM w ow 2 (St.ret0) vs ↔ ∃ (b p : Nat), vs = [.iface 239 (ptr b)] ∧ NB w ow b [i64c p, .nilIface, .nilIface] 373 := ⟨fun h => h.2, fun h => ⟨⟨rfl, rfl, rfl, rfl, rfl⟩, h⟩⟩
theorem TrM_brk  : TrM w ow 2 (St.brk) vs ↔ ∃ (b p : Nat), vs = [.iface 240 (ptr b)] ∧ NB w ow b [i64c p] 297 := ⟨fun h => h.2, fun h => ⟨⟨rfl, rfl, rfl, rfl, rfl⟩, h⟩⟩
theorem TrM_snil  : TrM w ow 3 (StL.nil) vs ↔ vs = [] := ⟨fun h => h.2, fun h => ⟨⟨rfl, rfl, rfl, rfl, rfl⟩, h⟩⟩
theorem TrM_func {k : Nat} {ps : List Str} {a : Tr} : TrM w ow 0 (Ex.func k ps a) vs ↔ ∃ (b p : Nat) (V U : Value) (ns us : List Value), vs = [.iface 346 (ptr b)] ∧ NB w ow b [i64c p, i64c k, V, U] 388 ∧ SlM w ow V ns ∧ nmM w ow ps ns ∧ SlM w ow U us ∧ TrM w ow 3 a us := ⟨fun h => h.2, fun h => ⟨⟨rfl, rfl, rfl⟩, h⟩⟩
theorem TrM_table {a : Tr} : TrM w ow 0 (Ex.table a) vs ↔ ∃ (b p : Nat) (U : Value) (us : List Value), vs = [.iface 389 (ptr b)] ∧ NB w ow b [i64c p, U] 391 ∧ SlM w ow U us ∧ TrM w ow 1 a us := ⟨fun h => h.2, fun h => ⟨⟨rfl, rfl, rfl, rfl, rfl⟩, h⟩⟩
theorem TrM_un {k : Nat} {a : Tr} : TrM w ow 0 (Ex.un k a) vs ↔ ∃ (b p : Nat) (x : Value), vs = [.iface 392 (ptr b)] ∧ NB w ow b [i64c p, u64c k, x] 394 ∧ TrM w ow 0 a [x] := ⟨fun h => h.2, fun h => ⟨⟨rfl, rfl, rfl, rfl⟩, h⟩⟩
theorem TrM_locV {s : Str} {a : Tr} : TrM w ow 2 (St.locV s a) vs ↔ ∃ (b : Nat) (V : Value) (ns : List Value) (x : Value), vs = [.iface 354 (ptr b)] ∧ NB w ow b [V, x] 356 ∧ SlM w ow V ns ∧ nmM w ow [s] ns ∧ TrM w ow 0 a [x] := ⟨fun h => h.2, fun h => ⟨⟨rfl, rfl, rfl, rfl⟩, h⟩⟩
theorem TrM_locFn {s : Str} {k : Nat} {ps : List Str} {a : Tr} : TrM w ow 2 (St.locFn s k ps a) vs ↔ ∃ (b b1 p1 b2 p : Nat) (V U : Value) (ns us : List Value), vs = [.iface 350 (ptr b)] ∧ NB w ow b [ptr b1, ptr b2] 352 ∧ NB w ow b1 [i64c p1, S s] 349 ∧ NB w ow b2 [i64c p, i64c k, V, U] 388 ∧ SlM w ow V ns ∧ nmM w ow ps ns ∧ SlM w ow U us ∧ TrM w ow 3 a us := ⟨fun h => h.2, fun h => ⟨⟨rfl, rfl⟩, h⟩⟩
theorem TrM_setN {s : Str} {a : Tr} : TrM w ow 2 (St.setN s a) vs ↔ ∃ (b p b1 p1 : Nat) (x : Value), vs = [.iface 307 (ptr b)] ∧ NB w ow b [i64c p, .iface 305 (ptr b1), x] 309 ∧ NB w ow b1 [i64c p1, S s] 349 ∧ TrM w ow 0 a [x] := ⟨fun h => h.2, fun h => ⟨⟨rfl, rfl, rfl, rfl⟩, h⟩⟩
theorem TrM_ret1 {a : Tr} : TrM w ow 2 (St.ret1 a) vs ↔ ∃ (b p : Nat) (x : Value), vs = [.iface 239 (ptr b)] ∧ NB w ow b [i64c p, x, .nilIface] 373 ∧ TrM w ow 0 a [x] := ⟨fun h => h.2, fun h => ⟨⟨rfl, rfl, rfl, rfl, rfl⟩, h⟩⟩
theorem TrM_index {a b' : Tr} : TrM w ow 0 (Ex.index a b') vs ↔ ∃ (b p : Nat) (x y : Value), vs = [.iface 306 (ptr b)] ∧ NB w ow b [i64c p, x, y] 377 ∧ TrM w ow 0 a [x] ∧ TrM w ow 0 b' [y] := ⟨fun h => h.2, fun h => ⟨⟨rfl, rfl, rfl, rfl, rfl⟩, h⟩⟩
theorem TrM_call {a b' : Tr} : TrM w ow 0 (Ex.call a b') vs ↔ ∃ (b p : Nat) (x U : Value) (us : List Value), vs = [.iface 300 (ptr b)] ∧ NB w ow b [i64c p, x, U] 380 ∧ TrM w ow 0 a [x] ∧ SlM w ow U us ∧ TrM w ow 1 b' us := ⟨fun h => h.2, fun h => ⟨⟨rfl, rfl, rfl, rfl, rfl⟩, h⟩⟩
theorem TrM_bin {k : Nat} {a b' : Tr} : TrM w ow 0 (Ex.bin k a b') vs ↔ ∃ (b p : Nat) (x y : Value), vs = [.iface 369 (ptr b)] ∧ NB w ow b [i64c p, i64c 22, u64c k, x, y] 371 ∧ TrM w ow 0 a [x] ∧ TrM w ow 0 b' [y] := ⟨fun h => h.2, fun h => ⟨⟨rfl, rfl, rfl, rfl⟩, h⟩⟩
theorem TrM_land {a b' : Tr} : TrM w ow 0 (Ex.land a b') vs ↔ ∃ (b p : Nat) (x y : Value), vs = [.iface 369 (ptr b)] ∧ NB w ow b [i64c p, i64c 24, u64c 0, x, y] 371 ∧ TrM w ow 0 a [x] ∧ TrM w ow 0 b' [y] := ⟨fun h => h.2, fun h => ⟨⟨rfl, rfl, rfl, rfl, rfl⟩, h⟩⟩
theorem TrM_lor {a b' : Tr} : TrM w ow 0 (Ex.lor a b') vs ↔ ∃ (b p : Nat) (x y : Value), vs = [.iface 369 (ptr b)] ∧ NB w ow b [i64c p, i64c 25, u64c 0, x, y] 371 ∧ TrM w ow 0 a [x] ∧ TrM w ow 0 b' [y] := ⟨fun h => h.2, fun h => ⟨⟨rfl, rfl, rfl, rfl, rfl⟩, h⟩⟩
theorem TrM_econs {a b' : Tr} : TrM w ow 1 (ExL.cons a b') vs ↔ ∃ (x : Value) (r : List Value), vs = x :: r ∧ TrM w ow 0 a [x] ∧ TrM w ow 1 b' r := ⟨fun h => h.2, fun h => ⟨⟨rfl, rfl, rfl, rfl, rfl⟩, h⟩⟩
theorem TrM_loc2 {s t : Str} {a b' : Tr} : TrM w ow 2 (St.loc2 s t a b') vs ↔ ∃ (b : Nat) (V : Value) (ns : List Value) (b1 p : Nat) (x U : Value) (us : List Value), vs = [.iface 354 (ptr b)] ∧ NB w ow b [V, .iface 300 (ptr b1)] 356 ∧ SlM w ow V ns ∧ nmM w ow [s, t] ns ∧ NB w ow b1 [i64c p, x, U] 380 ∧ TrM w ow 0 a [x] ∧ SlM w ow U us ∧ TrM w ow 1 b' us := ⟨fun h => h.2, fun h => ⟨⟨rfl, rfl, rfl⟩, h⟩⟩
theorem TrM_scall {a b' : Tr} : TrM w ow 2 (St.call a b') vs ↔ ∃ (b b1 p : Nat) (x U : Value) (us : List Value), vs = [.iface 302 (ptr b)] ∧ NB w ow b [ptr b1] 304 ∧ NB w ow b1 [i64c p, x, U] 380 ∧ TrM w ow 0 a [x] ∧ SlM w ow U us ∧ TrM w ow 1 b' us := ⟨fun h => h.2, fun h => ⟨⟨rfl, rfl, rfl, rfl, rfl⟩, h⟩⟩
theorem TrM_whl {a b' : Tr} : TrM w ow 2 (St.whl a b') vs ↔ ∃ (b p : Nat) (x U : Value) (us : List Value), vs = [.iface 293 (ptr b)] ∧ NB w ow b [i64c p, x, U] 295 ∧ TrM w ow 0 a [x] ∧ SlM w ow U us ∧ TrM w ow 3 b' us := ⟨fun h => h.2, fun h => ⟨⟨rfl, rfl, rfl, rfl, rfl⟩, h⟩⟩
theorem TrM_forIn {s t : Str} {a b' : Tr} : TrM w ow 2 (St.forIn s t a b') vs ↔ ∃ (b : Nat) (V : Value) (ns : List Value) (x U : Value) (us : List Value), vs = [.iface 360 (ptr b)] ∧ NB w ow b [V, x, U] 362 ∧ SlM w ow V ns ∧ nmM w ow [s, t] ns ∧ TrM w ow 0 a [x] ∧ SlM w ow U us ∧ TrM w ow 3 b' us := ⟨fun h => h.2, fun h => ⟨⟨rfl, rfl, rfl⟩, h⟩⟩
theorem TrM_ret2 {a b' : Tr} : TrM w ow 2 (St.ret2 a b') vs ↔ ∃ (b p : Nat) (x y : Value), vs = [.iface 239 (ptr b)] ∧ NB w ow b [i64c p, x, y] 373 ∧ TrM w ow 0 a [x] ∧ TrM w ow 0 b' [y] := ⟨fun h => h.2, fun h => ⟨⟨rfl, rfl, rfl, rfl, rfl⟩, h⟩⟩
theorem TrM_scons {a b' : Tr} : TrM w ow 3 (StL.cons a b') vs ↔ ∃ (x : Value) (r : List Value), vs = x :: r ∧ TrM w ow 2 a [x] ∧ TrM w ow 3 b' r := ⟨fun h => h.2, fun h => ⟨⟨rfl, rfl, rfl, rfl, rfl⟩, h⟩⟩
theorem TrM_setI {a b' d : Tr} : TrM w ow 2 (St.setI a b' d) vs ↔ ∃ (b p b1 p1 : Nat) (x y z : Value), vs = [.iface 307 (ptr b)] ∧ NB w ow b [i64c p, .iface 306 (ptr b1), z] 309 ∧ NB w ow b1 [i64c p1, x, y] 377 ∧ TrM w ow 0 a [x] ∧ TrM w ow 0 b' [y] ∧ TrM w ow 0 d [z] := ⟨fun h => h.2, fun h => ⟨⟨rfl, rfl, rfl, rfl, rfl⟩, h⟩⟩
theorem TrM_iff {a b' d : Tr} : TrM w ow 2 (St.iff a b' d) vs ↔ ∃ (b p : Nat) (x U : Value) (us : List Value) (V : Value) (ns : List Value), vs = [.iface 357 (ptr b)] ∧ NB w ow b [i64c p, x, U, V] 359 ∧ TrM w ow 0 a [x] ∧ SlM w ow U us ∧ TrM w ow 3 b' us ∧ SlM w ow V ns ∧ TrM w ow 3 d ns := ⟨fun h => h.2, fun h => ⟨⟨rfl, rfl, rfl, rfl, rfl⟩, h⟩⟩
theorem TrM_for2 {s : Str} {a b' d : Tr} : TrM w ow 2 (St.for2 s a b' d) vs ↔ ∃ (b b1 p1 : Nat) (V U : Value) (us : List Value) (x y : Value), vs = [.iface 363 (ptr b)] ∧ NB w ow b [ptr b1, V, U] 365 ∧ NB w ow b1 [i64c p1, S s] 349 ∧ SlM w ow V [x, y] ∧ TrM w ow 0 a [x] ∧ TrM w ow 0 b' [y] ∧ SlM w ow U us ∧ TrM w ow 3 d us := ⟨fun h => h.2, fun h => ⟨⟨rfl, rfl, rfl, rfl⟩, h⟩⟩
theorem TrM_for3 {s : Str} {a b' d e : Tr} : TrM w ow 2 (St.for3 s a b' d e) vs ↔ ∃ (b b1 p1 : Nat) (V U : Value) (us : List Value) (x y z : Value), vs = [.iface 363 (ptr b)] ∧ NB w ow b [ptr b1, V, U] 365 ∧ NB w ow b1 [i64c p1, S s] 349 ∧ SlM w ow V [x, y, z] ∧ TrM w ow 0 a [x] ∧ TrM w ow 0 b' [y] ∧ TrM w ow 0 d [z] ∧ SlM w ow U us ∧ TrM w ow 3 e us := ⟨fun h => h.2, fun h => ⟨⟨rfl, rfl, rfl, rfl⟩, h⟩⟩
end
section
variable {w w' : World} {ow ow' : Nat → Nat}
theorem nmM.imp (hb : ∀ b cs t, NB w ow b cs t → NB w' ow' b cs t) : ∀ {l : List Str} {vs : List Value}, nmM w ow l vs → nmM w' ow' l vs
  | [], _, h => h
  | _ :: _, _, ⟨b, p, r, h1, h2, h3⟩ => ⟨b, p, r, h1, hb _ _ _ h2, nmM.imp hb h3⟩
theorem Tm0.imp (hB0 : ∀ b cs t, NB w ow b cs t → NB w' ow' b cs t) (hS0 : ∀ V vs, SlM w ow V vs → SlM w' ow' V vs)  {md c k : Nat} {s t : Str} {ps : List Str} {vs : List Value} (h : Tm0 w ow md c k s t ps  vs) : Tm0 w' ow' md c k s t ps  vs := by
  unfold Tm0 at h ⊢
  by_cases hc : c = 0
  · rw [if_pos hc] at h ⊢; obtain ⟨h0, b, p, q0, q1⟩ := h; exact ⟨h0, b, p, q0, hB0 _ _ _ q1⟩
  rw [if_neg hc] at h ⊢; clear hc
  by_cases hc : c = 1
  · rw [if_pos hc] at h ⊢; obtain ⟨h0, b, p, q0, q1⟩ := h; exact ⟨h0, b, p, q0, hB0 _ _ _ q1⟩
  rw [if_neg hc] at h ⊢; clear hc
  by_cases hc : c = 2
  · rw [if_pos hc] at h ⊢; obtain ⟨h0, b, p, q0, q1⟩ := h; exact ⟨h0, b, p, q0, hB0 _ _ _ q1⟩
  rw [if_neg hc] at h ⊢; clear hc
  by_cases hc : c = 3
  · rw [if_pos hc] at h ⊢; obtain ⟨h0, b, p, q0, q1⟩ := h; exact ⟨h0, b, p, q0, hB0 _ _ _ q1⟩
  rw [if_neg hc] at h ⊢; clear hc
  by_cases hc : c = 12
  · rw [if_pos hc] at h ⊢; obtain ⟨h0, q0⟩ := h; exact ⟨h0, q0⟩
  rw [if_neg hc] at h ⊢; clear hc
  by_cases hc : c = 14
  · rw [if_pos hc] at h ⊢; obtain ⟨h0, b, V, ns, q0, q1, q2, q3⟩ := h; exact ⟨h0, b, V, ns, q0, hB0 _ _ _ q1, hS0 _ _ q2, q3.imp hB0⟩
  rw [if_neg hc] at h ⊢; clear hc
  by_cases hc : c = 26
  · rw [if_pos hc] at h ⊢; obtain ⟨h0, b, p, q0, q1⟩ := h; exact ⟨h0, b, p, q0, hB0 _ _ _ q1⟩
  rw [if_neg hc] at h ⊢; clear hc
  by_cases hc : c = 29
  · rw [if_pos hc] at h ⊢; obtain ⟨h0, b, p, q0, q1⟩ := h; exact ⟨h0, b, p, q0, hB0 _ _ _ q1⟩
  rw [if_neg hc] at h ⊢; clear hc
  by_cases hc : c = 30
  · rw [if_pos hc] at h ⊢; obtain ⟨h0, q0⟩ := h; exact ⟨h0, q0⟩
  rw [if_neg hc] at h ⊢; clear hc
  exact h
theorem Tm1.imp (hB0 : ∀ b cs t, NB w ow b cs t → NB w' ow' b cs t) (hS0 : ∀ V vs, SlM w ow V vs → SlM w' ow' V vs) {pa pa' : Nat → List Value → Prop} (ha : ∀ m x, pa m x → pa' m x) {md c k : Nat} {s t : Str} {ps : List Str} {vs : List Value} (h : Tm1 w ow md c k s t ps pa vs) : Tm1 w' ow' md c k s t ps pa' vs := by
  unfold Tm1 at h ⊢
  by_cases hc : c = 6
  · rw [if_pos hc] at h ⊢; obtain ⟨h0, b, p, V, U, ns, us, q0, q1, q2, q3, q4, q5⟩ := h; exact ⟨h0, b, p, V, U, ns, us, q0, hB0 _ _ _ q1, hS0 _ _ q2, q3.imp hB0, hS0 _ _ q4, ha _ _ q5⟩
  rw [if_neg hc] at h ⊢; clear hc
  by_cases hc : c = 7
  · rw [if_pos hc] at h ⊢; obtain ⟨h0, b, p, U, us, q0, q1, q2, q3⟩ := h; exact ⟨h0, b, p, U, us, q0, hB0 _ _ _ q1, hS0 _ _ q2, ha _ _ q3⟩
  rw [if_neg hc] at h ⊢; clear hc
  by_cases hc : c = 9
  · rw [if_pos hc] at h ⊢; obtain ⟨h0, b, p, x, q0, q1, q2⟩ := h; exact ⟨h0, b, p, x, q0, hB0 _ _ _ q1, ha _ _ q2⟩
  rw [if_neg hc] at h ⊢; clear hc
  by_cases hc : c = 15
  · rw [if_pos hc] at h ⊢; obtain ⟨h0, b, V, ns, x, q0, q1, q2, q3, q4⟩ := h; exact ⟨h0, b, V, ns, x, q0, hB0 _ _ _ q1, hS0 _ _ q2, q3.imp hB0, ha _ _ q4⟩
  rw [if_neg hc] at h ⊢; clear hc
  by_cases hc : c = 17
  · rw [if_pos hc] at h ⊢; obtain ⟨h0, b, b1, p1, b2, p, V, U, ns, us, q0, q1, q2, q3, q4, q5, q6, q7⟩ := h; exact ⟨h0, b, b1, p1, b2, p, V, U, ns, us, q0, hB0 _ _ _ q1, hB0 _ _ _ q2, hB0 _ _ _ q3, hS0 _ _ q4, q5.imp hB0, hS0 _ _ q6, ha _ _ q7⟩
  rw [if_neg hc] at h ⊢; clear hc
  by_cases hc : c = 18
  · rw [if_pos hc] at h ⊢; obtain ⟨h0, b, p, b1, p1, x, q0, q1, q2, q3⟩ := h; exact ⟨h0, b, p, b1, p1, x, q0, hB0 _ _ _ q1, hB0 _ _ _ q2, ha _ _ q3⟩
  rw [if_neg hc] at h ⊢; clear hc
  by_cases hc : c = 27
  · rw [if_pos hc] at h ⊢; obtain ⟨h0, b, p, x, q0, q1, q2⟩ := h; exact ⟨h0, b, p, x, q0, hB0 _ _ _ q1, ha _ _ q2⟩
  rw [if_neg hc] at h ⊢; clear hc
  exact h
theorem Tm2.imp (hB0 : ∀ b cs t, NB w ow b cs t → NB w' ow' b cs t) (hS0 : ∀ V vs, SlM w ow V vs → SlM w' ow' V vs) {pa pa' : Nat → List Value → Prop} (ha : ∀ m x, pa m x → pa' m x) {pb pb' : Nat → List Value → Prop} (hb : ∀ m x, pb m x → pb' m x) {md c k : Nat} {s t : Str} {ps : List Str} {vs : List Value} (h : Tm2 w ow md c k s t ps pa pb vs) : Tm2 w' ow' md c k s t ps pa' pb' vs := by
  unfold Tm2 at h ⊢
  by_cases hc : c = 4
  · rw [if_pos hc] at h ⊢; obtain ⟨h0, b, p, x, y, q0, q1, q2, q3⟩ := h; exact ⟨h0, b, p, x, y, q0, hB0 _ _ _ q1, ha _ _ q2, hb _ _ q3⟩
  rw [if_neg hc] at h ⊢; clear hc
  by_cases hc : c = 5
  · rw [if_pos hc] at h ⊢; obtain ⟨h0, b, p, x, U, us, q0, q1, q2, q3, q4⟩ := h; exact ⟨h0, b, p, x, U, us, q0, hB0 _ _ _ q1, ha _ _ q2, hS0 _ _ q3, hb _ _ q4⟩
  rw [if_neg hc] at h ⊢; clear hc
  by_cases hc : c = 8
  · rw [if_pos hc] at h ⊢; obtain ⟨h0, b, p, x, y, q0, q1, q2, q3⟩ := h; exact ⟨h0, b, p, x, y, q0, hB0 _ _ _ q1, ha _ _ q2, hb _ _ q3⟩
  rw [if_neg hc] at h ⊢; clear hc
  by_cases hc : c = 10
  · rw [if_pos hc] at h ⊢; obtain ⟨h0, b, p, x, y, q0, q1, q2, q3⟩ := h; exact ⟨h0, b, p, x, y, q0, hB0 _ _ _ q1, ha _ _ q2, hb _ _ q3⟩
  rw [if_neg hc] at h ⊢; clear hc
  by_cases hc : c = 11
  · rw [if_pos hc] at h ⊢; obtain ⟨h0, b, p, x, y, q0, q1, q2, q3⟩ := h; exact ⟨h0, b, p, x, y, q0, hB0 _ _ _ q1, ha _ _ q2, hb _ _ q3⟩
  rw [if_neg hc] at h ⊢; clear hc
  by_cases hc : c = 13
  · rw [if_pos hc] at h ⊢; obtain ⟨h0, x, r, q0, q1, q2⟩ := h; exact ⟨h0, x, r, q0, ha _ _ q1, hb _ _ q2⟩
  rw [if_neg hc] at h ⊢; clear hc
  by_cases hc : c = 16
  · rw [if_pos hc] at h ⊢; obtain ⟨h0, b, V, ns, b1, p, x, U, us, q0, q1, q2, q3, q4, q5, q6, q7⟩ := h; exact ⟨h0, b, V, ns, b1, p, x, U, us, q0, hB0 _ _ _ q1, hS0 _ _ q2, q3.imp hB0, hB0 _ _ _ q4, ha _ _ q5, hS0 _ _ q6, hb _ _ q7⟩
  rw [if_neg hc] at h ⊢; clear hc
  by_cases hc : c = 20
  · rw [if_pos hc] at h ⊢; obtain ⟨h0, b, b1, p, x, U, us, q0, q1, q2, q3, q4, q5⟩ := h; exact ⟨h0, b, b1, p, x, U, us, q0, hB0 _ _ _ q1, hB0 _ _ _ q2, ha _ _ q3, hS0 _ _ q4, hb _ _ q5⟩
  rw [if_neg hc] at h ⊢; clear hc
  by_cases hc : c = 22
  · rw [if_pos hc] at h ⊢; obtain ⟨h0, b, p, x, U, us, q0, q1, q2, q3, q4⟩ := h; exact ⟨h0, b, p, x, U, us, q0, hB0 _ _ _ q1, ha _ _ q2, hS0 _ _ q3, hb _ _ q4⟩
  rw [if_neg hc] at h ⊢; clear hc
  by_cases hc : c = 25
  · rw [if_pos hc] at h ⊢; obtain ⟨h0, b, V, ns, x, U, us, q0, q1, q2, q3, q4, q5, q6⟩ := h; exact ⟨h0, b, V, ns, x, U, us, q0, hB0 _ _ _ q1, hS0 _ _ q2, q3.imp hB0, ha _ _ q4, hS0 _ _ q5, hb _ _ q6⟩
  rw [if_neg hc] at h ⊢; clear hc
  by_cases hc : c = 28
  · rw [if_pos hc] at h ⊢; obtain ⟨h0, b, p, x, y, q0, q1, q2, q3⟩ := h; exact ⟨h0, b, p, x, y, q0, hB0 _ _ _ q1, ha _ _ q2, hb _ _ q3⟩
  rw [if_neg hc] at h ⊢; clear hc
  by_cases hc : c = 31
  · rw [if_pos hc] at h ⊢; obtain ⟨h0, x, r, q0, q1, q2⟩ := h; exact ⟨h0, x, r, q0, ha _ _ q1, hb _ _ q2⟩
  rw [if_neg hc] at h ⊢; clear hc
  exact h
theorem Tm3.imp (hB0 : ∀ b cs t, NB w ow b cs t → NB w' ow' b cs t) (hS0 : ∀ V vs, SlM w ow V vs → SlM w' ow' V vs) {pa pa' : Nat → List Value → Prop} (ha : ∀ m x, pa m x → pa' m x) {pb pb' : Nat → List Value → Prop} (hb : ∀ m x, pb m x → pb' m x) {pd pd' : Nat → List Value → Prop} (hd : ∀ m x, pd m x → pd' m x) {md c k : Nat} {s t : Str} {ps : List Str} {vs : List Value} (h : Tm3 w ow md c k s t ps pa pb pd vs) : Tm3 w' ow' md c k s t ps pa' pb' pd' vs := by
  unfold Tm3 at h ⊢
  by_cases hc : c = 19
  · rw [if_pos hc] at h ⊢; obtain ⟨h0, b, p, b1, p1, x, y, z, q0, q1, q2, q3, q4, q5⟩ := h; exact ⟨h0, b, p, b1, p1, x, y, z, q0, hB0 _ _ _ q1, hB0 _ _ _ q2, ha _ _ q3, hb _ _ q4, hd _ _ q5⟩
  rw [if_neg hc] at h ⊢; clear hc
  by_cases hc : c = 21
  · rw [if_pos hc] at h ⊢; obtain ⟨h0, b, p, x, U, us, V, ns, q0, q1, q2, q3, q4, q5, q6⟩ := h; exact ⟨h0, b, p, x, U, us, V, ns, q0, hB0 _ _ _ q1, ha _ _ q2, hS0 _ _ q3, hb _ _ q4, hS0 _ _ q5, hd _ _ q6⟩
  rw [if_neg hc] at h ⊢; clear hc
  by_cases hc : c = 23
  · rw [if_pos hc] at h ⊢; obtain ⟨h0, b, b1, p1, V, U, us, x, y, q0, q1, q2, q3, q4, q5, q6, q7⟩ := h; exact ⟨h0, b, b1, p1, V, U, us, x, y, q0, hB0 _ _ _ q1, hB0 _ _ _ q2, hS0 _ _ q3, ha _ _ q4, hb _ _ q5, hS0 _ _ q6, hd _ _ q7⟩
  rw [if_neg hc] at h ⊢; clear hc
  exact h
theorem Tm4.imp (hB0 : ∀ b cs t, NB w ow b cs t → NB w' ow' b cs t) (hS0 : ∀ V vs, SlM w ow V vs → SlM w' ow' V vs) {pa pa' : Nat → List Value → Prop} (ha : ∀ m x, pa m x → pa' m x) {pb pb' : Nat → List Value → Prop} (hb : ∀ m x, pb m x → pb' m x) {pd pd' : Nat → List Value → Prop} (hd : ∀ m x, pd m x → pd' m x) {pe pe' : Nat → List Value → Prop} (he : ∀ m x, pe m x → pe' m x) {md c k : Nat} {s t : Str} {ps : List Str} {vs : List Value} (h : Tm4 w ow md c k s t ps pa pb pd pe vs) : Tm4 w' ow' md c k s t ps pa' pb' pd' pe' vs := by
  unfold Tm4 at h ⊢
  by_cases hc : c = 24
  · rw [if_pos hc] at h ⊢; obtain ⟨h0, b, b1, p1, V, U, us, x, y, z, q0, q1, q2, q3, q4, q5, q6, q7, q8⟩ := h; exact ⟨h0, b, b1, p1, V, U, us, x, y, z, q0, hB0 _ _ _ q1, hB0 _ _ _ q2, hS0 _ _ q3, ha _ _ q4, hb _ _ q5, hd _ _ q6, hS0 _ _ q7, he _ _ q8⟩
  rw [if_neg hc] at h ⊢; clear hc
  exact h
/-- What is finished stays. -/
theorem TrM.imp (hb : ∀ b cs t, NB w ow b cs t → NB w' ow' b cs t) (hs : ∀ V vs, SlM w ow V vs → SlM w' ow' V vs) : ∀ {md : Nat} {tr : Tr} {vs : List Value}, TrM w ow md tr vs → TrM w' ow' md tr vs
  | md, ⟨c, k, s, t, ps, []⟩, vs, h => Tm0.imp hb hs  h
  | md, ⟨c, k, s, t, ps, [a]⟩, vs, h => Tm1.imp hb hs (fun _ _ qa => TrM.imp hb hs qa) h
  | md, ⟨c, k, s, t, ps, [a, b]⟩, vs, h => Tm2.imp hb hs (fun _ _ qa => TrM.imp hb hs qa) (fun _ _ qb => TrM.imp hb hs qb) h
  | md, ⟨c, k, s, t, ps, [a, b, d]⟩, vs, h => Tm3.imp hb hs (fun _ _ qa => TrM.imp hb hs qa) (fun _ _ qb => TrM.imp hb hs qb) (fun _ _ qd => TrM.imp hb hs qd) h
  | md, ⟨c, k, s, t, ps, [a, b, d, e]⟩, vs, h => Tm4.imp hb hs (fun _ _ qa => TrM.imp hb hs qa) (fun _ _ qb => TrM.imp hb hs qb) (fun _ _ qd => TrM.imp hb hs qd) (fun _ _ qe => TrM.imp hb hs qe) h
  | _, ⟨_, _, _, _, _, _ :: _ :: _ :: _ :: _ :: _⟩, _, h => h.elim
theorem NB.far {b : Nat} {cs : List Value} {t : TypeId} {G : Nat → Prop} (h : NB w ow b cs t) (f : Fram G w w') (hn : ∀ b, ow b = 63 → b < w.heap.size → ¬ G b) (hE : Xt w ow ow') : NB w' ow' b cs t :=
  ⟨h.1.fram f (hn b h.2 h.1.lt), by rw [hE b h.1.lt]; exact h.2⟩
theorem TrM.far {md : Nat} {tr : Tr} {vs : List Value} {G : Nat → Prop} (h : TrM w ow md tr vs) (f : Fram G w w') (hn : ∀ b, ow b = 63 → b < w.heap.size → ¬ G b) (hE : Xt w ow ow') : TrM w' ow' md tr vs :=
  h.imp (fun b cs t q => q.far f hn hE) (fun V vs q => OwT.far q f hn hE)
/-- More blocks become finished. -/
theorem TrM.tags {md : Nat} {tr : Tr} {vs : List Value} (h : TrM w ow md tr vs) (hE : ∀ b, ow b = 63 → ow' b = 63) : TrM w ow' md tr vs :=
  h.imp (fun b cs t q => ⟨q.1, hE b q.2⟩) (fun V vs q => ⟨q.o, fun b hb => hE b (q.t b hb)⟩)
theorem nmM.far {l : List Str} {vs : List Value} {G : Nat → Prop} (h : nmM w ow l vs) (f : Fram G w w') (hn : ∀ b, ow b = 63 → b < w.heap.size → ¬ G b) (hE : Xt w ow ow') : nmM w' ow' l vs :=
  h.imp (fun b cs t q => q.far f hn hE)
theorem nmM.tags {l : List Str} {vs : List Value} (h : nmM w ow l vs) (hE : ∀ b, ow b = 63 → ow' b = 63) : nmM w ow' l vs := h.imp (fun b cs t q => ⟨q.1, hE b q.2⟩)
end
section
variable {w : World} {ow : Nat → Nat} {vs : List Value}
theorem TrM.invE : ∀ {tr : Tr}, TrM w ow 0 tr vs → (∃ k : Nat, tr = Ex.lit k) ∨ (∃ x : Nat, tr = Ex.num x) ∨ (∃ s : Str, tr = Ex.str s) ∨ (∃ s : Str, tr = Ex.name s) ∨ (∃ a : Ex, ∃ b : Ex, tr = Ex.index a b) ∨ (∃ f : Ex, ∃ zs : ExL, tr = Ex.call f zs) ∨ (∃ k : Nat, ∃ ps : List Str, ∃ b : StL, tr = Ex.func k ps b) ∨ (∃ zs : ExL, tr = Ex.table zs) ∨ (∃ op : Nat, ∃ a : Ex, ∃ b : Ex, tr = Ex.bin op a b) ∨ (∃ op : Nat, ∃ a : Ex, tr = Ex.un op a) ∨ (∃ a : Ex, ∃ b : Ex, tr = Ex.land a b) ∨ (∃ a : Ex, ∃ b : Ex, tr = Ex.lor a b)
  | ⟨c, k, s, t, ps, []⟩, h => by
    have h : Tm0 w ow 0 c k s t ps vs := h
    unfold Tm0 at h
    by_cases hc : c = 0
    · rw [if_pos hc] at h; subst hc; obtain ⟨⟨-, rfl, rfl, rfl⟩, -⟩ := h; exact (.inl ⟨_, rfl⟩)
    rw [if_neg hc] at h; clear hc
    by_cases hc : c = 1
    · rw [if_pos hc] at h; subst hc; obtain ⟨⟨-, rfl, rfl, rfl⟩, -⟩ := h; exact (.inr (.inl ⟨_, rfl⟩))
    rw [if_neg hc] at h; clear hc
    by_cases hc : c = 2
    · rw [if_pos hc] at h; subst hc; obtain ⟨⟨-, rfl, rfl, rfl⟩, -⟩ := h; exact (.inr (.inr (.inl ⟨_, rfl⟩)))
    rw [if_neg hc] at h; clear hc
    by_cases hc : c = 3
    · rw [if_pos hc] at h; subst hc; obtain ⟨⟨-, rfl, rfl, rfl⟩, -⟩ := h; exact (.inr (.inr (.inr (.inl ⟨_, rfl⟩))))
    rw [if_neg hc] at h; clear hc
    by_cases hc : c = 12
    · rw [if_pos hc] at h; exact absurd h.1.1 (by decide)
    rw [if_neg hc] at h; clear hc
    by_cases hc : c = 14
    · rw [if_pos hc] at h; exact absurd h.1.1 (by decide)
    rw [if_neg hc] at h; clear hc
    by_cases hc : c = 26
    · rw [if_pos hc] at h; exact absurd h.1.1 (by decide)
    rw [if_neg hc] at h; clear hc
    by_cases hc : c = 29
    · rw [if_pos hc] at h; exact absurd h.1.1 (by decide)
    rw [if_neg hc] at h; clear hc
    by_cases hc : c = 30
    · rw [if_pos hc] at h; exact absurd h.1.1 (by decide)
    rw [if_neg hc] at h; clear hc
    exact h.elim
  | ⟨c, k, s, t, ps, [a]⟩, h => by
    have h : Tm1 w ow 0 c k s t ps (fun m x => TrM w ow m a x) vs := h
    unfold Tm1 at h
    by_cases hc : c = 6
    · rw [if_pos hc] at h; subst hc; obtain ⟨⟨-, rfl, rfl⟩, -⟩ := h; exact (.inr (.inr (.inr (.inr (.inr (.inr (.inl ⟨_, _, _, rfl⟩)))))))
    rw [if_neg hc] at h; clear hc
    by_cases hc : c = 7
    · rw [if_pos hc] at h; subst hc; obtain ⟨⟨-, rfl, rfl, rfl, rfl⟩, -⟩ := h; exact (.inr (.inr (.inr (.inr (.inr (.inr (.inr (.inl ⟨_, rfl⟩))))))))
    rw [if_neg hc] at h; clear hc
    by_cases hc : c = 9
    · rw [if_pos hc] at h; subst hc; obtain ⟨⟨-, rfl, rfl, rfl⟩, -⟩ := h; exact (.inr (.inr (.inr (.inr (.inr (.inr (.inr (.inr (.inr (.inl ⟨_, _, rfl⟩))))))))))
    rw [if_neg hc] at h; clear hc
    by_cases hc : c = 15
    · rw [if_pos hc] at h; exact absurd h.1.1 (by decide)
    rw [if_neg hc] at h; clear hc
    by_cases hc : c = 17
    · rw [if_pos hc] at h; exact absurd h.1.1 (by decide)
    rw [if_neg hc] at h; clear hc
    by_cases hc : c = 18
    · rw [if_pos hc] at h; exact absurd h.1.1 (by decide)
    rw [if_neg hc] at h; clear hc
    by_cases hc : c = 27
    · rw [if_pos hc] at h; exact absurd h.1.1 (by decide)
    rw [if_neg hc] at h; clear hc
    exact h.elim
  | ⟨c, k, s, t, ps, [a, b]⟩, h => by
    have h : Tm2 w ow 0 c k s t ps (fun m x => TrM w ow m a x) (fun m x => TrM w ow m b x) vs := h
    unfold Tm2 at h
    by_cases hc : c = 4
    · rw [if_pos hc] at h; subst hc; obtain ⟨⟨-, rfl, rfl, rfl, rfl⟩, -⟩ := h; exact (.inr (.inr (.inr (.inr (.inl ⟨_, _, rfl⟩)))))
    rw [if_neg hc] at h; clear hc
    by_cases hc : c = 5
    · rw [if_pos hc] at h; subst hc; obtain ⟨⟨-, rfl, rfl, rfl, rfl⟩, -⟩ := h; exact (.inr (.inr (.inr (.inr (.inr (.inl ⟨_, _, rfl⟩))))))
    rw [if_neg hc] at h; clear hc
    by_cases hc : c = 8
    · rw [if_pos hc] at h; subst hc; obtain ⟨⟨-, rfl, rfl, rfl⟩, -⟩ := h; exact (.inr (.inr (.inr (.inr (.inr (.inr (.inr (.inr (.inl ⟨_, _, _, rfl⟩)))))))))
    rw [if_neg hc] at h; clear hc
    by_cases hc : c = 10
    · rw [if_pos hc] at h; subst hc; obtain ⟨⟨-, rfl, rfl, rfl, rfl⟩, -⟩ := h; exact (.inr (.inr (.inr (.inr (.inr (.inr (.inr (.inr (.inr (.inr (.inl ⟨_, _, rfl⟩)))))))))))
    rw [if_neg hc] at h; clear hc
    by_cases hc : c = 11
    · rw [if_pos hc] at h; subst hc; obtain ⟨⟨-, rfl, rfl, rfl, rfl⟩, -⟩ := h; exact (.inr (.inr (.inr (.inr (.inr (.inr (.inr (.inr (.inr (.inr (.inr ⟨_, _, rfl⟩)))))))))))
    rw [if_neg hc] at h; clear hc
    by_cases hc : c = 13
    · rw [if_pos hc] at h; exact absurd h.1.1 (by decide)
    rw [if_neg hc] at h; clear hc
    by_cases hc : c = 16
    · rw [if_pos hc] at h; exact absurd h.1.1 (by decide)
    rw [if_neg hc] at h; clear hc
    by_cases hc : c = 20
    · rw [if_pos hc] at h; exact absurd h.1.1 (by decide)
    rw [if_neg hc] at h; clear hc
    by_cases hc : c = 22
    · rw [if_pos hc] at h; exact absurd h.1.1 (by decide)
    rw [if_neg hc] at h; clear hc
    by_cases hc : c = 25
    · rw [if_pos hc] at h; exact absurd h.1.1 (by decide)
    rw [if_neg hc] at h; clear hc
    by_cases hc : c = 28
    · rw [if_pos hc] at h; exact absurd h.1.1 (by decide)
    rw [if_neg hc] at h; clear hc
    by_cases hc : c = 31
    · rw [if_pos hc] at h; exact absurd h.1.1 (by decide)
    rw [if_neg hc] at h; clear hc
    exact h.elim
  | ⟨c, k, s, t, ps, [a, b, d]⟩, h => by
    have h : Tm3 w ow 0 c k s t ps (fun m x => TrM w ow m a x) (fun m x => TrM w ow m b x) (fun m x => TrM w ow m d x) vs := h
    unfold Tm3 at h
    by_cases hc : c = 19
    · rw [if_pos hc] at h; exact absurd h.1.1 (by decide)
    rw [if_neg hc] at h; clear hc
    by_cases hc : c = 21
    · rw [if_pos hc] at h; exact absurd h.1.1 (by decide)
    rw [if_neg hc] at h; clear hc
    by_cases hc : c = 23
    · rw [if_pos hc] at h; exact absurd h.1.1 (by decide)
    rw [if_neg hc] at h; clear hc
    exact h.elim
  | ⟨c, k, s, t, ps, [a, b, d, e]⟩, h => by
    have h : Tm4 w ow 0 c k s t ps (fun m x => TrM w ow m a x) (fun m x => TrM w ow m b x) (fun m x => TrM w ow m d x) (fun m x => TrM w ow m e x) vs := h
    unfold Tm4 at h
    by_cases hc : c = 24
    · rw [if_pos hc] at h; exact absurd h.1.1 (by decide)
    rw [if_neg hc] at h; clear hc
    exact h.elim
  | ⟨c, k, s, t, ps, _ :: _ :: _ :: _ :: _ :: _⟩, h => False.elim h
theorem TrM.invEL : ∀ {tr : Tr}, TrM w ow 1 tr vs → (tr = ExL.nil) ∨ (∃ e : Ex, ∃ l : ExL, tr = ExL.cons e l)
  | ⟨c, k, s, t, ps, []⟩, h => by
    have h : Tm0 w ow 1 c k s t ps vs := h
    unfold Tm0 at h
    by_cases hc : c = 0
    · rw [if_pos hc] at h; exact absurd h.1.1 (by decide)
    rw [if_neg hc] at h; clear hc
    by_cases hc : c = 1
    · rw [if_pos hc] at h; exact absurd h.1.1 (by decide)
    rw [if_neg hc] at h; clear hc
    by_cases hc : c = 2
    · rw [if_pos hc] at h; exact absurd h.1.1 (by decide)
    rw [if_neg hc] at h; clear hc
    by_cases hc : c = 3
    · rw [if_pos hc] at h; exact absurd h.1.1 (by decide)
    rw [if_neg hc] at h; clear hc
    by_cases hc : c = 12
    · rw [if_pos hc] at h; subst hc; obtain ⟨⟨-, rfl, rfl, rfl, rfl⟩, -⟩ := h; exact (.inl rfl)
    rw [if_neg hc] at h; clear hc
    by_cases hc : c = 14
    · rw [if_pos hc] at h; exact absurd h.1.1 (by decide)
    rw [if_neg hc] at h; clear hc
    by_cases hc : c = 26
    · rw [if_pos hc] at h; exact absurd h.1.1 (by decide)
    rw [if_neg hc] at h; clear hc
    by_cases hc : c = 29
    · rw [if_pos hc] at h; exact absurd h.1.1 (by decide)
    rw [if_neg hc] at h; clear hc
    by_cases hc : c = 30
    · rw [if_pos hc] at h; exact absurd h.1.1 (by decide)
    rw [if_neg hc] at h; clear hc
    exact h.elim
  | ⟨c, k, s, t, ps, [a]⟩, h => by
    have h : Tm1 w ow 1 c k s t ps (fun m x => TrM w ow m a x) vs := h
    unfold Tm1 at h
    by_cases hc : c = 6
    · rw [if_pos hc] at h; exact absurd h.1.1 (by decide)
    rw [if_neg hc] at h; clear hc
    by_cases hc : c = 7
    · rw [if_pos hc] at h; exact absurd h.1.1 (by decide)
    rw [if_neg hc] at h; clear hc
    by_cases hc : c = 9
    · rw [if_pos hc] at h; exact absurd h.1.1 (by decide)
    rw [if_neg hc] at h; clear hc
    by_cases hc : c = 15
    · rw [if_pos hc] at h; exact absurd h.1.1 (by decide)
    rw [if_neg hc] at h; clear hc
    by_cases hc : c = 17
    · rw [if_pos hc] at h; exact absurd h.1.1 (by decide)
    rw [if_neg hc] at h; clear hc
    by_cases hc : c = 18
    · rw [if_pos hc] at h; exact absurd h.1.1 (by decide)
    rw [if_neg hc] at h; clear hc
    by_cases hc : c = 27
    · rw [if_pos hc] at h; exact absurd h.1.1 (by decide)
    rw [if_neg hc] at h; clear hc
    exact h.elim
  | ⟨c, k, s, t, ps, [a, b]⟩, h => by
    have h : Tm2 w ow 1 c k s t ps (fun m x => TrM w ow m a x) (fun m x => TrM w ow m b x) vs := h
    unfold Tm2 at h
    by_cases hc : c = 4
    · rw [if_pos hc] at h; exact absurd h.1.1 (by decide)
    rw [if_neg hc] at h; clear hc
    by_cases hc : c = 5
    · rw [if_pos hc] at h; exact absurd h.1.1 (by decide)
    rw [if_neg hc] at h; clear hc
    by_cases hc : c = 8
    · rw [if_pos hc] at h; exact absurd h.1.1 (by decide)
    rw [if_neg hc] at h; clear hc
    by_cases hc : c = 10
    · rw [if_pos hc] at h; exact absurd h.1.1 (by decide)
    rw [if_neg hc] at h; clear hc
    by_cases hc : c = 11
    · rw [if_pos hc] at h; exact absurd h.1.1 (by decide)
    rw [if_neg hc] at h; clear hc
    by_cases hc : c = 13
    · rw [if_pos hc] at h; subst hc; obtain ⟨⟨-, rfl, rfl, rfl, rfl⟩, -⟩ := h; exact (.inr ⟨_, _, rfl⟩)
    rw [if_neg hc] at h; clear hc
    by_cases hc : c = 16
    · rw [if_pos hc] at h; exact absurd h.1.1 (by decide)
    rw [if_neg hc] at h; clear hc
    by_cases hc : c = 20
    · rw [if_pos hc] at h; exact absurd h.1.1 (by decide)
    rw [if_neg hc] at h; clear hc
    by_cases hc : c = 22
    · rw [if_pos hc] at h; exact absurd h.1.1 (by decide)
    rw [if_neg hc] at h; clear hc
    by_cases hc : c = 25
    · rw [if_pos hc] at h; exact absurd h.1.1 (by decide)
    rw [if_neg hc] at h; clear hc
    by_cases hc : c = 28
    · rw [if_pos hc] at h; exact absurd h.1.1 (by decide)
    rw [if_neg hc] at h; clear hc
    by_cases hc : c = 31
    · rw [if_pos hc] at h; exact absurd h.1.1 (by decide)
    rw [if_neg hc] at h; clear hc
    exact h.elim
  | ⟨c, k, s, t, ps, [a, b, d]⟩, h => by
    have h : Tm3 w ow 1 c k s t ps (fun m x => TrM w ow m a x) (fun m x => TrM w ow m b x) (fun m x => TrM w ow m d x) vs := h
    unfold Tm3 at h
    by_cases hc : c = 19
    · rw [if_pos hc] at h; exact absurd h.1.1 (by decide)
    rw [if_neg hc] at h; clear hc
    by_cases hc : c = 21
    · rw [if_pos hc] at h; exact absurd h.1.1 (by decide)
    rw [if_neg hc] at h; clear hc
    by_cases hc : c = 23
    · rw [if_pos hc] at h; exact absurd h.1.1 (by decide)
    rw [if_neg hc] at h; clear hc
    exact h.elim
  | ⟨c, k, s, t, ps, [a, b, d, e]⟩, h => by
    have h : Tm4 w ow 1 c k s t ps (fun m x => TrM w ow m a x) (fun m x => TrM w ow m b x) (fun m x => TrM w ow m d x) (fun m x => TrM w ow m e x) vs := h
    unfold Tm4 at h
    by_cases hc : c = 24
    · rw [if_pos hc] at h; exact absurd h.1.1 (by decide)
    rw [if_neg hc] at h; clear hc
    exact h.elim
  | ⟨c, k, s, t, ps, _ :: _ :: _ :: _ :: _ :: _⟩, h => False.elim h
theorem TrM.invS : ∀ {tr : Tr}, TrM w ow 2 tr vs → (∃ s : Str, tr = St.loc s) ∨ (∃ s : Str, ∃ v : Ex, tr = St.locV s v) ∨ (∃ s : Str, ∃ t : Str, ∃ f : Ex, ∃ zs : ExL, tr = St.loc2 s t f zs) ∨ (∃ s : Str, ∃ k : Nat, ∃ ps : List Str, ∃ b : StL, tr = St.locFn s k ps b) ∨ (∃ s : Str, ∃ v : Ex, tr = St.setN s v) ∨ (∃ a : Ex, ∃ k : Ex, ∃ v : Ex, tr = St.setI a k v) ∨ (∃ f : Ex, ∃ zs : ExL, tr = St.call f zs) ∨ (∃ c : Ex, ∃ t : StL, ∃ e : StL, tr = St.iff c t e) ∨ (∃ c : Ex, ∃ b : StL, tr = St.whl c b) ∨ (∃ s : Str, ∃ a : Ex, ∃ l : Ex, ∃ b : StL, tr = St.for2 s a l b) ∨ (∃ s : Str, ∃ a : Ex, ∃ l : Ex, ∃ p : Ex, ∃ b : StL, tr = St.for3 s a l p b) ∨ (∃ s : Str, ∃ t : Str, ∃ x : Ex, ∃ b : StL, tr = St.forIn s t x b) ∨ (tr = St.ret0) ∨ (∃ a : Ex, tr = St.ret1 a) ∨ (∃ a : Ex, ∃ b : Ex, tr = St.ret2 a b) ∨ (tr = St.brk)
  | ⟨c, k, s, t, ps, []⟩, h => by
    have h : Tm0 w ow 2 c k s t ps vs := h
    unfold Tm0 at h
    by_cases hc : c = 0
    · rw [if_pos hc] at h; exact absurd h.1.1 (by decide)
    rw [if_neg hc] at h; clear hc
    by_cases hc : c = 1
    · rw [if_pos hc] at h; exact absurd h.1.1 (by decide)
    rw [if_neg hc] at h; clear hc
    by_cases hc : c = 2
    · rw [if_pos hc] at h; exact absurd h.1.1 (by decide)
    rw [if_neg hc] at h; clear hc
    by_cases hc : c = 3
    · rw [if_pos hc] at h; exact absurd h.1.1 (by decide)
    rw [if_neg hc] at h; clear hc
    by_cases hc : c = 12
    · rw [if_pos hc] at h; exact absurd h.1.1 (by decide)
    rw [if_neg hc] at h; clear hc
    by_cases hc : c = 14
    · rw [if_pos hc] at h; subst hc; obtain ⟨⟨-, rfl, rfl, rfl⟩, -⟩ := h; exact (.inl ⟨_, rfl⟩)
    rw [if_neg hc] at h; clear hc
    by_cases hc : c = 26
    · rw [if_pos hc] at h; subst hc; obtain ⟨⟨-, rfl, rfl, rfl, rfl⟩, -⟩ := h; exact (.inr (.inr (.inr (.inr (.inr (.inr (.inr (.inr (.inr (.inr (.inr (.inr (.inl rfl)))))))))))))
    rw [if_neg hc] at h; clear hc
    by_cases hc : c = 29
    · rw [if_pos hc] at h; subst hc; obtain ⟨⟨-, rfl, rfl, rfl, rfl⟩, -⟩ := h; exact (.inr (.inr (.inr (.inr (.inr (.inr (.inr (.inr (.inr (.inr (.inr (.inr (.inr (.inr (.inr rfl)))))))))))))))
    rw [if_neg hc] at h; clear hc
    by_cases hc : c = 30
    · rw [if_pos hc] at h; exact absurd h.1.1 (by decide)
    rw [if_neg hc] at h; clear hc
    exact h.elim
  | ⟨c, k, s, t, ps, [a]⟩, h => by
    have h : Tm1 w ow 2 c k s t ps (fun m x => TrM w ow m a x) vs := h
    unfold Tm1 at h
    by_cases hc : c = 6
    · rw [if_pos hc] at h; exact absurd h.1.1 (by decide)
    rw [if_neg hc] at h; clear hc
    by_cases hc : c = 7
    · rw [if_pos hc] at h; exact absurd h.1.1 (by decide)
    rw [if_neg hc] at h; clear hc
    by_cases hc : c = 9
    · rw [if_pos hc] at h; exact absurd h.1.1 (by decide)
    rw [if_neg hc] at h; clear hc
    by_cases hc : c = 15
    · rw [if_pos hc] at h; subst hc; obtain ⟨⟨-, rfl, rfl, rfl⟩, -⟩ := h; exact (.inr (.inl ⟨_, _, rfl⟩))
    rw [if_neg hc] at h; clear hc
    by_cases hc : c = 17
    · rw [if_pos hc] at h; subst hc; obtain ⟨⟨-, rfl⟩, -⟩ := h; exact (.inr (.inr (.inr (.inl ⟨_, _, _, _, rfl⟩))))
    rw [if_neg hc] at h; clear hc
    by_cases hc : c = 18
    · rw [if_pos hc] at h; subst hc; obtain ⟨⟨-, rfl, rfl, rfl⟩, -⟩ := h; exact (.inr (.inr (.inr (.inr (.inl ⟨_, _, rfl⟩)))))
    rw [if_neg hc] at h; clear hc
    by_cases hc : c = 27
    · rw [if_pos hc] at h; subst hc; obtain ⟨⟨-, rfl, rfl, rfl, rfl⟩, -⟩ := h; exact (.inr (.inr (.inr (.inr (.inr (.inr (.inr (.inr (.inr (.inr (.inr (.inr (.inr (.inl ⟨_, rfl⟩))))))))))))))
    rw [if_neg hc] at h; clear hc
    exact h.elim
  | ⟨c, k, s, t, ps, [a, b]⟩, h => by
    have h : Tm2 w ow 2 c k s t ps (fun m x => TrM w ow m a x) (fun m x => TrM w ow m b x) vs := h
    unfold Tm2 at h
    by_cases hc : c = 4
    · rw [if_pos hc] at h; exact absurd h.1.1 (by decide)
    rw [if_neg hc] at h; clear hc
    by_cases hc : c = 5
    · rw [if_pos hc] at h; exact absurd h.1.1 (by decide)
    rw [if_neg hc] at h; clear hc
    by_cases hc : c = 8
    · rw [if_pos hc] at h; exact absurd h.1.1 (by decide)
    rw [if_neg hc] at h; clear hc
    by_cases hc : c = 10
    · rw [if_pos hc] at h; exact absurd h.1.1 (by decide)
    rw [if_neg hc] at h; clear hc
    by_cases hc : c = 11
    · rw [if_pos hc] at h; exact absurd h.1.1 (by decide)
    rw [if_neg hc] at h; clear hc
    by_cases hc : c = 13
    · rw [if_pos hc] at h; exact absurd h.1.1 (by decide)
    rw [if_neg hc] at h; clear hc
    by_cases hc : c = 16
    · rw [if_pos hc] at h; subst hc; obtain ⟨⟨-, rfl, rfl⟩, -⟩ := h; exact (.inr (.inr (.inl ⟨_, _, _, _, rfl⟩)))
    rw [if_neg hc] at h; clear hc
    by_cases hc : c = 20
    · rw [if_pos hc] at h; subst hc; obtain ⟨⟨-, rfl, rfl, rfl, rfl⟩, -⟩ := h; exact (.inr (.inr (.inr (.inr (.inr (.inr (.inl ⟨_, _, rfl⟩)))))))
    rw [if_neg hc] at h; clear hc
    by_cases hc : c = 22
    · rw [if_pos hc] at h; subst hc; obtain ⟨⟨-, rfl, rfl, rfl, rfl⟩, -⟩ := h; exact (.inr (.inr (.inr (.inr (.inr (.inr (.inr (.inr (.inl ⟨_, _, rfl⟩)))))))))
    rw [if_neg hc] at h; clear hc
    by_cases hc : c = 25
    · rw [if_pos hc] at h; subst hc; obtain ⟨⟨-, rfl, rfl⟩, -⟩ := h; exact (.inr (.inr (.inr (.inr (.inr (.inr (.inr (.inr (.inr (.inr (.inr (.inl ⟨_, _, _, _, rfl⟩))))))))))))
    rw [if_neg hc] at h; clear hc
    by_cases hc : c = 28
    · rw [if_pos hc] at h; subst hc; obtain ⟨⟨-, rfl, rfl, rfl, rfl⟩, -⟩ := h; exact (.inr (.inr (.inr (.inr (.inr (.inr (.inr (.inr (.inr (.inr (.inr (.inr (.inr (.inr (.inl ⟨_, _, rfl⟩)))))))))))))))
    rw [if_neg hc] at h; clear hc
    by_cases hc : c = 31
    · rw [if_pos hc] at h; exact absurd h.1.1 (by decide)
    rw [if_neg hc] at h; clear hc
    exact h.elim
  | ⟨c, k, s, t, ps, [a, b, d]⟩, h => by
    have h : Tm3 w ow 2 c k s t ps (fun m x => TrM w ow m a x) (fun m x => TrM w ow m b x) (fun m x => TrM w ow m d x) vs := h
    unfold Tm3 at h
    by_cases hc : c = 19
    · rw [if_pos hc] at h; subst hc; obtain ⟨⟨-, rfl, rfl, rfl, rfl⟩, -⟩ := h; exact (.inr (.inr (.inr (.inr (.inr (.inl ⟨_, _, _, rfl⟩))))))
    rw [if_neg hc] at h; clear hc
    by_cases hc : c = 21
    · rw [if_pos hc] at h; subst hc; obtain ⟨⟨-, rfl, rfl, rfl, rfl⟩, -⟩ := h; exact (.inr (.inr (.inr (.inr (.inr (.inr (.inr (.inl ⟨_, _, _, rfl⟩))))))))
    rw [if_neg hc] at h; clear hc
    by_cases hc : c = 23
    · rw [if_pos hc] at h; subst hc; obtain ⟨⟨-, rfl, rfl, rfl⟩, -⟩ := h; exact (.inr (.inr (.inr (.inr (.inr (.inr (.inr (.inr (.inr (.inl ⟨_, _, _, _, rfl⟩))))))))))
    rw [if_neg hc] at h; clear hc
    exact h.elim
  | ⟨c, k, s, t, ps, [a, b, d, e]⟩, h => by
    have h : Tm4 w ow 2 c k s t ps (fun m x => TrM w ow m a x) (fun m x => TrM w ow m b x) (fun m x => TrM w ow m d x) (fun m x => TrM w ow m e x) vs := h
    unfold Tm4 at h
    by_cases hc : c = 24
    · rw [if_pos hc] at h; subst hc; obtain ⟨⟨-, rfl, rfl, rfl⟩, -⟩ := h; exact (.inr (.inr (.inr (.inr (.inr (.inr (.inr (.inr (.inr (.inr (.inl ⟨_, _, _, _, _, rfl⟩)))))))))))
    rw [if_neg hc] at h; clear hc
    exact h.elim
  | ⟨c, k, s, t, ps, _ :: _ :: _ :: _ :: _ :: _⟩, h => False.elim h
theorem TrM.invSL : ∀ {tr : Tr}, TrM w ow 3 tr vs → (tr = StL.nil) ∨ (∃ s : St, ∃ l : StL, tr = StL.cons s l)
  | ⟨c, k, s, t, ps, []⟩, h => by
    have h : Tm0 w ow 3 c k s t ps vs := h
    unfold Tm0 at h
    by_cases hc : c = 0
    · rw [if_pos hc] at h; exact absurd h.1.1 (by decide)
    rw [if_neg hc] at h; clear hc
    by_cases hc : c = 1
    · rw [if_pos hc] at h; exact absurd h.1.1 (by decide)
    rw [if_neg hc] at h; clear hc
    by_cases hc : c = 2
    · rw [if_pos hc] at h; exact absurd h.1.1 (by decide)
    rw [if_neg hc] at h; clear hc
    by_cases hc : c = 3
    · rw [if_pos hc] at h; exact absurd h.1.1 (by decide)
    rw [if_neg hc] at h; clear hc
    by_cases hc : c = 12
    · rw [if_pos hc] at h; exact absurd h.1.1 (by decide)
    rw [if_neg hc] at h; clear hc
    by_cases hc : c = 14
    · rw [if_pos hc] at h; exact absurd h.1.1 (by decide)
    rw [if_neg hc] at h; clear hc
    by_cases hc : c = 26
    · rw [if_pos hc] at h; exact absurd h.1.1 (by decide)
    rw [if_neg hc] at h; clear hc
    by_cases hc : c = 29
    · rw [if_pos hc] at h; exact absurd h.1.1 (by decide)
    rw [if_neg hc] at h; clear hc
    by_cases hc : c = 30
    · rw [if_pos hc] at h; subst hc; obtain ⟨⟨-, rfl, rfl, rfl, rfl⟩, -⟩ := h; exact (.inl rfl)
    rw [if_neg hc] at h; clear hc
    exact h.elim
  | ⟨c, k, s, t, ps, [a]⟩, h => by
    have h : Tm1 w ow 3 c k s t ps (fun m x => TrM w ow m a x) vs := h
    unfold Tm1 at h
    by_cases hc : c = 6
    · rw [if_pos hc] at h; exact absurd h.1.1 (by decide)
    rw [if_neg hc] at h; clear hc
    by_cases hc : c = 7
    · rw [if_pos hc] at h; exact absurd h.1.1 (by decide)
    rw [if_neg hc] at h; clear hc
    by_cases hc : c = 9
    · rw [if_pos hc] at h; exact absurd h.1.1 (by decide)
    rw [if_neg hc] at h; clear hc
    by_cases hc : c = 15
    · rw [if_pos hc] at h; exact absurd h.1.1 (by decide)
    rw [if_neg hc] at h; clear hc
    by_cases hc : c = 17
    · rw [if_pos hc] at h; exact absurd h.1.1 (by decide)
    rw [if_neg hc] at h; clear hc
    by_cases hc : c = 18
    · rw [if_pos hc] at h; exact absurd h.1.1 (by decide)
    rw [if_neg hc] at h; clear hc
    by_cases hc : c = 27
    · rw [if_pos hc] at h; exact absurd h.1.1 (by decide)
    rw [if_neg hc] at h; clear hc
    exact h.elim
  | ⟨c, k, s, t, ps, [a, b]⟩, h => by
    have h : Tm2 w ow 3 c k s t ps (fun m x => TrM w ow m a x) (fun m x => TrM w ow m b x) vs := h
    unfold Tm2 at h
    by_cases hc : c = 4
    · rw [if_pos hc] at h; exact absurd h.1.1 (by decide)
    rw [if_neg hc] at h; clear hc
    by_cases hc : c = 5
    · rw [if_pos hc] at h; exact absurd h.1.1 (by decide)
    rw [if_neg hc] at h; clear hc
    by_cases hc : c = 8
    · rw [if_pos hc] at h; exact absurd h.1.1 (by decide)
    rw [if_neg hc] at h; clear hc
    by_cases hc : c = 10
    · rw [if_pos hc] at h; exact absurd h.1.1 (by decide)
    rw [if_neg hc] at h; clear hc
    by_cases hc : c = 11
    · rw [if_pos hc] at h; exact absurd h.1.1 (by decide)
    rw [if_neg hc] at h; clear hc
    by_cases hc : c = 13
    · rw [if_pos hc] at h; exact absurd h.1.1 (by decide)
    rw [if_neg hc] at h; clear hc
    by_cases hc : c = 16
    · rw [if_pos hc] at h; exact absurd h.1.1 (by decide)
    rw [if_neg hc] at h; clear hc
    by_cases hc : c = 20
    · rw [if_pos hc] at h; exact absurd h.1.1 (by decide)
    rw [if_neg hc] at h; clear hc
    by_cases hc : c = 22
    · rw [if_pos hc] at h; exact absurd h.1.1 (by decide)
    rw [if_neg hc] at h; clear hc
    by_cases hc : c = 25
    · rw [if_pos hc] at h; exact absurd h.1.1 (by decide)
    rw [if_neg hc] at h; clear hc
    by_cases hc : c = 28
    · rw [if_pos hc] at h; exact absurd h.1.1 (by decide)
    rw [if_neg hc] at h; clear hc
    by_cases hc : c = 31
    · rw [if_pos hc] at h; subst hc; obtain ⟨⟨-, rfl, rfl, rfl, rfl⟩, -⟩ := h; exact (.inr ⟨_, _, rfl⟩)
    rw [if_neg hc] at h; clear hc
    exact h.elim
  | ⟨c, k, s, t, ps, [a, b, d]⟩, h => by
    have h : Tm3 w ow 3 c k s t ps (fun m x => TrM w ow m a x) (fun m x => TrM w ow m b x) (fun m x => TrM w ow m d x) vs := h
    unfold Tm3 at h
    by_cases hc : c = 19
    · rw [if_pos hc] at h; exact absurd h.1.1 (by decide)
    rw [if_neg hc] at h; clear hc
    by_cases hc : c = 21
    · rw [if_pos hc] at h; exact absurd h.1.1 (by decide)
    rw [if_neg hc] at h; clear hc
    by_cases hc : c = 23
    · rw [if_pos hc] at h; exact absurd h.1.1 (by decide)
    rw [if_neg hc] at h; clear hc
    exact h.elim
  | ⟨c, k, s, t, ps, [a, b, d, e]⟩, h => by
    have h : Tm4 w ow 3 c k s t ps (fun m x => TrM w ow m a x) (fun m x => TrM w ow m b x) (fun m x => TrM w ow m d x) (fun m x => TrM w ow m e x) vs := h
    unfold Tm4 at h
    by_cases hc : c = 24
    · rw [if_pos hc] at h; exact absurd h.1.1 (by decide)
    rw [if_neg hc] at h; clear hc
    exact h.elim
  | ⟨c, k, s, t, ps, _ :: _ :: _ :: _ :: _ :: _⟩, h => False.elim h
end
end Go.Proofs.Qxb6500568aGreatDoor
