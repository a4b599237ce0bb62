import Derived.WalkKit
import Derived.OrdersHeld
namespace Go.Proofs.Qxb6500568aGreatDoor
set_option linter.unusedVariables false
set_option linter.unusedSimpArgs false

/-! Frames as functions; one rule an operation. -/

def upd (e : Nat → Option Value) (d : Nat) (v : Value) : Nat → Option Value := fun t => bif Nat.beq t d then some v else e t

def Fr (n : Nat) (e : Nat → Option Value) (ds : List Deferred) : Act := ⟨((List.range n).map fun i => (e i).getD undef).toArray, ds⟩

def evO (n : Nat) (e : Nat → Option Value) : Operand → Option Value
  | .tmp t => bif Nat.blt t n then e t else none
  | .const v => some v
  | .global g => some (.pointer (some ⟨g, 0, none⟩))
  | .func f => some (.func (.func f) #[] #[])

theorem evO_eval {n : Nat} {e : Nat → Option Value} {ds : List Deferred} {x : Operand} {v : Value} (h : evO n e x = some v) : (Fr n e ds).eval x = v := by
  cases x with
  | tmp t =>
    simp only [evO] at h
    cases hb : Nat.blt t n with
    | false => rw [hb] at h; cases h
    | true =>
      rw [hb] at h
      have hl : t < n := by simpa [Nat.blt_eq] using hb
      simp only [cond_true] at h
      simp [Act.eval, Fr, Array.getD, hl, h]
  | const u => simpa [evO, Act.eval] using h
  | global g => simpa [evO, Act.eval] using h
  | func f => simpa [evO, Act.eval] using h

theorem put_some (n : Nat) (e : Nat → Option Value) (ds : List Deferred) (d : Nat) (v : Value) : (Fr n e ds).put (some d) v = Fr n (upd e d v) ds := by
  simp only [Act.put, Fr, Act.mk.injEq, and_true]
  apply Array.ext
  · simp
  · intro i h1 h2
    simp at h1 h2
    by_cases hd : d = i
    · subst hd; simp [upd]
    · have : (Nat.beq i d) = false := by
        cases hb : Nat.beq i d with
        | false => rfl
        | true => exact absurd (Nat.eq_of_beq_eq_true hb).symm hd
      simp [upd, Array.getElem_setIfInBounds, hd, this]

theorem put_none (n : Nat) (e : Nat → Option Value) (ds : List Deferred) (v : Value) : (Fr n e ds).put none v = Fr n e ds := rfl

theorem upd_self (e : Nat → Option Value) (d : Nat) (v : Value) (h : e d = some v) : upd e d v = e := by
  funext t
  simp only [upd]
  cases hb : Nat.beq t d with
  | false => rfl
  | true => have : t = d := by simpa using hb
            subst this; simp [h]

theorem fr_tmps_get {n : Nat} {e : Nat → Option Value} {ds : List Deferred} {t : Nat} {v : Value} (hl : Nat.blt t n = true) (h : e t = some v) : (Fr n e ds).tmps[t]? = some v := by
  have hl : t < n := by simpa [Nat.blt_eq] using hl
  simp [Fr, hl, h]

/-- An operation that yields 'v' and leaves the world. -/
def RO (P : Program) (n : Nat) (e : Nat → Option Value) (w : World) (op : Op) (v : Value) : Prop :=
  ∀ ds dst ty ps af g, (execOp (Fr n e ds).eval ⟨dst, op, ty, ps, af, g⟩).run P w = .ok (.value v) w

/-- An operation that yields 'v' and leaves the world 'w1'. -/
def EO (P : Program) (n : Nat) (e : Nat → Option Value) (w : World) (op : Op) (v : Value) (w1 : World) : Prop :=
  ∀ ds dst ty ps af g, (execOp (Fr n e ds).eval ⟨dst, op, ty, ps, af, g⟩).run P w = .ok (.value v) w1

/-- An operation that yields nothing and leaves the world 'w1'. -/
def SO (P : Program) (n : Nat) (e : Nat → Option Value) (w : World) (op : Op) (w1 : World) : Prop :=
  ∀ ds dst ty ps af g, (execOp (Fr n e ds).eval ⟨dst, op, ty, ps, af, g⟩).run P w = .ok .skip w1

section
variable {P : Program} {n : Nat} {e : Nat → Option Value} {w : World}

theorem ro_move {x : Operand} {v : Value} (h : evO n e x = some v) : RO P n e w (.move x) v := by
  intro ds dst ty ps af g
  simp [execOp, evO_eval h, Sem.run, pure]

theorem ro_assign {x : Operand} {v : Value} (h : evO n e x = some v) : RO P n e w (.assign x) v := by
  intro ds dst ty ps af g
  simp [execOp, evO_eval h, Sem.run, pure]

theorem ro_pick {c x y : Operand} {b : Bool} {u v : Value} (hc : evO n e c = some (.bool b)) (hx : evO n e x = some u) (hy : evO n e y = some v) : RO P n e w (.pick c x y) (bif b then u else v) := by
  intro ds dst ty ps af g
  cases b <;> simp [execOp, evO_eval hc, evO_eval hx, evO_eval hy, asBool]

theorem ro_nilCheck {x : Operand} {a : Addr} (h : evO n e x = some (.pointer (some a))) : RO P n e w (.nilCheck x) (.pointer (some a)) := by
  intro ds dst ty ps af g
  simp [execOp, evO_eval h]

theorem ro_extract {x : Operand} {i : Nat} {vs : Array Value} {v : Value} (h : evO n e x = some (.tuple vs)) (hv : vs[i]? = some v) : RO P n e w (.extract x i) v := by
  intro ds dst ty ps af g
  simp [execOp, evO_eval h, Instr.extract, hv]

theorem ro_not {t : TypeId} {x : Operand} {b : Bool} (h : evO n e x = some (.bool b)) : RO P n e w (.unOp .not t x) (.bool !b) := by
  intro ds dst ty ps af g
  simp [execOp, evO_eval h, Op.unary]

theorem ro_neg {t : TypeId} {x : Operand} {a : Int} (h : evO n e x = some (.int .i64 a)) (ha : -9223372036854775807 ≤ a ∧ a ≤ 9223372036854775807) : RO P n e w (.unOp .neg t x) (.int .i64 (-a)) := by
  intro ds dst ty ps af g
  simp [execOp, evO_eval h, Op.unary, Op.intArith, Go.IntWalk.i64_in (-a) (by omega)]

/-! ### integers -/

theorem eqGuard_int {op : BinOp} {t : TypeId} {x y : Operand} {k k' : IntKind} {a b : Int} : (eqGuard op t x y (.int k a) (.int k' b)).run P w = .ok () w := by
  unfold eqGuard
  cases op <;> simp

theorem ro_cmp {op : BinOp} {t t' : TypeId} {x y : Operand} {k : IntKind} {a b : Int} {r : Bool} (hx : evO n e x = some (.int k a)) (hy : evO n e y = some (.int k b))
    (hr : (match op with | .eql => some (a == b) | .neq => some (a != b) | .lss => some (decide (a < b)) | .leq => some (decide (a ≤ b)) | .gtr => some (decide (a > b)) | .geq => some (decide (a ≥ b)) | _ => none) = some r) :
    RO P n e w (.binOp op t x y t') (.bool r) := by
  intro ds dst ty ps af g
  cases op <;> simp at hr <;> simp [execOp, evO_eval hx, evO_eval hy, eqGuard_int, binOp, Op.intCmp, hr]

/-- The sum, the difference, the product, where it fits. -/
theorem ro_arith {op : BinOp} {t t' : TypeId} {x y : Operand} {k : IntKind} {a b r : Int} (hx : evO n e x = some (.int k a)) (hy : evO n e y = some (.int k b))
    (hr : (match op with | .add => some (a + b) | .sub => some (a - b) | .mul => some (a * b) | _ => none) = some r) (hw : k.wrap r = r) :
    RO P n e w (.binOp op t x y t') (.int k r) := by
  intro ds dst ty ps af g
  cases op <;> simp at hr <;> subst hr <;> simp [execOp, evO_eval hx, evO_eval hy, eqGuard, binOp, Op.intArith, hw]

theorem ro_bits {op : BinOp} {t t' : TypeId} {x y : Operand} {k : IntKind} {a b r : Int} (hx : evO n e x = some (.int k a)) (hy : evO n e y = some (.int k b))
    (hr : (match op with | .and => some (k.wrap (BitVec.ofInt k.bits a &&& BitVec.ofInt k.bits b).toNat) | .or => some (k.wrap (BitVec.ofInt k.bits a ||| BitVec.ofInt k.bits b).toNat) | .andNot => some (k.wrap (BitVec.ofInt k.bits a &&& ~~~ BitVec.ofInt k.bits b).toNat) | _ => none) = some r) :
    RO P n e w (.binOp op t x y t') (.int k r) := by
  intro ds dst ty ps af g
  cases op <;> simp at hr <;> subst hr <;> simp [execOp, evO_eval hx, evO_eval hy, eqGuard, binOp, Op.intBits]

theorem ro_quo {t t' : TypeId} {x y : Operand} {k : IntKind} {a b : Int} (hx : evO n e x = some (.int k a)) (hy : evO n e y = some (.int k b)) (hb : b ≠ 0) (hw : k.wrap (a.tdiv b) = a.tdiv b) :
    RO P n e w (.binOp .quo t x y t') (.int k (a.tdiv b)) := by
  intro ds dst ty ps af g
  simp [execOp, evO_eval hx, evO_eval hy, eqGuard, binOp, Op.intDiv, hb, hw]

theorem ro_rem {t t' : TypeId} {x y : Operand} {k : IntKind} {a b : Int} (hx : evO n e x = some (.int k a)) (hy : evO n e y = some (.int k b)) (hb : b ≠ 0) :
    RO P n e w (.binOp .rem t x y t') (.int k (a.tmod b)) := by
  intro ds dst ty ps af g
  simp [execOp, evO_eval hx, evO_eval hy, eqGuard, binOp, Op.intDiv, hb]

theorem ro_shl {t t' : TypeId} {x y : Operand} {k k' : IntKind} {a b : Int} (hx : evO n e x = some (.int k a)) (hy : evO n e y = some (.int k' b)) (hb : 0 ≤ b) :
    RO P n e w (.binOp .shl t x y t') (.int k (k.wrap (a * 2 ^ (min b.toNat k.bits)))) := by
  intro ds dst ty ps af g
  have : ¬ b < 0 := by omega
  simp [execOp, evO_eval hx, evO_eval hy, eqGuard, binOp, Op.shift, this]

/-! ### types -/

def aggDesc : TypeDesc → Bool
  | .struct _ | .array _ _ => true
  | _ => false

def scalB (P : Program) (t : TypeId) : Bool := match P.underlying t with | some d => !aggDesc d | none => false
def aggB (P : Program) (t : TypeId) (k : Nat) : Bool := (match P.underlying t with | some d => aggDesc d | none => false) && (P.info? t).any (fun i => i.size == k)
def sizeB (P : Program) (t : TypeId) (k : Nat) : Bool := (P.info? t).any (fun i => i.size == k)
def foffB (P : Program) (s f k : Nat) : Bool := match P.underlying s with
  | some (.struct fs) => (fs[f]?).any (fun fd => fd.offset == k && (P.info? fd.type).any (fun i => i.size != 0))
  | _ => false
def selB (P : Program) (t et k : Nat) : Bool := match P.underlying t with
  | some (.slice u) => u == et && sizeB P et k
  | _ => false
def arrB (P : Program) (t len et k : Nat) : Bool := match P.underlying t with
  | some (.array m u) => m == len && u == et && sizeB P et k
  | _ => false
def intB (P : Program) (t : Nat) (k : IntKind) : Bool := match P.underlying t with
  | some (.int q) => q == k
  | _ => false
def strB (P : Program) (t : Nat) : Bool := match P.underlying t with
  | some .string => true
  | _ => false

theorem run_isAgg_false {t : TypeId} (h : scalB P t = true) : (isAgg t).run P w = .ok false w := by
  unfold scalB at h
  cases hu : P.underlying t with
  | none => rw [hu] at h; cases h
  | some d => rw [hu] at h; cases d <;> simp [aggDesc] at h <;> simp [isAgg, run_underlying hu]

theorem run_isAgg_true {t : TypeId} {k : Nat} (h : aggB P t k = true) : (isAgg t).run P w = .ok true w := by
  unfold aggB at h
  cases hu : P.underlying t with
  | none => rw [hu] at h; simp at h
  | some d => rw [hu] at h; cases d <;> simp [aggDesc] at h <;> simp [isAgg, run_underlying hu]

theorem run_sizeOf {t : TypeId} {k : Nat} (h : sizeB P t k = true) : (sizeOf t).run P w = .ok k w := by
  unfold sizeB at h
  cases hu : P.info? t with
  | none => rw [hu] at h; simp at h
  | some i => rw [hu] at h; simp at h; simp [sizeOf, typeInfo, hu, h]

theorem sizeB_of_aggB {t : TypeId} {k : Nat} (h : aggB P t k = true) : sizeB P t k = true := by
  unfold aggB at h; simp only [Bool.and_eq_true] at h; exact h.2

theorem addr_add (b o k : Nat) : (⟨b, o, none⟩ : Addr).add k = ⟨b, o + k, none⟩ := by
  unfold Addr.add; split <;> simp_all

/-! ### loads and stores -/

theorem ro_load {t : TypeId} {x : Operand} {a : Addr} {v : Value} (hx : evO n e x = some (.pointer (some a))) (ht : scalB P t = true) (hc : w.cell? a = some v) : RO P n e w (.load t x) v := by
  intro ds dst ty ps af g
  simp [execOp, evO_eval hx, Instr.loadAt, Instr.sureAddr, loadVar, run_isAgg_false ht, hc]

theorem ro_loadAgg {t : TypeId} {x : Operand} {b o k : Nat} {cs : List Value} (hx : evO n e x = some (.pointer (some ⟨b, o, none⟩))) (ht : aggB P t k = true) (hl : cs.length = k)
    (hc : ∀ j v, cs[j]? = some v → w.cell? ⟨b, o + j, none⟩ = some v) : RO P n e w (.load t x) (.agg cs.toArray) := by
  intro ds dst ty ps af g
  have h := run_loadCells_list (P := P) (w := w) (⟨b, o, none⟩ : Addr) cs (by intro j v hj; rw [addr_add]; exact hc j v hj)
  subst hl
  simp [execOp, evO_eval hx, Instr.loadAt, Instr.sureAddr, loadVar, run_isAgg_true ht, run_sizeOf (sizeB_of_aggB ht), h]

theorem so_store {t : TypeId} {x y : Operand} {a : Addr} {u v : Value} (hx : evO n e x = some (.pointer (some a))) (hy : evO n e y = some v) (h1 : v.oneCell' = true) (ht : sizeB P t 1 = true)
    (hc : w.cell? a = some u) (hf : w.frozen? a = false) : SO P n e w (.store t x y) (w.setCell a v) := by
  intro ds dst ty ps af g
  have hcells : v.cells = #[v] := by cases v <;> first | rfl | (simp [Value.oneCell'] at h1)
  have hr := run_store P w (a.add 0) v .plain h1
  have h0 : a.add 0 = a := by simp [Addr.add]
  rw [h0, hc] at hr
  simp [execOp, evO_eval hx, evO_eval hy, Instr.storeAt, Instr.sureAddr, storeVar, hcells, run_sizeOf ht, storeCells, h0, hr, hf]

/-! ### whole blocks -/

def Blk (H : Array Obj) (b : Nat) (l : List Value) (t : TypeId) : Prop := H[b]? = some (.cells l.toArray t (0, 0))

theorem Blk.lt {H : Array Obj} {b : Nat} {l : List Value} {t : TypeId} (h : Blk H b l t) : b < H.size := (Array.getElem?_eq_some_iff.1 h).1

theorem Blk.cell {b : Nat} {l : List Value} {t : TypeId} (h : Blk w.heap b l t) (i : Nat) : w.cell? ⟨b, i, none⟩ = l[i]? := by
  unfold Blk at h
  simp [World.cell?, h]

theorem Blk.frozen {b : Nat} {l : List Value} {t : TypeId} (h : Blk w.heap b l t) (i : Nat) : w.frozen? ⟨b, i, none⟩ = false := by
  unfold Blk at h
  simp [World.frozen?, h]

theorem Blk.uniq {H : Array Obj} {b : Nat} {l l' : List Value} {t t' : TypeId} (h : Blk H b l t) (h' : Blk H b l' t') : l = l' ∧ t = t' := by
  unfold Blk at h h'
  rw [h] at h'
  simp only [Option.some.injEq, Obj.cells.injEq] at h'
  exact ⟨by simpa using h'.1, h'.2.1⟩

theorem Blk.of_eq {H H' : Array Obj} {b : Nat} {l : List Value} {t : TypeId} (h : Blk H b l t) (he : H'[b]? = H[b]?) : Blk H' b l t := by
  unfold Blk at *; rw [he]; exact h

theorem heap_setRow_ne (w : World) {b c : Nat} (cs : Array Value) (h : c ≠ b) : (w.setRow b cs).heap[c]? = w.heap[c]? := setRow_other w b c cs (by first | exact h | exact h.symm)

theorem Blk.set {b : Nat} {l : List Value} {t : TypeId} (h : Blk w.heap b l t) (l' : List Value) : Blk (w.setRow b l'.toArray).heap b l' t := setRow_heap w b _ _ t _ h

theorem Blk.set_ne {b c : Nat} {l : List Value} {t : TypeId} (h : Blk w.heap c l t) (cs : Array Value) (hn : c ≠ b) : Blk (w.setRow b cs).heap c l t := h.of_eq (heap_setRow_ne w cs hn)

theorem size_setRow (w : World) (b : Nat) (cs : Array Value) : (w.setRow b cs).heap.size = w.heap.size := by simp [World.setRow]

theorem Blk.new (w : World) (l : List Value) (t : TypeId) : Blk (w.alloc (.cells l.toArray t)).heap w.heap.size l t := heap_alloc_new w _

theorem Blk.alloc {b : Nat} {l : List Value} {t : TypeId} (h : Blk w.heap b l t) (o : Obj) : Blk (w.alloc o).heap b l t := h.of_eq (Go.RowKit.Below.heap_alloc w o b h.lt)

theorem setCell_eq_setRow {b i : Nat} {l : List Value} {t : TypeId} (h : Blk w.heap b l t) (v : Value) : w.setCell ⟨b, i, none⟩ v = w.setRow b (l.set i v).toArray := by
  unfold Blk at h
  have hb := (Array.getElem?_eq_some_iff.1 h)
  simp only [World.setCell, World.setRow]
  congr 1
  apply Array.ext
  · simp
  · intro j h1 h2
    simp at h1 h2
    simp only [Array.getElem_modify]
    by_cases hj : b = j
    · subst hj
      simp [hb.2]
    · simp [hj]

theorem ro_loadB {t t' : TypeId} {x : Operand} {b i : Nat} {l : List Value} {v : Value} (hx : evO n e x = some (.pointer (some ⟨b, i, none⟩))) (ht : scalB P t = true) (hB : Blk w.heap b l t') (hi : l[i]? = some v) : RO P n e w (.load t x) v :=
  ro_load hx ht (by rw [hB.cell]; exact hi)

theorem ro_loadAggB {t t' : TypeId} {x : Operand} {b o k : Nat} {l cs : List Value} (hx : evO n e x = some (.pointer (some ⟨b, o, none⟩))) (ht : aggB P t k = true) (hB : Blk w.heap b l t') (hl : cs.length = k) (hc : (l.drop o).take k = cs) :
    RO P n e w (.load t x) (.agg cs.toArray) := by
  refine ro_loadAgg hx ht hl ?_
  intro j v hj
  rw [hB.cell]
  subst hc
  rw [List.getElem?_take] at hj
  split at hj
  · rwa [List.getElem?_drop] at hj
  · cases hj

theorem so_storeB {t t' : TypeId} {x y : Operand} {b i : Nat} {l : List Value} {v : Value} (hx : evO n e x = some (.pointer (some ⟨b, i, none⟩))) (hy : evO n e y = some v) (h1 : v.oneCell' = true) (ht : sizeB P t 1 = true)
    (hB : Blk w.heap b l t') (hi : i < l.length) : SO P n e w (.store t x y) (w.setRow b (l.set i v).toArray) := by
  have h := so_store (P := P) (w := w) (u := l[i]) hx hy h1 ht (by rw [hB.cell]; simp [hi]) (hB.frozen i)
  rwa [setCell_eq_setRow hB] at h

theorem so_storeAggB {t t' : TypeId} {x y : Operand} {b i k : Nat} {l cs : List Value} (hx : evO n e x = some (.pointer (some ⟨b, i, none⟩))) (hy : evO n e y = some (.agg cs.toArray)) (h1 : ∀ u ∈ cs, u.oneCell' = true)
    (ht : sizeB P t k = true) (hl : cs.length = k) (hB : Blk w.heap b l t') (hi : i + k ≤ l.length) : SO P n e w (.store t x y) (w.setRow b (l.take i ++ cs ++ l.drop (i + k)).toArray) := by
  intro ds dst ty ps af g
  have hst := run_storeCells_at P b i t' cs 0 l.toArray w hB (by simp; omega) h1
  simp only [Nat.add_zero] at hst
  subst hl
  simp [execOp, evO_eval hx, evO_eval hy, Instr.storeAt, Instr.sureAddr, storeVar, Value.cells, run_sizeOf ht, hst]

/-! ### new blocks -/

def zeroB (P : Program) (t : TypeId) (z : List Value) : Prop := ∃ i v, P.info? t = some i ∧ i.zero = some v ∧ v.cells = z.toArray

theorem zeroB_of {t : TypeId} {z : List Value} (h : ((P.info? t).bind (·.zero)).map (·.cells) = some z.toArray) : zeroB P t z := by
  cases hi : P.info? t with
  | none => rw [hi] at h; cases h
  | some i =>
    rw [hi] at h
    cases hz : i.zero with
    | none => rw [Option.bind_some, hz] at h; cases h
    | some v => rw [Option.bind_some, hz] at h; exact ⟨i, v, hi, hz, by simpa using h⟩

theorem eo_alloc {t : TypeId} {z : List Value} (hz : zeroB P t z) : EO P n e w (.alloc t) (.pointer (some ⟨w.heap.size, 0, none⟩)) (w.alloc (.cells z.toArray t)) := by
  intro ds dst ty ps af g
  obtain ⟨i, v, h1, h2, h3⟩ := hz
  simp [execOp, Instr.alloc, zeroValue, typeInfo, h1, h2, newVar, newRow, h3]

theorem eo_box {t : TypeId} {x : Operand} {v : Value} {cs : List Value} (hx : evO n e x = some v) (hv : v.cells = cs.toArray) : EO P n e w (.box t x) (.pointer (some ⟨w.heap.size, 0, none⟩)) (w.alloc (.cells cs.toArray t)) := by
  intro ds dst ty ps af g
  simp [execOp, evO_eval hx, Instr.box, newVar, newRow, hv]

/-! ### addresses -/

theorem run_fieldAt {s f k b o : Nat} (h : foffB P s f k = true) : (Instr.fieldAt s (.pointer (some ⟨b, o, none⟩)) f).run P w = .ok (.pointer (some ⟨b, o + k, none⟩)) w := by
  unfold foffB at h
  cases hu : P.underlying s with
  | none => rw [hu] at h; cases h
  | some d =>
    rw [hu] at h
    cases d <;> simp at h
    rename_i fs
    cases hf : fs[f]? with
    | none => rw [hf] at h; simp at h
    | some fd =>
      rw [hf] at h
      simp at h
      obtain ⟨h1, h2⟩ := h
      cases hi : P.info? fd.type with
      | none => rw [hi] at h2; simp at h2
      | some i =>
        rw [hi] at h2
        simp at h2
        simp [Instr.fieldAt, run_underlying hu, hf, Instr.sureAddr, fieldPlace, sizeOf, typeInfo, hi, h2, h1, addr_add]

theorem ro_fieldAddr {s f k b o : Nat} {x : Operand} (hx : evO n e x = some (.pointer (some ⟨b, o, none⟩))) (h : foffB P s f k = true) : RO P n e w (.fieldAddr s x f) (.pointer (some ⟨b, o + k, none⟩)) := by
  intro ds dst ty ps af g
  simp [execOp, evO_eval hx, run_fieldAt h]

theorem selB_spec {t et k : Nat} (h : selB P t et k = true) : P.underlying t = some (.slice et) ∧ sizeB P et k = true := by
  unfold selB at h
  cases hu : P.underlying t with
  | none => rw [hu] at h; cases h
  | some d =>
    rw [hu] at h
    cases d <;> simp at h
    rw [h.1]
    exact ⟨rfl, h.2⟩

theorem arrB_spec {t len et k : Nat} (h : arrB P t len et k = true) : P.underlying t = some (.array len et) ∧ sizeB P et k = true := by
  unfold arrB at h
  cases hu : P.underlying t with
  | none => rw [hu] at h; cases h
  | some d =>
    rw [hu] at h
    cases d <;> simp at h
    rw [h.1.1, h.1.2]
    exact ⟨rfl, h.2⟩

theorem strB_spec {t : Nat} (h : strB P t = true) : P.underlying t = some .string := by
  unfold strB at h
  cases hu : P.underlying t with
  | none => rw [hu] at h; cases h
  | some d => rw [hu] at h; cases d <;> simp at h; rfl

theorem intB_spec {t : Nat} {k : IntKind} (h : intB P t k = true) : P.underlying t = some (.int k) := by
  unfold intB at h
  cases hu : P.underlying t with
  | none => rw [hu] at h; cases h
  | some d => rw [hu] at h; cases d <;> simp at h; rw [h]

theorem ro_indexAddr {t et k b o i len cap : Nat} {q : IntKind} {idx : Int} {x y : Operand} (hx : evO n e x = some (.slice (some ⟨b, o, none⟩) len cap)) (hy : evO n e y = some (.int q idx)) (ht : selB P t et k = true)
    (hi : idx = (i : Int)) (hlt : i < len) : RO P n e w (.indexAddr t x y) (.pointer (some ⟨b, o + i * k, none⟩)) := by
  intro ds dst ty ps af g
  obtain ⟨h1, h2⟩ := selB_spec ht
  subst hi
  simp [execOp, evO_eval hx, evO_eval hy, Instr.indexAt, run_underlying h1, asIntOf, run_sizeOf h2, hlt, addr_add]

theorem ro_indexAddrA {t et k b o i len : Nat} {q : IntKind} {idx : Int} {x y : Operand} (hx : evO n e x = some (.pointer (some ⟨b, o, none⟩))) (hy : evO n e y = some (.int q idx)) (ht : arrB P t len et k = true)
    (hi : idx = (i : Int)) (hlt : i < len) : RO P n e w (.indexAddr t x y) (.pointer (some ⟨b, o + i * k, none⟩)) := by
  intro ds dst ty ps af g
  obtain ⟨h1, h2⟩ := arrB_spec ht
  subst hi
  simp [execOp, evO_eval hx, evO_eval hy, Instr.indexAt, run_underlying h1, asIntOf, Instr.sureAddr, run_sizeOf h2, hlt, addr_add]

/-! ### lengths, strings -/

def S (l : List UInt8) : Value := .string ⟨l.toArray⟩

theorem ro_lenS {t : TypeId} {x : Operand} {l : List UInt8} (hx : evO n e x = some (S l)) (ht : strB P t = true) : RO P n e w (.call ⟨.builtin .len, #[x], #[t]⟩) (.int .i64 l.length) := by
  intro ds dst ty ps af g
  simp [execOp, resolve, evO_eval hx, invoke, builtin, S, run_len_string _ _ _ _ (strB_spec ht), goInt, ByteArray.size]

theorem ro_lenL {t et k : Nat} {x : Operand} {a : Option Addr} {m c : Nat} (hx : evO n e x = some (.slice a m c)) (ht : selB P t et k = true) : RO P n e w (.call ⟨.builtin .len, #[x], #[t]⟩) (.int .i64 m) := by
  intro ds dst ty ps af g
  simp [execOp, resolve, evO_eval hx, invoke, builtin, Builtin.len_, run_underlying (selB_spec ht).1, goInt]

theorem ro_indexS {t : TypeId} {x y : Operand} {q : IntKind} {idx : Int} {i : Nat} {l : List UInt8} {c : UInt8} (hx : evO n e x = some (S l)) (hy : evO n e y = some (.int q idx)) (ht : strB P t = true) (hi : idx = (i : Int)) (hc : l[i]? = some c) :
    RO P n e w (.index t x y) (.int .u8 c.toNat) := by
  intro ds dst ty ps af g
  subst hi
  have hb : (⟨l.toArray⟩ : ByteArray)[i]? = some c := by
    obtain ⟨hlt, rfl⟩ := List.getElem?_eq_some_iff.1 hc
    have : i < (⟨l.toArray⟩ : ByteArray).size := by simpa [ByteArray.size] using hlt
    rw [ByteArray.getElem?_lt' _ _ this]
    rfl
  simp [execOp, evO_eval hx, evO_eval hy, Instr.index, run_underlying (strB_spec ht), asIntOf, S, hb]

theorem ro_catS {t t' : TypeId} {x y : Operand} {l m : List UInt8} (hx : evO n e x = some (S l)) (hy : evO n e y = some (S m)) (hl : l.length + m.length ≤ 9223372036854775807) : RO P n e w (.binOp .add t x y t') (S (l ++ m)) := by
  intro ds dst ty ps af g
  have := run_string_add_sum (P := P) w ⟨l.toArray⟩ ⟨m.toArray⟩ (by simpa [ByteArray.size] using hl)
  simp [execOp, evO_eval hx, evO_eval hy, eqGuard, S, binOp_string_add, this, ByteArray.mk_append_mk]

theorem ro_eqS {op : BinOp} {t t' : TypeId} {x y : Operand} {l m : List UInt8} {r : Bool} (hx : evO n e x = some (S l)) (hy : evO n e y = some (S m)) (hr : (match op with | .eql => some (l == m) | .neq => some (!(l == m)) | _ => none) = some r) :
    RO P n e w (.binOp op t x y t') (.bool r) := by
  intro ds dst ty ps af g
  cases op <;> simp at hr <;> simp [execOp, evO_eval hx, evO_eval hy, eqGuard, S, binOp_string_eql, binOp_string_neq, hr]

def SameH (H : Array Obj) (w : World) : Prop := w.heap = H
theorem sameH_now (w : World) (k : Nat) : SameH w.heap { w with drawn := k } := rfl
theorem Blk.of_heap {H : Array Obj} {w' : World} {b : Nat} {l : List Value} {t : TypeId} (h : Blk H b l t) (hs : SameH H w') : Blk w'.heap b l t := by unfold SameH at hs; rw [hs]; exact h

/-! ### what a call leaves as it was -/

/-- Of the blocks that 'w' has, all but those in 'F' are in 'w1' as they were. -/
structure Fram (F : Nat → Prop) (w w1 : World) : Prop where
  os : w1.os = w.os
  tape : w1.tape = w.tape
  output : w1.output = w.output
  size : w.heap.size ≤ w1.heap.size
  block : ∀ k, k < w.heap.size → ¬ F k → w1.heap[k]? = w.heap[k]?

def none' : Nat → Prop := fun _ => False

theorem Fram.refl (F : Nat → Prop) (w : World) : Fram F w w := ⟨rfl, rfl, rfl, Nat.le_refl _, fun _ _ _ => rfl⟩
theorem Fram.drew (F : Nat → Prop) (w : World) (k : Nat) : Fram F w { w with drawn := k } := ⟨rfl, rfl, rfl, Nat.le_refl _, fun _ _ _ => rfl⟩
theorem Fram.trans {F : Nat → Prop} {a b c : World} (h : Fram F a b) (k : Fram F b c) : Fram F a c :=
  ⟨k.os.trans h.os, k.tape.trans h.tape, k.output.trans h.output, Nat.le_trans h.size k.size, fun i hi hn => (k.block i (Nat.lt_of_lt_of_le hi h.size) hn).trans (h.block i hi hn)⟩
theorem Fram.mono {F G : Nat → Prop} {a b : World} (h : Fram F a b) (hs : ∀ k, k < a.heap.size → F k → G k) : Fram G a b :=
  ⟨h.os, h.tape, h.output, h.size, fun i hi hn => h.block i hi (fun hF => hn (hs i hi hF))⟩
/-- The second step may turn what is new besides. -/
theorem Fram.trans' {F G : Nat → Prop} {a b c : World} (h : Fram F a b) (k : Fram G b c) (hs : ∀ k, k < a.heap.size → G k → F k) : Fram F a c :=
  ⟨k.os.trans h.os, k.tape.trans h.tape, k.output.trans h.output, Nat.le_trans h.size k.size, fun i hi hn => (k.block i (Nat.lt_of_lt_of_le hi h.size) (fun hg => hn (hs i hi hg))).trans (h.block i hi hn)⟩
theorem Fram.alloc (F : Nat → Prop) (w : World) (o : Obj) : Fram F w (w.alloc o) := ⟨rfl, rfl, rfl, by simp, fun k hk _ => Go.RowKit.Below.heap_alloc w o k hk⟩
theorem Fram.set {F : Nat → Prop} (w : World) (b : Nat) (cs : Array Value) (hb : F b ∨ w.heap.size ≤ b) : Fram F w (w.setRow b cs) :=
  ⟨rfl, rfl, rfl, by rw [size_setRow]; exact Nat.le_refl _, fun k hk hn => heap_setRow_ne w cs (fun he => by subst he; rcases hb with hb | hb; exact hn hb; omega)⟩
theorem Fram.thenDrew {F : Nat → Prop} {a w : World} {k : Nat} (h : Fram F a w) : Fram F a { w with drawn := k } := h.trans (Fram.drew F w k)
theorem Fram.thenAlloc {F : Nat → Prop} {a w : World} {o : Obj} (h : Fram F a w) : Fram F a (w.alloc o) := h.trans (Fram.alloc F w o)
theorem Fram.thenSet {F : Nat → Prop} {a w : World} {b : Nat} {cs : Array Value} (h : Fram F a w) (hb : F b ∨ a.heap.size ≤ b) : Fram F a (w.setRow b cs) :=
  ⟨h.os, h.tape, h.output, by rw [size_setRow]; exact h.size, fun k hk hn => by
    rw [heap_setRow_ne w cs (fun he => by subst he; rcases hb with hb | hb; exact hn hb; omega)]; exact h.block k hk hn⟩
theorem Fram.thenGrown {F : Nat → Prop} {a w w' : World} {row : Option Nat} (hf : Fram F a w) (h : w.grownBy w' row) (hr : ∀ k, row = some k → F k ∨ a.heap.size ≤ k) : Fram F a w' :=
  ⟨h.os.trans hf.os, h.tape.trans hf.tape, h.output.trans hf.output, Nat.le_trans hf.size h.size, fun k hk hn => by
    rw [h.block k (Nat.lt_of_lt_of_le hk hf.size) (fun e => by rcases hr k e.symm with hx | hx; exact hn hx; omega)]; exact hf.block k hk hn⟩
theorem Fram.grown {F : Nat → Prop} {w w' : World} {row : Option Nat} (h : w.grownBy w' row) (hr : ∀ k, row = some k → F k ∨ w.heap.size ≤ k) : Fram F w w' :=
  ⟨h.os, h.tape, h.output, h.size, fun k hk hn => h.block k hk (fun e => by rcases hr k e.symm with hx | hx; exact hn hx; omega)⟩
theorem Fram.below {F : Nat → Prop} {w w' : World} (h : Fram F w w') (hF : ∀ k, k < w.heap.size → ¬ F k) : Go.RowKit.Below w.heap.size w w' :=
  ⟨h.os, h.tape, h.output, h.size, fun k hk => h.block k hk (hF k hk)⟩
theorem Blk.fram {F : Nat → Prop} {w w' : World} {b : Nat} {l : List Value} {t : TypeId} (h : Blk w.heap b l t) (hf : Fram F w w') (hn : ¬ F b) : Blk w'.heap b l t := h.of_eq (hf.block b h.lt hn)

end
end Go.Proofs.Qxb6500568aGreatDoor
