import Derived.Test.Qxb6500568aGreatDoorTab
import Derived.Test.Qxb6500568aGreatDoorOw
import Derived.Test.Qxb6500568aGreatDoorSc
import Derived.Test.Qxb6500568aGreatDoorFq
import Derived.Laws.CopyRow
import Derived.Laws.BytesString
import Derived.Laws.Cover3
/- Rules that this seat wants: results in cells, bits, copies, arrays compared. -/
namespace Go.Proofs.Qxb6500568aGreatDoor
set_option linter.unusedVariables false
set_option linter.unusedSimpArgs false

def i64c (x : Nat) : Value := .int .i64 x
def u64c (x : Nat) : Value := .int .u64 x
def u8c (x : UInt8) : Value := .int .u8 x.toNat
def ptr (b : Nat) : Value := .pointer (some ⟨b, 0, none⟩)
def ptrAt (b o : Nat) : Value := .pointer (some ⟨b, o, none⟩)

theorem gen1 {A C : World → Prop} {w : World} (ha : A w) (h : ∀ w, A w → C w) : C w := h w ha
theorem gen2 {A B C : World → Prop} {w : World} (ha : A w) (hb : B w) (h : ∀ w, A w → B w → C w) : C w := h w ha hb
theorem gen3 {A B D C : World → Prop} {w : World} (ha : A w) (hb : B w) (hd : D w) (h : ∀ w, A w → B w → D w → C w) : C w := h w ha hb hd
theorem gen4 {A B D E C : World → Prop} {w : World} (ha : A w) (hb : B w) (hd : D w) (he : E w) (h : ∀ w, A w → B w → D w → E w → C w) : C w := h w ha hb hd he

theorem beqc (a b : Nat) : ((a : Int) == (b : Int)) = decide (a = b) := by
  by_cases h : a = b
  · subst h; simp
  · have h' : ¬ (a : Int) = b := by omega
    simp [h, h']
theorem bnec (a b : Nat) : ((a : Int) != (b : Int)) = decide (a ≠ b) := by
  by_cases h : a = b
  · subst h; simp
  · have h' : ¬ (a : Int) = b := by omega
    simp [h, h']

section
variable {P : Program} {n : Nat} {e : Nat → Option Value} {w : World} {ds : List Deferred}

/-! ### results in cells -/

theorem load_agg {t t' k b : Nat} {cs : List Value} (ht : aggB P t k = true) (hB : Blk w.heap b cs t') (hl : cs.length = k) : (loadVar t ⟨b, 0, none⟩).run P w = .ok (.agg cs.toArray) w := by
  have h := run_loadCells_list (P := P) (w := w) (⟨b, 0, none⟩ : Addr) cs (by intro j v hj; rw [addr_add, hB.cell]; simpa using hj)
  subst hl
  simp [loadVar, run_isAgg_true ht, run_sizeOf (sizeB_of_aggB ht), h]

/-- One result: a slot, or a cell that the heap holds. -/
def RV (P : Program) (n : Nat) (e : Nat → Option Value) (w : World) (r : ResultVar) (v : Value) : Prop :=
  (∃ t, r = .tmp t ∧ evO n e (.tmp t) = some v) ∨ (∃ a ta k b cs t1, r = .cell a ta ∧ evO n e (.tmp a) = some (ptr b) ∧ aggB P ta k = true ∧ Blk w.heap b cs t1 ∧ cs.length = k ∧ v = .agg cs.toArray)

theorem rv_t {t : Nat} {v : Value} (h : evO n e (.tmp t) = some v) : RV P n e w (.tmp t) v := .inl ⟨t, rfl, h⟩
theorem rv_c {a ta k b : Nat} {cs : List Value} {t1 : TypeId} (ha : evO n e (.tmp a) = some (ptr b)) (h1 : aggB P ta k = true) (hB : Blk w.heap b cs t1) (hl : cs.length = k) : RV P n e w (.cell a ta) (.agg cs.toArray) :=
  .inr ⟨a, ta, k, b, cs, t1, rfl, ha, h1, hB, hl, rfl⟩

/-- How one result is read. -/
def rvM (tmps : Array Value) : ResultVar → Sem Value
  | .tmp t => pure (tmps.getD t undef)
  | .cell a t => do loadVar t (← asAddr (tmps.getD a undef))

theorem RV.run {r : ResultVar} {v : Value} (h : RV P n e w r v) : (rvM (Fr n e ds).tmps r).run P w = .ok v w := by
  rcases h with ⟨t, rfl, h⟩ | ⟨a, ta, k, b, cs, t1, rfl, ha, h1, hB, hl, rfl⟩
  · simp only [rvM, getD_of_evO h, Sem.run_pure]
  · have g := getD_of_evO (ds := ds) ha
    have l1 := load_agg h1 hB hl
    simp only [rvM, g, ptr, Sem.run_bind]
    simp [asAddr, l1]

theorem results_rv (fn : Func) (tmps : Array Value) : results fn tmps = (do let vs ← fn.results.mapM (rvM tmps); pure (if h : vs.size = 1 then vs[0] else .tuple vs)) := rfl

theorem res1 {fn : Func} {r : ResultVar} {v : Value} (hrs : fn.results = #[r]) (h : RV P n e w r v) : (results fn (Fr n e ds).tmps).run P w = .ok v w := by
  have h' := h.run (ds := ds)
  rw [results_rv, hrs]
  simp [Sem.run_bind, h']

theorem res2 {fn : Func} {r r2 : ResultVar} {v v2 : Value} (hrs : fn.results = #[r, r2]) (h : RV P n e w r v) (h2 : RV P n e w r2 v2) : (results fn (Fr n e ds).tmps).run P w = .ok (.tuple #[v, v2]) w := by
  have h' := h.run (ds := ds)
  have h2' := h2.run (ds := ds)
  rw [results_rv, hrs]
  simp [Sem.run_bind, h', h2']

theorem res3 {fn : Func} {r r2 r3 : ResultVar} {v v2 v3 : Value} (hrs : fn.results = #[r, r2, r3]) (h : RV P n e w r v) (h2 : RV P n e w r2 v2) (h3 : RV P n e w r3 v3) : (results fn (Fr n e ds).tmps).run P w = .ok (.tuple #[v, v2, v3]) w := by
  have h' := h.run (ds := ds)
  have h2' := h2.run (ds := ds)
  have h3' := h3.run (ds := ds)
  rw [results_rv, hrs]
  simp [Sem.run_bind, h', h2', h3']

theorem bq_ret {fn : Func} {R : Value → World → Prop} {v : Value} (h : (results fn (Fr n e []).tmps).run P w = .ok v w) (hR : R v w) : BP P fn R .ret (Fr n e []) w := bodyPost_ret h rfl ⟨v, rfl, hR⟩
theorem bq_end {fn : Func} {R : Value → World → Prop} {v : Value} (h : (results fn (Fr n e []).tmps).run P w = .ok v w) (hR : R v w) : BP P fn R .normal (Fr n e []) w := bodyPost_end h rfl ⟨v, rfl, hR⟩

/-! ### bits -/

theorem u64_bv {x : Nat} (h : x < 2 ^ 64) : (BitVec.ofInt 64 (x : Int)).toNat = x := by
  rw [BitVec.ofInt_natCast, BitVec.toNat_ofNat, Nat.mod_eq_of_lt h]
theorem u64_wrap {x : Nat} (h : x < 2 ^ 64) : IntKind.u64.wrap (x : Int) = (x : Int) := Go.IntWalk.u64_in _ (by omega)

theorem ro_andU {t t' : TypeId} {x y : Operand} {a b : Nat} (hx : evO n e x = some (u64c a)) (hy : evO n e y = some (u64c b)) (ha : a < 2 ^ 64) (hb : b < 2 ^ 64) : RO P n e w (.binOp .and t x y t') (u64c (a &&& b)) := by
  refine ro_bits (k := .u64) hx hy ?_
  show some (IntKind.u64.wrap (BitVec.ofInt 64 (a : Int) &&& BitVec.ofInt 64 (b : Int)).toNat) = _
  rw [BitVec.toNat_and, u64_bv ha, u64_bv hb, u64_wrap (Nat.and_lt_two_pow a hb)]
theorem ro_orU {t t' : TypeId} {x y : Operand} {a b : Nat} (hx : evO n e x = some (u64c a)) (hy : evO n e y = some (u64c b)) (ha : a < 2 ^ 64) (hb : b < 2 ^ 64) : RO P n e w (.binOp .or t x y t') (u64c (a ||| b)) := by
  refine ro_bits (k := .u64) hx hy ?_
  show some (IntKind.u64.wrap (BitVec.ofInt 64 (a : Int) ||| BitVec.ofInt 64 (b : Int)).toNat) = _
  rw [BitVec.toNat_or, u64_bv ha, u64_bv hb, u64_wrap (Nat.or_lt_two_pow ha hb)]
theorem ro_xorU {t : TypeId} {x : Operand} {a : Nat} (hx : evO n e x = some (u64c a)) (ha : a < 2 ^ 64) : RO P n e w (.unOp .xor t x) (u64c (a ^^^ (2 ^ 64 - 1))) := by
  intro ds dst ty ps af g
  have h1 : (IntKind.u64.max : Int) = ((2 ^ 64 - 1 : Nat) : Int) := by decide
  have h2 : IntKind.u64.wrap (BitVec.ofInt IntKind.u64.bits (IntKind.u64.max) ^^^ BitVec.ofInt IntKind.u64.bits (a : Int)).toNat = ((a ^^^ (2 ^ 64 - 1) : Nat) : Int) := by
    show IntKind.u64.wrap (BitVec.ofInt 64 (IntKind.u64.max) ^^^ BitVec.ofInt 64 (a : Int)).toNat = _
    rw [h1, BitVec.toNat_xor, u64_bv (by decide), u64_bv ha, Nat.xor_comm, u64_wrap (Nat.xor_lt_two_pow ha (by decide))]
  simp only [execOp, evO_eval hx, u64c, Op.unary, Op.intBits]
  simp only [show IntKind.u64.signed = false from rfl, Bool.false_eq_true, if_false]
  rw [h2]
  simp
theorem fdiv_pow (a b : Nat) : Int.fdiv (a : Int) (2 ^ b) = ((a / 2 ^ b : Nat) : Int) := by
  rw [Int.fdiv_eq_ediv_of_nonneg _ (by exact_mod_cast Nat.zero_le (2 ^ b)), Int.natCast_ediv, Int.natCast_pow]
  rfl
/-- A shift of a number that is not negative. -/
theorem ro_shrN {t t' : TypeId} {x y : Operand} {k k' : IntKind} {a b : Nat} (hx : evO n e x = some (.int k (a : Int))) (hy : evO n e y = some (.int k' (b : Int))) (hb : b ≤ k.bits) : RO P n e w (.binOp .shr t x y t') (.int k ((a / 2 ^ b : Nat) : Int)) := by
  intro ds dst ty ps af g
  have h0 : ¬ ((b : Int) < 0) := by omega
  have h1 : min ((b : Int)).toNat k.bits = b := by omega
  have h2 := fdiv_pow a b
  rw [← h2, ← h1]
  simp only [execOp, evO_eval hx, evO_eval hy, eqGuard, binOp, Op.shift, h0, if_false]
  simp [h1]
theorem ro_shrU {t t' : TypeId} {x y : Operand} {k : IntKind} {a b : Nat} (hx : evO n e x = some (u64c a)) (hy : evO n e y = some (.int k (b : Int))) (hb : b ≤ 64) : RO P n e w (.binOp .shr t x y t') (u64c (a / 2 ^ b)) := ro_shrN hx hy hb
theorem ro_shlU {t t' : TypeId} {x y : Operand} {k : IntKind} {a b : Nat} (hx : evO n e x = some (u64c a)) (hy : evO n e y = some (.int k (b : Int))) (hb : b ≤ 64) : RO P n e w (.binOp .shl t x y t') (u64c ((a * 2 ^ b) % 2 ^ 64)) := by
  have h := ro_shl (P := P) (w := w) (t := t) (t' := t') hx hy (by omega)
  have h1 : min ((b : Int)).toNat IntKind.u64.bits = b := by show min ((b : Int)).toNat 64 = b; omega
  rw [h1] at h
  have h2 : IntKind.u64.wrap ((a : Int) * 2 ^ b) = ((a * 2 ^ b % 2 ^ 64 : Nat) : Int) := by
    rw [IntKind.wrap_u64, Int.natCast_emod, Int.natCast_mul, Int.natCast_pow]
    rfl
  rw [h2] at h
  exact h
/-- The low bits of a small number. -/
theorem ro_and63i {t t' : TypeId} {x y : Operand} {a : Nat} (hx : evO n e x = some (i64c a)) (hy : evO n e y = some (i64c 63)) (ha : a < 2 ^ 63) : RO P n e w (.binOp .and t x y t') (i64c (a % 64)) := by
  refine ro_bits (k := .i64) hx hy ?_
  show some (IntKind.i64.wrap (BitVec.ofInt 64 (a : Int) &&& BitVec.ofInt 64 ((63 : Nat) : Int)).toNat) = _
  rw [BitVec.toNat_and, u64_bv (by omega), u64_bv (by decide), show (63 : Nat) = 2 ^ 6 - 1 from rfl, Nat.and_two_pow_sub_one_eq_mod, Go.IntWalk.i64_in _ (by omega)]
theorem ro_and63b {t t' : TypeId} {x y : Operand} {a : UInt8} (hx : evO n e x = some (u8c a)) (hy : evO n e y = some (.int .u8 63)) : RO P n e w (.binOp .and t x y t') (.int .u8 ((a.toNat % 64 : Nat) : Int)) := by
  have ha : a.toNat < 256 := a.toBitVec.isLt
  refine ro_bits (k := .u8) hx hy ?_
  show some (IntKind.u8.wrap (BitVec.ofInt 8 (a.toNat : Int) &&& BitVec.ofInt 8 ((63 : Nat) : Int)).toNat) = _
  have e1 : (BitVec.ofInt 8 (a.toNat : Int)).toNat = a.toNat := by rw [BitVec.ofInt_natCast, BitVec.toNat_ofNat, Nat.mod_eq_of_lt (by omega)]
  have e2 : (BitVec.ofInt 8 ((63 : Nat) : Int)).toNat = 63 := by decide
  rw [BitVec.toNat_and, e1, e2, show (63 : Nat) = 2 ^ 6 - 1 from rfl, Nat.and_two_pow_sub_one_eq_mod, Go.IntWalk.u8_in _ (by omega)]

/-! ### bools, slices and nil, arrays -/

theorem ro_eqBool {op : BinOp} {t t' : TypeId} {x y : Operand} {a b r : Bool} (hx : evO n e x = some (.bool a)) (hy : evO n e y = some (.bool b)) (ht : P.underlying t = some .bool) (hr : (match op with | .eql => some (a == b) | .neq => some (!(a == b)) | _ => none) = some r) : RO P n e w (.binOp op t x y t') (.bool r) := by
  intro ds dst ty ps af g
  have key : (Op.equal t (.bool a) (.bool b)).run P w = .ok (a == b) w := run_equalIn_bool w 9999 t a b ht
  cases op <;> simp at hr <;> simp [execOp, evO_eval hx, evO_eval hy, eqGuard, binOp, key, hr]

theorem ro_sliceNil {op : BinOp} {t t' et k : TypeId} {x y : Operand} {a : Option Addr} {l c : Nat} {r : Bool} (hx : evO n e x = some (.slice a l c)) (hy : evO n e y = some (.slice none 0 0)) (ht : selB P t et k = true) (hr : (match op with | .eql => some a.isNone | .neq => some (!a.isNone) | _ => none) = some r) : RO P n e w (.binOp op t x y t') (.bool r) := by
  intro ds dst ty ps af g
  have key : (Op.equal t (.slice a l c) (.slice none 0 0)).run P w = .ok a.isNone w := run_equalIn_slice_nil w 9999 t et a l c (selB_spec ht).1
  cases op <;> simp at hr <;> simp [execOp, evO_eval hx, evO_eval hy, eqGuard, binOp, key, hr]

end
end Go.Proofs.Qxb6500568aGreatDoor
