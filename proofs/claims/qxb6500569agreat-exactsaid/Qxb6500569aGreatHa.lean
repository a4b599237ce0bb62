import Derived.Test.Qxb6500569aGreatTab
import Derived.Test.Qxb6500569aGreatPd
import Derived.Test.Qxb6500569aGreatOw
/- The real heap in memory. -/
namespace Go.Proofs.Qxb6500569aGreat
set_option linter.unusedVariables false
set_option linter.unusedSimpArgs false

def i8c (x : Nat) : Value := .int .i8 x
def i32c (x : Nat) : Value := .int .i32 x
def i64c (x : Nat) : Value := .int .i64 x
def u8c (x : UInt8) : Value := .int .u8 x.toNat
def sl (b n c : Nat) : Value := .slice (some ⟨b, 0, none⟩) n c
def ptr (b : Nat) : Value := .pointer (some ⟨b, 0, none⟩)
def ptrAt (b o : Nat) : Value := .pointer (some ⟨b, o, none⟩)

/-- 'cap' cells of block b, the first of them 'xs'. -/
def Arr (H : Array Obj) (b : Nat) (xs : List Value) (cap : Nat) (t : TypeId) : Prop := ∃ j, Blk H b (xs ++ j) t ∧ xs.length + j.length = cap

theorem Arr.lt {H : Array Obj} {b : Nat} {xs : List Value} {cap : Nat} {t : TypeId} (h : Arr H b xs cap t) : b < H.size := by obtain ⟨j, h, _⟩ := h; exact h.lt

theorem Arr.fram {F : Nat → Prop} {w w' : World} {b : Nat} {xs : List Value} {cap : Nat} {t : TypeId} (h : Arr w.heap b xs cap t) (hf : Fram F w w') (hn : ¬ F b) : Arr w'.heap b xs cap t := by
  obtain ⟨j, h, hj⟩ := h; exact ⟨j, h.fram hf hn, hj⟩

theorem Arr.set_ne {w : World} {b c : Nat} {xs : List Value} {cap : Nat} {t : TypeId} (h : Arr w.heap c xs cap t) (cs : Array Value) (hn : c ≠ b) : Arr (w.setRow b cs).heap c xs cap t := by
  obtain ⟨j, h, hj⟩ := h; exact ⟨j, h.set_ne cs hn, hj⟩

theorem Arr.alloc {w : World} {b : Nat} {xs : List Value} {cap : Nat} {t : TypeId} (h : Arr w.heap b xs cap t) (o : Obj) : Arr (w.alloc o).heap b xs cap t := by
  obtain ⟨j, h, hj⟩ := h; exact ⟨j, h.alloc o, hj⟩

structure HL where
  h : Nat
  t : Nat
  w : Nat
  hd : Nat
  a : Nat
  tr : Nat
  m : Nat

def HL.list (L : HL) : List Nat := [L.h, L.t, L.w, L.hd, L.a, L.tr, L.m]

def mkc (m : Nat × Nat × Nat) : List Value := [i32c m.1, i32c m.2.1, i32c m.2.2]

structure HeapAt (H : Array Obj) (L : HL) (R : RH) : Prop where
  st : Blk H L.h [sl L.t R.tags.length 64, sl L.w R.word.length 64, sl L.hd R.heads.length 128, sl L.a R.args.length 256, sl L.tr R.trail.length 64, sl L.m R.marks.length 26] 69
  tags : Arr H L.t (R.tags.map i8c) 64 177
  word : Arr H L.w (R.word.map i32c) 64 21
  heads : Arr H L.hd (R.heads.map u8c) 128 5
  args : Arr H L.a (R.args.map i32c) 256 21
  trail : Arr H L.tr (R.trail.map i32c) 64 21
  marks : Arr H L.m (R.marks.flatMap mkc) 78 198
  nd : L.list.Nodup

def HL.foot (L : HL) : Nat → Prop := fun b => b ∈ L.list

theorem HeapAt.fram {F : Nat → Prop} {w w' : World} {L : HL} {R : RH} (h : HeapAt w.heap L R) (hf : Fram F w w') (hn : ∀ b, L.foot b → ¬ F b) : HeapAt w'.heap L R :=
  ⟨h.st.fram hf (hn _ (by simp [HL.foot, HL.list])), h.tags.fram hf (hn _ (by simp [HL.foot, HL.list])), h.word.fram hf (hn _ (by simp [HL.foot, HL.list])), h.heads.fram hf (hn _ (by simp [HL.foot, HL.list])),
    h.args.fram hf (hn _ (by simp [HL.foot, HL.list])), h.trail.fram hf (hn _ (by simp [HL.foot, HL.list])), h.marks.fram hf (hn _ (by simp [HL.foot, HL.list])), h.nd⟩

theorem HeapAt.fram0 {w w' : World} {L : HL} {R : RH} (h : HeapAt w.heap L R) (hf : Fram none' w w') : HeapAt w'.heap L R := h.fram hf (fun _ _ h => h)

theorem HeapAt.lt {H : Array Obj} {L : HL} {R : RH} (h : HeapAt H L R) {b : Nat} (hb : L.foot b) : b < H.size := by
  simp only [HL.foot, HL.list, List.mem_cons, List.not_mem_nil, or_false] at hb
  rcases hb with rfl | rfl | rfl | rfl | rfl | rfl | rfl
  · exact h.st.lt
  · exact h.tags.lt
  · exact h.word.lt
  · exact h.heads.lt
  · exact h.args.lt
  · exact h.trail.lt
  · exact h.marks.lt

/-- One element of a row of single cells. -/
theorem getMap {α : Type} {f : α → Value} {xs : List α} {j : List Value} {i : Nat} {x : α} (h : xs[i]? = some x) : (xs.map f ++ j)[0 + i * 1]? = some (f x) := by
  have := (List.getElem?_eq_some_iff.1 h).1
  simp [List.getElem?_append, this]
  rw [← (List.getElem?_eq_some_iff.1 h).2]

theorem setMap {α : Type} {f : α → Value} {xs : List α} {j : List Value} {i : Nat} {x : α} (h : i < xs.length) : (xs.map f ++ j).set (0 + i * 1) (f x) = (xs.set i x).map f ++ j := by
  rw [List.set_append_left _ _ (by simpa using h), Nat.mul_one, Nat.zero_add, List.map_set]

theorem arr_set {α : Type} {f : α → Value} {w : World} {b cap : Nat} {t : TypeId} {xs : List α} {i : Nat} {x : α} {j : List Value} (hB : Blk w.heap b (xs.map f ++ j) t) (hj : (xs.map f).length + j.length = cap) (h : i < xs.length) :
    Arr (w.setRow b ((xs.map f ++ j).set (0 + i * 1) (f x)).toArray).heap b ((xs.set i x).map f) cap t := by
  refine ⟨j, ?_, by simpa using hj⟩
  have := hB.set ((xs.map f ++ j).set (0 + i * 1) (f x))
  rw [setMap h] at this ⊢
  exact this

/-- The slice header of a prefix. -/
theorem arr_take {α : Type} {f : α → Value} {H : Array Obj} {b cap : Nat} {t : TypeId} {xs : List α} {k : Nat} (h : Arr H b (xs.map f) cap t) : Arr H b ((xs.take k).map f) cap t := by
  obtain ⟨j, hB, hj⟩ := h
  refine ⟨(xs.drop k).map f ++ j, ?_, ?_⟩
  · rw [← List.append_assoc, ← List.map_append, List.take_append_drop]; exact hB
  · simp at hj ⊢; omega

theorem HeapAt.ne {H : Array Obj} {L : HL} {R : RH} (h : HeapAt H L R) : (L.h ≠ L.t ∧ L.h ≠ L.w ∧ L.h ≠ L.hd ∧ L.h ≠ L.a ∧ L.h ≠ L.tr ∧ L.h ≠ L.m) ∧ (L.t ≠ L.w ∧ L.t ≠ L.hd ∧ L.t ≠ L.a ∧ L.t ≠ L.tr ∧ L.t ≠ L.m) ∧ (L.w ≠ L.hd ∧ L.w ≠ L.a ∧ L.w ≠ L.tr ∧ L.w ≠ L.m) ∧ (L.hd ≠ L.a ∧ L.hd ≠ L.tr ∧ L.hd ≠ L.m) ∧ (L.a ≠ L.tr ∧ L.a ≠ L.m) ∧ L.tr ≠ L.m := by
  have := h.nd
  simp only [HL.list, List.nodup_cons, List.mem_cons, List.not_mem_nil, or_false, not_or, List.nodup_nil, and_true, not_false_eq_true] at this
  obtain ⟨⟨a1, a2, a3, a4, a5, a6⟩, ⟨b1, b2, b3, b4, b5⟩, ⟨c1, c2, c3, c4⟩, ⟨d1, d2, d3⟩, ⟨e1, e2⟩, f1⟩ := this
  exact ⟨⟨a1, a2, a3, a4, a5, a6⟩, ⟨b1, b2, b3, b4, b5⟩, ⟨c1, c2, c3, c4⟩, ⟨d1, d2, d3⟩, ⟨e1, e2⟩, f1⟩


/-! bytes to a string -/

theorem foldl_push (ns : List UInt8) (r : ByteArray) : (ns.map (fun c : UInt8 => (c.toNat : Int))).foldl (fun (r : ByteArray) (n : Int) => r.push (UInt8.ofNat n.toNat)) r = ⟨r.data ++ ns.toArray⟩ := by
  induction ns generalizing r with
  | nil => simp
  | cons c ns ih =>
    simp only [List.map_cons, List.foldl_cons, Int.toNat_natCast, UInt8.ofNat_toNat]
    rw [ih]
    cases r
    simp [ByteArray.push]

theorem ro_b2s {P : Program} {n : Nat} {e : Nat → Option Value} {w : World} {src dst et b o m c t : Nat} {x : Operand} {l : List Value} {bs : List UInt8} (hx : evO n e x = some (.slice (some ⟨b, o, none⟩) m c)) (hs : selB P src et 1 = true) (he : intB P et .u8 = true) (hd : strB P dst = true)
    (hB : Blk w.heap b l t) (hl : (l.drop o).take m = bs.map u8c) (hm : bs.length = m) : RO P n e w (.convert src dst x) (S bs) := by
  intro ds dst' ty ps af g
  have hcells : (loadCells ⟨b, o, none⟩ m).run P w = .ok ((bs.map (fun c : UInt8 => (c.toNat : Int))).map (Value.int .u8)).toArray w := by
    have := run_loadCells_list (P := P) (w := w) (⟨b, o, none⟩ : Addr) (bs.map u8c) (by
      intro j v hj
      rw [addr_add, hB.cell]
      rw [← hl, List.getElem?_take] at hj
      split at hj
      · rwa [List.getElem?_drop] at hj
      · cases hj)
    rw [List.length_map, hm] at this
    rw [this]
    simp [u8c, Function.comp_def]
  have hb := run_bytesToString (P := P) w ⟨b, o, none⟩ m c _ hcells
  rw [foldl_push] at hb
  have t1 := (selB_spec hs).1
  simp [execOp, evO_eval hx, convert, run_underlying t1, run_underlying (strB_spec hd), run_underlying (intB_spec he), hb, S]

/-- An address, or none: -1. -/
def optI (o : Option Nat) : Int := match o with | some a => (a : Int) | none => -1
def optc (o : Option Nat) : Value := .int .i64 (optI o)

def hdO (hp : List Nd) (o : Option Nat) : List UInt8 := match o with | some a => hd hp a | none => []

theorem ro_mkIface {P : Program} {n : Nat} {e : Nat → Option Value} {w : World} {t : TypeId} {x : Operand} {v : Value} (hx : evO n e x = some v) (ht : P.concrete t = true) : RO P n e w (.makeInterface t x) (.iface t v) := by
  intro ds dst ty ps af g
  simp [execOp, evO_eval hx, run_makeInterface (P := P) w t v ht]

end Go.Proofs.Qxb6500569aGreat
