import Derived.Test.Qxb6500568aGreatDoorPi
import Derived.Maps.AppendAt
import Derived.WalkLawsBesides
namespace Go.Proofs.Qxb6500568aGreatDoor
set_option linter.unusedVariables false
set_option linter.unusedSimpArgs false

/-! More operations: slices, append, make, conversions, interfaces. -/

section
variable {P : Program} {n : Nat} {e : Nat → Option Value} {w : World}

theorem ro_conv {src dst : TypeId} {x : Operand} {k k' : IntKind} {a : Int} (hx : evO n e x = some (.int k' a)) (hs : scalB P src = true) (hd : intB P dst k = true) (hw : k.wrap a = a) : RO P n e w (.convert src dst x) (.int k a) := by
  intro ds dst' ty ps af g
  have hd' := intB_spec hd
  have hsome : ∃ d, P.underlying src = some d := by
    unfold scalB at hs
    cases hu : P.underlying src with
    | none => rw [hu] at hs; cases hs
    | some d => exact ⟨d, rfl⟩
  obtain ⟨d, hu⟩ := hsome
  simp [execOp, evO_eval hx, convert, run_underlying hu, run_underlying hd', Conv.intToInt, hw]

/-! slices of slices -/

theorem ro_sliceLH {t et k b o len cap l h : Nat} {q q' : IntKind} {lo hi : Int} {x y z : Operand} (hx : evO n e x = some (.slice (some ⟨b, o, none⟩) len cap)) (hy : evO n e y = some (.int q lo)) (hz : evO n e z = some (.int q' hi)) (ht : selB P t et k = true)
    (hl : lo = (l : Int)) (hh : hi = (h : Int)) (h1 : l ≤ h) (h2 : h ≤ cap) : RO P n e w (.slice t x (some y) (some z) none) (.slice (some (if cap = l then ⟨b, o, none⟩ else ⟨b, o + l * k, none⟩)) (h - l) (cap - l)) := by
  intro ds dst ty ps af g
  obtain ⟨t1, t2⟩ := selB_spec ht
  subst hl hh
  have hlc : l ≤ cap := by omega
  simp [execOp, evO_eval hx, evO_eval hy, evO_eval hz, Instr.sliceAt, run_underlying t1, Instr.slice, Instr.sliceBounds, Instr.sliceBound, asIntOf, h1, h2, hlc, run_sizeOf t2, addr_add]
  split <;> rfl

theorem ro_sliceL {t et k b o len cap l : Nat} {q : IntKind} {lo : Int} {x y : Operand} (hx : evO n e x = some (.slice (some ⟨b, o, none⟩) len cap)) (hy : evO n e y = some (.int q lo)) (ht : selB P t et k = true)
    (hl : lo = (l : Int)) (h1 : l ≤ len) : RO P n e w (.slice t x (some y) none none) (.slice (some (if cap = l then ⟨b, o, none⟩ else ⟨b, o + l * k, none⟩)) (len - l) (cap - l)) := by
  intro ds dst ty ps af g
  obtain ⟨t1, t2⟩ := selB_spec ht
  subst hl
  simp [execOp, evO_eval hx, evO_eval hy, Instr.sliceAt, run_underlying t1, Instr.slice, Instr.sliceBounds, Instr.sliceBound, asIntOf, h1, run_sizeOf t2, addr_add]
  split <;> rfl

theorem ro_sliceH {t et k len cap h : Nat} {a : Option Addr} {q : IntKind} {hi : Int} {x z : Operand} (hx : evO n e x = some (.slice a len cap)) (hz : evO n e z = some (.int q hi)) (ht : selB P t et k = true)
    (hh : hi = (h : Int)) (h2 : h ≤ cap) : RO P n e w (.slice t x none (some z) none) (.slice a h cap) := by
  intro ds dst ty ps af g
  obtain ⟨t1, t2⟩ := selB_spec ht
  subst hh
  simp [execOp, evO_eval hx, evO_eval hz, Instr.sliceAt, run_underlying t1, Instr.slice, Instr.sliceBounds, Instr.sliceBound, asIntOf, h2, run_sizeOf t2]
  cases a <;> simp [Addr.add]

/-! slices of strings -/

theorem ro_sliceSLH {t : TypeId} {l h : Nat} {s : List UInt8} {q q' : IntKind} {lo hi : Int} {x y z : Operand} (hx : evO n e x = some (S s)) (hy : evO n e y = some (.int q lo)) (hz : evO n e z = some (.int q' hi)) (ht : strB P t = true)
    (hl : lo = (l : Int)) (hh : hi = (h : Int)) (h1 : l ≤ h) (h2 : h ≤ s.length) : RO P n e w (.slice t x (some y) (some z) none) (S ((s.drop l).take (h - l))) := by
  intro ds dst ty ps af g
  have t1 := strB_spec ht
  subst hl hh
  have := run_slice_string (P := P) w t ⟨s.toArray⟩ q q' (l : Int) (h : Int) t1 (by omega) (by omega) (by simpa [ByteArray.size] using h2)
  simp [execOp, evO_eval hx, evO_eval hy, evO_eval hz, Instr.sliceAt, run_underlying t1, S, this, ByteArray.extract_mk]

theorem ro_sliceSL {t : TypeId} {l : Nat} {s : List UInt8} {q : IntKind} {lo : Int} {x y : Operand} (hx : evO n e x = some (S s)) (hy : evO n e y = some (.int q lo)) (ht : strB P t = true)
    (hl : lo = (l : Int)) (h1 : l ≤ s.length) : RO P n e w (.slice t x (some y) none none) (S (s.drop l)) := by
  intro ds dst ty ps af g
  have t1 := strB_spec ht
  subst hl
  have := run_slice_string_l (P := P) w t ⟨s.toArray⟩ t1 q (l : Int) (by omega) (by simpa [ByteArray.size] using h1)
  have e1 : (s.drop l).take (s.length - l) = s.drop l := List.take_of_length_le (by simp)
  simp [execOp, evO_eval hx, evO_eval hy, Instr.sliceAt, run_underlying t1, S, this, ByteArray.extract_mk, ByteArray.size, e1]

/-! a new slice -/

theorem fill_all (cs : List Value) (cells : Array Value) (h : cells.size = cs.length) : cs.zipIdx.foldl (fun (r : Array Value) (p : Value × Nat) => r.setIfInBounds p.2 p.1) cells = cs.toArray := by
  have key : ∀ (l : List Value) (k : Nat) (r : Array Value), k + l.length ≤ r.size → (l.zipIdx k).foldl (fun r (p : Value × Nat) => r.setIfInBounds p.2 p.1) r = (r.toList.take k ++ l ++ r.toList.drop (k + l.length)).toArray := by
    intro l
    induction l with
    | nil => intro k r h; simp
    | cons v l ih =>
      intro k r h
      simp only [List.zipIdx_cons, List.foldl_cons]
      rw [ih (k + 1) _ (by simp at h ⊢; omega)]
      congr 1
      simp only [Array.toList_setIfInBounds, List.length_cons] at h ⊢
      apply List.ext_getElem?
      intro i
      simp only [List.getElem?_append, List.length_append, List.length_take, List.length_set, Array.length_toList, List.getElem?_take, List.getElem?_set, List.getElem?_drop, List.length_cons]
      have hk : min k r.size = k := by omega
      have hk1 : min (k + 1) r.size = k + 1 := by omega
      rw [hk, hk1]
      by_cases h1 : i < k
      · have a1 : i < k + 1 + l.length := by omega
        have a2 : i < k + 1 := by omega
        have a3 : i < k + (l.length + 1) := by omega
        have a4 : ¬ k = i := by omega
        simp [h1, a1, a2, a3, a4]
      · by_cases h2 : i = k
        · subst h2
          have a1 : i < i + 1 + l.length := by omega
          have a3 : i < i + (l.length + 1) := by omega
          have a5 : i < r.size := by omega
          simp [a1, a3, a5]
        · by_cases h3 : i < k + 1 + l.length
          · have a2 : ¬ i < k + 1 := by omega
            have a3 : i < k + (l.length + 1) := by omega
            have a4 : i - k = (i - (k + 1)) + 1 := by omega
            simp only [h3, a2, a3, h1, if_true, if_false]
            rw [a4, List.getElem?_cons_succ]
          · have a3 : ¬ i < k + (l.length + 1) := by omega
            have a6 : ¬ k = k + 1 + l.length + (i - (k + 1 + l.length)) := by omega
            simp only [h3, a3, if_false, a6]
            congr 1
            omega
  have := key cs 0 cells (by omega)
  rw [this]
  have : cells.toList.drop cs.length = [] := by rw [List.drop_eq_nil_iff]; simp; omega
  simp [this]

theorem eo_bs1 {t et k : Nat} {x : Operand} {v : Value} {cs : List Value} (hx : evO n e x = some v) (hv : v.cells = cs.toArray) (ht : selB P t et k = true) (hz : ∃ z, zeroB P et z ∧ z.length = k) (hk : cs.length = k) (h0 : Nat.ble 1 k = true) (h24 : Nat.ble k 1000 = true) :
    EO P n e w (.buildSlice t 1 #[(0, x)]) (.slice (some ⟨w.heap.size, 0, none⟩) 1 1) (w.alloc (.cells cs.toArray et)) := by
  intro ds dst ty ps af g
  obtain ⟨t1, t2⟩ := selB_spec ht
  obtain ⟨z, ⟨i, zv, z1, z2, z3⟩, zl⟩ := hz
  have h0' : ¬ k = 0 := by have := Nat.le_of_ble_eq_true h0; omega
  have h24' : ¬ 16777216 < k := by have := Nat.le_of_ble_eq_true h24; omega
  have hfill := fill_all cs (Array.map (fun x => z[x % z.length]?.getD default) (Array.range k)) (by simp [hk])
  simp [execOp, evO_eval hx, Instr.buildSlice, run_underlying t1, run_sizeOf t2, h0', h24', zeroValue, typeInfo, z1, z2, z3, Instr.fill, hv, hk, hfill, newRow]

/-- Two elements of one cell each. -/
theorem eo_bs2 {t et : Nat} {x y : Operand} {u v : Value} (hx : evO n e x = some u) (hy : evO n e y = some v) (hu : u.cells = #[u]) (hv : v.cells = #[v]) (ht : selB P t et 1 = true) (hz : ∃ z, zeroB P et z ∧ z.length = 1) :
    EO P n e w (.buildSlice t 2 #[(0, x), (1, y)]) (.slice (some ⟨w.heap.size, 0, none⟩) 2 2) (w.alloc (.cells [u, v].toArray et)) := by
  intro ds dst ty ps af g
  obtain ⟨t1, t2⟩ := selB_spec ht
  obtain ⟨z, ⟨i, zv, z1, z2, z3⟩, zl⟩ := hz
  match z, zl with
  | [z0], _ =>
    simp [execOp, evO_eval hx, evO_eval hy, Instr.buildSlice, run_underlying t1, run_sizeOf t2, zeroValue, typeInfo, z1, z2, z3, Instr.fill, hv, hu, newRow, Array.range_succ, Array.range_zero']

/-! append -/

theorem run_app {t : TypeId} {x y : Operand} {u v r : Value} {w1 : World} (hx : evO n e x = some u) (hy : evO n e y = some v) (h : ∀ ty, (Builtin.append_ #[t, t] ty #[u, v]).run P w = .ok r w1) : EO P n e w (.call ⟨.builtin .append, #[x, y], #[t, t]⟩) r w1 := by
  intro ds dst ty ps af g
  simp [execOp, resolve, evO_eval hx, evO_eval hy, invoke, builtin, h]

/-- There is room: in place. -/
theorem eo_appR {t et k g m cap b o m2 c2 : Nat} {x y : Operand} {l l2 news : List Value} {t2 : TypeId} (hx : evO n e x = some (.slice (some ⟨g, 0, none⟩) m cap)) (hy : evO n e y = some (.slice (some ⟨b, o, none⟩) m2 c2)) (ht : selB P t et k = true)
    (hB : Blk w.heap g l et) (hB2 : Blk w.heap b l2 t2) (hn : (l2.drop o).take (m2 * k) = news) (hl : news.length = m2 * k) (h1 : ∀ u ∈ news, u.oneCell' = true) (hroom : m + m2 ≤ cap) (hfit : m * k + m2 * k ≤ l.length) :
    EO P n e w (.call ⟨.builtin .append, #[x, y], #[t, t]⟩) (.slice (some ⟨g, 0, none⟩) (m + m2) cap) (w.setRow g (l.take (m * k) ++ news ++ l.drop (m * k + m2 * k)).toArray) := by
  obtain ⟨t1, ts⟩ := selB_spec ht
  refine run_app hx hy ?_
  intro ty
  unfold sizeB at ts
  cases hi : P.info? et with
  | none => rw [hi] at ts; simp at ts
  | some i =>
    rw [hi] at ts
    simp at ts
    subst ts
    have := run_append_room (P := P) w t ty et i t1 hi g m cap l.toArray hB ⟨b, o, none⟩ m2 c2 news hl (by
      intro j u hu
      rw [addr_add, hB2.cell]
      rw [← hn, List.getElem?_take] at hu
      split at hu
      · rwa [List.getElem?_drop] at hu
      · cases hu) h1 hroom (by rw [hl]; simpa using hfit)
    simpa [hl] using this

/-- Onto a slice of its own: in place or in a new block. -/
theorem app_own {t et k bytes : Nat} {x y : Operand} {v : Value} {m b o m2 c2 : Nat} {xs l2 news : List Value} {t2 : TypeId} (hx : evO n e x = some v) (hy : evO n e y = some (.slice (some ⟨b, o, none⟩) m2 c2)) (ht : selB P t et k = true) (hz : ∃ z, zeroB P et z ∧ z.length = k)
    (hby : (P.info? et).any (fun i => i.bytes == bytes) = true) (hk : Nat.ble 1 k = true) (hown : w.ownsRow 0 et k v m xs) (hB2 : Blk w.heap b l2 t2) (hn : (l2.drop o).take (m2 * k) = news) (hl : news.length = m2 * k) (h1 : ∀ u ∈ news, u.oneCell' = true)
    (hmax : m + m2 ≤ 9223372036854775807) (hbytes : (m + m2) * bytes ≤ 140737488355328) :
    ∃ v' w', EO P n e w (.call ⟨.builtin .append, #[x, y], #[t, t]⟩) v' w' ∧ w'.ownsRow 0 et k v' (m + m2) (xs ++ news) ∧ w.grownBy w' v.ownBlock ∧ (v' = .slice none 0 0 ↔ v = .slice none 0 0 ∧ m2 = 0) ∧ (v'.ownBlock = v.ownBlock ∨ v'.ownBlock = some w.heap.size) := by
  obtain ⟨t1, ts⟩ := selB_spec ht
  obtain ⟨z, ⟨i, zv, z1, z2, z3⟩, zl⟩ := hz
  unfold sizeB at ts
  rw [z1] at ts hby
  simp at ts hby
  have hnews : ∀ j u, news[j]? = some u → w.cell? ((⟨b, o, none⟩ : Addr).add j) = some u := by
    intro j u hu
    rw [addr_add, hB2.cell]
    rw [← hn, List.getElem?_take] at hu
    split at hu
    · rwa [List.getElem?_drop] at hu
    · cases hu
  have key : ∀ ty, ∃ v' w', (Builtin.append_ #[t, t] ty #[v, .slice (some ⟨b, o, none⟩) m2 c2]).run P w = .ok v' w' ∧ w'.ownsRow 0 et k v' (m + m2) (xs ++ news) ∧ w.grownBy w' v.ownBlock ∧ (v' = .slice none 0 0 ↔ v = .slice none 0 0 ∧ m2 = 0) ∧ (v'.ownBlock = v.ownBlock ∨ v'.ownBlock = some w.heap.size) :=
    fun ty => run_append_own_at (P := P) w 0 t ty et i zv k bytes t1 z1 z2 ts hby (by rw [z3]; simpa using zl) (by have := Nat.le_of_ble_eq_true hk; omega) v m xs hown ⟨b, o, none⟩ m2 c2 news hl hnews h1 (by simp only [maxLen]; omega) hbytes (Nat.zero_le _)
  obtain ⟨v', w', h1', h2', h3'⟩ := key 0
  refine ⟨v', w', run_app hx hy ?_, h2', h3'⟩
  intro ty
  have : (Builtin.append_ #[t, t] ty #[v, .slice (some ⟨b, o, none⟩) m2 c2]) = (Builtin.append_ #[t, t] 0 #[v, .slice (some ⟨b, o, none⟩) m2 c2]) := rfl
  rw [this]
  exact h1'

/-! make -/

theorem eo_make {t et k len cap : Nat} {x y : Operand} {q q' : IntKind} {z : List Value} (hx : evO n e x = some (.int q (len : Int))) (hy : evO n e y = some (.int q' (cap : Int))) (ht : selB P t et k = true) (hz : zeroB P et z) (hlc : len ≤ cap) (hc : cap ≤ 1000000) (hk : Nat.ble k 16 = true) (hby : (P.info? et).any (fun i => Nat.ble i.bytes 1000) = true) :
    EO P n e w (.makeSlice t x y) (.slice (some ⟨w.heap.size, 0, none⟩) len cap) (w.alloc (.cells (madeCells z.toArray (cap * k)) et)) := by
  intro ds dst ty ps af g
  obtain ⟨t1, ts⟩ := selB_spec ht
  obtain ⟨i, zv, z1, z2, z3⟩ := hz
  unfold sizeB at ts
  rw [z1] at ts hby
  simp at ts hby
  subst ts
  have hk' := Nat.le_of_ble_eq_true hk
  have hmul : i.bytes * cap ≤ 1000 * 1000000 := Nat.mul_le_mul hby hc
  have hmul2 : cap * i.size ≤ 1000000 * 16 := Nat.mul_le_mul hc hk'
  have h2 : ((i.bytes * cap : Nat) : Int) ≤ ((1000 * 1000000 : Nat) : Int) := Int.ofNat_le.2 hmul
  rw [Int.natCast_mul] at h2
  have := run_make (P := P) w t et i zv t1 z1 z2 q q' (len : Int) (cap : Int) (by omega) (by omega) (by omega) (by omega)
  rw [Int.toNat_natCast, Int.toNat_natCast] at this
  simp [execOp, evO_eval hx, evO_eval hy, this, z3]

theorem made_zero (z : Value) (m : Nat) : madeCells #[z] m = (List.replicate m z).toArray := by
  unfold madeCells
  apply Array.ext
  · simp
  · intro i h1 h2
    simp [Nat.mod_one]

/-! structs and arrays by value -/

def evParts (n : Nat) (e : Nat → Option Value) : List (Nat × Operand) → Option (List (Nat × Value))
  | [] => some []
  | p :: r => match evO n e p.2, evParts n e r with
    | some v, some vs => some ((p.1, v) :: vs)
    | _, _ => none

theorem evParts_map {ds : List Deferred} : ∀ (l : List (Nat × Operand)) (vs : List (Nat × Value)), evParts n e l = some vs → l.map (fun p => (p.1, (Fr n e ds).eval p.2)) = vs
  | [], vs, h => by simp [evParts] at h; simp [h]
  | p :: r, vs, h => by
    simp only [evParts] at h
    split at h
    · rename_i v us h1 h2
      cases h
      simp [evO_eval h1, evParts_map r us h2]
    · cases h

theorem ro_build {t : TypeId} {parts : List (Nat × Operand)} {vs : List (Nat × Value)} {cs : Array Value} (hp : evParts n e parts = some vs) (hb : P.built t vs = some cs) : RO P n e w (.build t parts.toArray) (.agg cs) := by
  intro ds dst ty ps af g
  have hm := evParts_map (ds := ds) parts vs hp
  have := run_build (P := P) w t vs.toArray cs (by simpa using hb)
  have he : (parts.toArray.map fun p => (p.1, (Fr n e ds).eval p.2)) = vs.toArray := by rw [← hm]; simp
  simp only [execOp]
  have he2 : (parts.toArray.map fun (x : Nat × Operand) => match x with | (i, x) => (i, (Fr n e ds).eval x)) = vs.toArray := he
  rw [he2]
  simp [this]

/-! pointers against nil, interfaces -/

theorem ro_eqPtrNil {op : BinOp} {t t' : TypeId} {x : Operand} {p : Option Addr} {r : Bool} (hx : evO n e x = some (.pointer p)) (ht : P.underlying t = some (.pointer (P.pointee t))) (hr : (match op with | .eql => some p.isNone | .neq => some (!p.isNone) | _ => none) = some r) :
    RO P n e w (.binOp op t x (.const (.pointer none)) t') (.bool r) := by
  intro ds dst ty ps af g
  have hc : (Fr n e ds).eval (.const (.pointer none)) = .pointer none := rfl
  cases op <;> simp at hr <;> simp [execOp, evO_eval hx, hc, eqGuard, run_eql_pointer_nil w t p ht, run_neq_pointer_nil w t p ht, hr]

end
end Go.Proofs.Qxb6500568aGreatDoor
