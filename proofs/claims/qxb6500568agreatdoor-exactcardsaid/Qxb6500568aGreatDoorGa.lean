import Derived.Test.Qxb6500568aGreatDoorFz
import Derived.Test.Qxb6500568aGreatDoorFu
/- Maps. -/
namespace Go.Proofs.Qxb6500568aGreatDoor
set_option linter.unusedVariables false
set_option linter.unusedSimpArgs false
set_option linter.unusedSectionVars false

section
variable {α : Type} [DecidableEq α]

def lookM : List (α × Value) → α → Option (Nat × Value)
  | [], _ => none
  | p :: l, a => if a = p.1 then some (0, p.2) else (lookM l a).map (fun q => (q.1 + 1, q.2))

theorem lookM_spec : ∀ (l : List (α × Value)) (a : α) (i : Nat) (v : Value), lookM l a = some (i, v) → l[i]? = some (a, v)
  | [], a, i, v, h => by cases h
  | p :: l, a, i, v, h => by
    simp only [lookM] at h
    split at h
    · rename_i hp; cases h; subst hp; rfl
    · cases hx : lookM l a with
      | none => rw [hx] at h; cases h
      | some q => rw [hx] at h; cases h; simpa using lookM_spec l a q.1 q.2 hx

def upsM (l : List (α × Value)) (a : α) (v : Value) : List (α × Value) := match lookM l a with | some q => l.set q.1 (a, v) | none => l ++ [(a, v)]

def lookMV (l : List (α × Value)) (a : α) : Option Value := (lookM l a).map (·.2)

variable {P : Program} {kt : TypeId} {kv : α → Value}

structure KeyT (P : Program) (kt : TypeId) (kv : α → Value) : Prop where
  chk : ∀ b a w, (Instr.checkKey b 10000 kt (kv a)).run P w = .ok () w
  find : ∀ (a : α) (es : List MapEntry) (l : List (α × Value)) (w : World), es.map (fun e => (e.key, e.val)) = l.map (fun p => (kv p.1, p.2)) → (Instr.findKey kt (kv a) es).run P w = .ok (lookM l a) w
  stay : ∀ a w, (Instr.keyThatStays (kv a) (kv a)).run P w = .ok (kv a) w

theorem findAsking_run (heq : ∀ a b w, (Op.equal kt (kv a) (kv b)).run P w = .ok (decide (a = b)) w) : ∀ (es : List MapEntry) (l : List (α × Value)) (i : Nat) (a : α) (w : World), es.map (fun e => (e.key, e.val)) = l.map (fun p => (kv p.1, p.2)) →
    (Instr.findAsking kt (kv a) es i).run P w = .ok ((lookM l a).map (fun q => (i + q.1, q.2))) w
  | [], [], i, a, w, _ => rfl
  | [], p :: l, i, a, w, h => by cases h
  | e :: es, [], i, a, w, h => by cases h
  | e :: es, p :: l, i, a, w, h => by
    simp only [List.map_cons, List.cons.injEq, Prod.mk.injEq] at h
    obtain ⟨⟨h1, h2⟩, h3⟩ := h
    simp only [Instr.findAsking, Sem.run_bind, h1, heq, Result.andThen_ok, lookM]
    by_cases hp : a = p.1
    · simp [hp, h2]
    · simp only [hp, decide_false, Bool.false_eq_true, if_false]
      rw [findAsking_run heq es l (i + 1) a w h3]
      cases lookM l a with
      | none => rfl
      | some q => simp; omega

theorem keyInt {k : IntKind} {f : α → Int} (hk : intB P kt k = true) (hf : ∀ a b, f a = f b → a = b) : KeyT P kt (fun a => .int k (f a)) := by
  have hu := intB_spec hk
  refine ⟨?_, ?_, ?_⟩
  · intro b a w
    show (Instr.checkKey b (9999 + 1) kt (.int k (f a))).run P w = _
    rw [Instr.checkKey]
    simp [run_underlying hu]
  · intro a es l w h
    have key : ∀ (es : List MapEntry) (l : List (α × Value)) (i : Nat), es.map (fun e => (e.key, e.val)) = l.map (fun p => (Value.int k (f p.1), p.2)) → Instr.findNow (.int k) (.int k (f a)) es i = some ((lookM l a).map (fun q => (i + q.1, q.2))) := by
      intro es
      induction es with
      | nil => intro l i h; cases l with | nil => rfl | cons p l => cases h
      | cons e es ih =>
        intro l i h
        cases l with
        | nil => cases h
        | cons p l =>
          simp only [List.map_cons, List.cons.injEq, Prod.mk.injEq] at h
          obtain ⟨⟨h1, h2⟩, h3⟩ := h
          simp only [Instr.findNow, h1, Instr.sameNow, if_true, lookM]
          by_cases hp : a = p.1
          · simp [hp, h2]
          · have : ¬ f a = f p.1 := fun hh => hp (hf _ _ hh)
            have hbe : (f a == f p.1) = false := by simp [this]
            simp only [hp, hbe, if_false]
            rw [ih l (i + 1) h3]
            cases lookM l a with
            | none => rfl
            | some q => simp; omega
    have := key es l 0 h
    simp only [Instr.findKey, Sem.run_bind, run_underlying hu, Result.andThen_ok, this]
    cases lookM l a with
    | none => rfl
    | some q => simp
  · intro a w
    simp [Instr.keyThatStays, Instr.sameBits]

/-- The map at block r. -/
def MapAt (kv : α → Value) (H : Array Obj) (r : Nat) (l : List (α × Value)) : Prop :=
  ∃ es clock, H[r]? = some (.map es clock) ∧ es.toList.map (fun e => (e.key, e.val)) = l.map (fun p => (kv p.1, p.2)) ∧ (es.toList.map (·.born)).Nodup ∧ ∀ e ∈ es.toList, e.born < clock

set_option linter.unusedSectionVars false in
theorem MapAt.lt {H : Array Obj} {r : Nat} {l : List (α × Value)} (h : MapAt kv H r l) : r < H.size := by
  obtain ⟨es, c, h, _⟩ := h; exact (Array.getElem?_eq_some_iff.1 h).1

set_option linter.unusedSectionVars false in
theorem MapAt.fram {F : Nat → Prop} {w w' : World} {r : Nat} {l : List (α × Value)} (h : MapAt kv w.heap r l) (hf : Fram F w w') (hn : ¬ F r) : MapAt kv w'.heap r l := by
  have hl := h.lt
  obtain ⟨es, c, h, h2⟩ := h
  exact ⟨es, c, by rw [hf.block r hl hn]; exact h, h2⟩

set_option linter.unusedSectionVars false in
theorem MapAt.new (w : World) : MapAt kv (w.alloc (.map #[] 0)).heap w.heap.size [] := ⟨#[], 0, heap_alloc_new w _, rfl, by simp, by simp⟩

set_option linter.unusedSectionVars false in
theorem MapAt.blk_ne {H : Array Obj} {r b : Nat} {l : List (α × Value)} {t : TypeId} {cs : List Value} (h : MapAt kv H r l) (hb : Blk H b cs t) : r ≠ b := by
  intro e
  subst e
  obtain ⟨es, c, h, _⟩ := h
  unfold Blk at hb
  rw [h] at hb
  cases hb

def setM (w : World) (r : Nat) (o : Obj) : World := { w with heap := w.heap.setIfInBounds r o }

theorem setM_fram (w : World) (r : Nat) (o : Obj) : Fram (fun b => b = r) w (setM w r o) :=
  ⟨rfl, rfl, rfl, by simp [setM], fun k hk hn => by simp only [setM, Array.getElem?_setIfInBounds]; rw [if_neg (fun e => hn e.symm)]⟩

theorem run_setObjM {w : World} {r : Nat} {es : Array MapEntry} {c : Nat} (h : w.heap[r]? = some (.map es c)) (o : Obj) : (setObj r o).run P w = .ok () (setM w r o) := by
  simp [setObj, Sem.run, h, setM]

theorem run_getObjM {w : World} {r : Nat} {es : Array MapEntry} {c : Nat} (h : w.heap[r]? = some (.map es c)) : (getObj r).run P w = .ok (.map es c) w := by
  simp [getObj, Sem.run, h]

variable {n : Nat} {e : Nat → Option Value} {w : World}

theorem ro_lookup2 {t et r : Nat} {x y : Operand} {a : α} {l : List (α × Value)} {z : Value} (hK : KeyT P kt kv) (hx : evO n e x = some (.map (some r))) (hy : evO n e y = some (kv a)) (ht : P.underlying t = some (.map kt et)) (hz : ((P.info? et).bind (·.zero)) = some z) (hM : MapAt kv w.heap r l) :
    RO P n e w (.lookup t x y true) (.tuple #[(lookMV l a).getD z, .bool (lookMV l a).isSome]) := by
  intro ds dst ty ps af g
  obtain ⟨es, c, h1, h2, _⟩ := hM
  have hzz : (zeroValue et).run P w = .ok z w := by
    cases hi : P.info? et with
    | none => rw [hi] at hz; cases hz
    | some i => rw [hi] at hz; simp at hz; simp [zeroValue, typeInfo, hi, hz]
  have hfd := hK.find a _ l w h2
  cases hlk : lookM l a with
  | none => rw [hlk] at hfd; simp [execOp, evO_eval hx, evO_eval hy, Instr.lookup, run_underlying ht, run_getObjM h1, hK.chk, hfd, hzz, lookMV, hlk]
  | some q => rw [hlk] at hfd; simp [execOp, evO_eval hx, evO_eval hy, Instr.lookup, run_underlying ht, run_getObjM h1, hK.chk, hfd, lookMV, hlk]

theorem ro_lookup1 {t et r : Nat} {x y : Operand} {a : α} {l : List (α × Value)} {z : Value} (hK : KeyT P kt kv) (hx : evO n e x = some (.map (some r))) (hy : evO n e y = some (kv a)) (ht : P.underlying t = some (.map kt et)) (hz : ((P.info? et).bind (·.zero)) = some z) (hM : MapAt kv w.heap r l) :
    RO P n e w (.lookup t x y false) ((lookMV l a).getD z) := by
  intro ds dst ty ps af g
  obtain ⟨es, c, h1, h2, _⟩ := hM
  have hzz : (zeroValue et).run P w = .ok z w := by
    cases hi : P.info? et with
    | none => rw [hi] at hz; cases hz
    | some i => rw [hi] at hz; simp at hz; simp [zeroValue, typeInfo, hi, hz]
  have hfd := hK.find a _ l w h2
  cases hlk : lookM l a with
  | none => rw [hlk] at hfd; simp [execOp, evO_eval hx, evO_eval hy, Instr.lookup, run_underlying ht, run_getObjM h1, hK.chk, hfd, hzz, lookMV, hlk]
  | some q => rw [hlk] at hfd; simp [execOp, evO_eval hx, evO_eval hy, Instr.lookup, run_underlying ht, run_getObjM h1, hK.chk, hfd, lookMV, hlk]

theorem ro_lenM {t et r : Nat} {x : Operand} {l : List (α × Value)} (hx : evO n e x = some (.map (some r))) (ht : P.underlying t = some (.map kt et)) (hM : MapAt kv w.heap r l) : RO P n e w (.call ⟨.builtin .len, #[x], #[t]⟩) (.int .i64 l.length) := by
  intro ds dst ty ps af g
  obtain ⟨es, c, h1, h2, _⟩ := hM
  have hl : es.size = l.length := by have := congrArg List.length h2; simpa using this
  simp [execOp, resolve, evO_eval hx, invoke, builtin, Builtin.len_, run_underlying ht, run_getObjM h1, goInt, hl]

theorem eo_makeMap {t : TypeId} : EO P n e w (.makeMap t none) (.map (some w.heap.size)) (w.alloc (.map #[] 0)) := by
  intro ds dst ty ps af g
  have : (Instr.makeMap t none).run P w = .ok (.map (some w.heap.size)) (w.alloc (.map #[] 0)) := rfl
  simp [execOp, this]

theorem so_mapUpdate {t et r : Nat} {x y z : Operand} {a : α} {v : Value} {l : List (α × Value)} (hK : KeyT P kt kv) (hx : evO n e x = some (.map (some r))) (hy : evO n e y = some (kv a)) (hz : evO n e z = some v) (ht : P.underlying t = some (.map kt et)) (hM : MapAt kv w.heap r l) :
    ∃ w1, SO P n e w (.mapUpdate t x y z) w1 ∧ MapAt kv w1.heap r (upsM l a v) ∧ Fram (fun b => b = r) w w1 := by
  have hlt := hM.lt
  obtain ⟨es, c, h1, h2, h3, h4⟩ := hM
  have hfd := hK.find a _ l w h2
  cases hlk : lookM l a with
  | none =>
    rw [hlk] at hfd
    refine ⟨setM w r (.map (es.push { key := kv a, val := v, born := c }) (c + 1)), ?_, ⟨es.push { key := kv a, val := v, born := c }, c + 1, ?_, ?_, ?_, ?_⟩, setM_fram w r _⟩
    · intro ds dst ty ps af g
      simp [execOp, evO_eval hx, evO_eval hy, evO_eval hz, Instr.mapUpdate, run_underlying ht, run_getObjM h1, hK.chk, hfd, run_setObjM h1]
    · simp [setM, hlt]
    · simp [upsM, hlk, h2]
    · simp only [Array.toList_push, List.map_append, List.map_cons, List.map_nil]
      rw [List.nodup_append]
      refine ⟨h3, by simp, ?_⟩
      intro x hx y hy
      simp at hx hy
      obtain ⟨e, he, rfl⟩ := hx
      have := h4 e (by simpa using he)
      omega
    · intro e he
      simp at he
      rcases he with he | rfl
      · have := h4 e (by simpa using he); omega
      · simp
  | some q =>
    rw [hlk] at hfd
    obtain ⟨i, v0⟩ := q
    have hspec := lookM_spec l a i v0 hlk
    have hil : i < l.length := (List.getElem?_eq_some_iff.1 hspec).1
    have hel : es.size = l.length := by have := congrArg List.length h2; simpa using this
    have hie : i < es.size := by omega
    have hkey : es[i].key = kv a := by
      have := congrArg (fun x => x[i]?) h2
      simp [hspec, hie] at this
      exact this.1
    refine ⟨setM w r (.map (es.modify i fun e => { e with key := kv a, val := v }) c), ?_, ⟨es.modify i fun e => { e with key := kv a, val := v }, c, ?_, ?_, ?_, ?_⟩, setM_fram w r _⟩
    · intro ds dst ty ps af g
      simp [execOp, evO_eval hx, evO_eval hy, evO_eval hz, Instr.mapUpdate, run_underlying ht, run_getObjM h1, hK.chk, hfd, run_setObjM h1, hie, hkey, hK.stay]
    · simp [setM, hlt]
    · simp only [upsM, hlk]
      apply List.ext_getElem?
      intro j
      have hj := congrArg (fun x => x[j]?) h2
      simp only [List.getElem?_map, Array.getElem?_toList, Array.getElem?_modify, List.getElem?_set] at hj ⊢
      by_cases hij : i = j
      · subst hij; simp [hie, hil]
      · simp [hij]; exact hj
    · have : (es.modify i fun e => { e with key := kv a, val := v }).toList.map (·.born) = es.toList.map (·.born) := by
        apply List.ext_getElem?
        intro j
        simp only [List.getElem?_map, Array.getElem?_toList, Array.getElem?_modify]
        split <;> cases es[j]? <;> simp
      rw [this]; exact h3
    · intro e he
      obtain ⟨j, hj⟩ := List.getElem?_of_mem he
      simp only [Array.getElem?_toList, Array.getElem?_modify] at hj
      split at hj
      · cases hx : es[j]? with
        | none => rw [hx] at hj; cases hj
        | some e0 => rw [hx] at hj; cases hj; exact h4 e0 (List.mem_of_getElem? (by simpa using hx))
      · exact h4 e (List.mem_of_getElem? (by simpa using hj))

end
end Go.Proofs.Qxb6500568aGreatDoor
