import Derived.Test.Qxb6500568aGreatDoorGb
/- Maps: string keys; delete, clear; maps as functions. -/
namespace Go.Proofs.Qxb6500568aGreatDoor
set_option linter.unusedVariables false
set_option linter.unusedSimpArgs false
set_option linter.unusedSectionVars false

theorem ba_beq (a b : List UInt8) : ((⟨a.toArray⟩ : ByteArray) == ⟨b.toArray⟩) = decide (a = b) := by
  rw [Bool.eq_iff_iff, decide_eq_true_eq]
  show ((a.toArray == b.toArray) = true) ↔ _
  rw [beq_iff_eq]
  constructor
  · intro h; simpa using h
  · rintro rfl; rfl

theorem keyStr {P : Program} {kt : TypeId} (hk : strB P kt = true) : KeyT P kt S := by
  have hu := strB_spec hk
  refine ⟨?_, ?_, ?_⟩
  · intro b a w
    show (Instr.checkKey b (9999 + 1) kt (S a)).run P w = _
    rw [Instr.checkKey]
    simp [run_underlying hu, S]
  · intro a es l w h
    have key : ∀ (es : List MapEntry) (l : List (List UInt8 × Value)) (i : Nat), es.map (fun e => (e.key, e.val)) = l.map (fun p => (S p.1, p.2)) → Instr.findNow .string (S a) es i = some ((lookM l a).map (fun q => (i + q.1, q.2))) := by
      intro es
      induction es with
      | nil => intro l i h; cases l with | nil => rfl | cons p l => cases h
      | cons e es ih =>
        intro l i h
        cases l with
        | nil => cases h
        | cons p l =>
          simp only [List.map_cons, List.cons.injEq, Prod.mk.injEq] at h
          obtain ⟨⟨h1, h2⟩, h3⟩ := h
          simp only [Instr.findNow, h1, S, Instr.sameNow, lookM, ba_beq]
          by_cases hp : a = p.1
          · simp [hp, h2]
          · simp only [hp, decide_false, if_false]
            have := ih l (i + 1) h3
            simp only [S] at this
            rw [this]
            cases lookM l a with
            | none => rfl
            | some q => simp; omega
    have := key es l 0 h
    simp only [Instr.findKey, Sem.run_bind, run_underlying hu, Result.andThen_ok, this]
    cases lookM l a with
    | none => rfl
    | some q => simp
  · intro a w
    have : ((⟨a.toArray⟩ : ByteArray) == ⟨a.toArray⟩) = true := by rw [ba_beq]; simp
    simp [Instr.keyThatStays, Instr.sameBits, S, this]

theorem keyU {P : Program} {kt : TypeId} (hk : intB P kt .u64 = true) : KeyT P kt u64c := keyInt (f := fun a : Nat => (a : Int)) hk (fun a b h => by omega)

section
variable {α : Type} [DecidableEq α] {P : Program} {kt : TypeId} {kv : α → Value} {n : Nat} {e : Nat → Option Value} {w : World}

/-- The map without a key. -/
def delM (l : List (α × Value)) (a : α) : List (α × Value) := match lookM l a with | some q => l.eraseIdx q.1 | none => l

theorem eraseIdx_toList {β : Type} (es : Array β) (i : Nat) : (es.eraseIdxIfInBounds i).toList = es.toList.eraseIdx i := by
  unfold Array.eraseIdxIfInBounds
  split
  · simp
  · rename_i h
    rw [List.eraseIdx_of_length_le]
    simpa using h

theorem map_eraseIdx {β γ : Type} (f : β → γ) : ∀ (l : List β) (i : Nat), (l.eraseIdx i).map f = (l.map f).eraseIdx i
  | [], i => by simp
  | x :: l, 0 => by simp
  | x :: l, i + 1 => by simp [map_eraseIdx f l i]

theorem so_delete {t et t2 r : Nat} {x y : Operand} {a : α} {l : List (α × Value)} (hK : KeyT P kt kv) (hx : evO n e x = some (.map (some r))) (hy : evO n e y = some (kv a)) (ht : P.underlying t = some (.map kt et)) (hM : MapAt kv w.heap r l) :
    ∃ w1, EO P n e w (.call ⟨.builtin .delete, #[x, y], #[t, t2]⟩) (.tuple #[]) w1 ∧ MapAt kv w1.heap r (delM l a) ∧ Fram (fun b => b = r) w w1 := by
  have hlt := hM.lt
  obtain ⟨es, c, h1, h2, h3, h4⟩ := hM
  have hfd := hK.find a _ l w h2
  cases hlk : lookM l a with
  | none =>
    rw [hlk] at hfd
    refine ⟨setM w r (.map es c), ?_, ⟨es, c, by simp [setM, hlt], by simp [delM, hlk, h2], h3, h4⟩, setM_fram w r _⟩
    intro ds dst ty ps af g
    simp [execOp, resolve, evO_eval hx, evO_eval hy, invoke, builtin, Builtin.delete_, run_underlying ht, run_getObjM h1, hK.chk, hfd, run_setObjM h1]
  | some q =>
    rw [hlk] at hfd
    refine ⟨setM w r (.map (es.eraseIdxIfInBounds q.1) c), ?_, ⟨es.eraseIdxIfInBounds q.1, c, by simp [setM, hlt], ?_, ?_, ?_⟩, setM_fram w r _⟩
    · intro ds dst ty ps af g
      simp [execOp, resolve, evO_eval hx, evO_eval hy, invoke, builtin, Builtin.delete_, run_underlying ht, run_getObjM h1, hK.chk, hfd, run_setObjM h1]
    · rw [eraseIdx_toList]
      simp only [delM, hlk]
      rw [map_eraseIdx, map_eraseIdx, h2]
    · rw [eraseIdx_toList, map_eraseIdx]
      exact h3.sublist (List.eraseIdx_sublist _ _)
    · rw [eraseIdx_toList]
      intro e he
      exact h4 e (List.mem_of_mem_eraseIdx he)

theorem so_clear {t et r : Nat} {x : Operand} {l : List (α × Value)} (hx : evO n e x = some (.map (some r))) (ht : P.underlying t = some (.map kt et)) (hM : MapAt kv w.heap r l) :
    ∃ w1, EO P n e w (.call ⟨.builtin .clear, #[x], #[t]⟩) (.tuple #[]) w1 ∧ MapAt kv w1.heap r [] ∧ Fram (fun b => b = r) w w1 := by
  have hlt := hM.lt
  obtain ⟨es, c, h1, h2, h3, h4⟩ := hM
  refine ⟨setM w r (.map #[] c), ?_, ⟨#[], c, by simp [setM, hlt], by simp, by simp, by simp⟩, setM_fram w r _⟩
  intro ds dst ty ps af g
  simp [execOp, resolve, evO_eval hx, invoke, builtin, Builtin.clear_, run_underlying ht, run_getObjM h1, run_setObjM h1]

/-! ### A map as a function -/

/-- The map's keys are unlike, and the map tells f. -/
structure MF (kv : α → Value) (vv : Nat → Value) (H : Array Obj) (r : Nat) (f : α → Option Nat) : Prop where
  ex : ∃ l : List (α × Nat), MapAt kv H r (l.map fun p => (p.1, vv p.2)) ∧ (l.map (·.1)).Nodup ∧ ∀ a p, f a = some p ↔ (a, p) ∈ l

variable {vv : Nat → Value}
theorem MF.lt {H : Array Obj} {r : Nat} {f : α → Option Nat} (h : MF kv vv H r f) : r < H.size := by
  obtain ⟨l, h1, h2, h3⟩ := h.ex; exact h1.lt
theorem MF.fram {F : Nat → Prop} {w w' : World} {r : Nat} {f : α → Option Nat} (h : MF kv vv w.heap r f) (hf : Fram F w w') (hn : ¬ F r) : MF kv vv w'.heap r f := by
  obtain ⟨l, h1, h2, h3⟩ := h.ex; exact ⟨⟨l, h1.fram hf hn, h2, h3⟩⟩
theorem MF.framN {w w' : World} {r : Nat} {f : α → Option Nat} (h : MF kv vv w.heap r f) (hf : Fram none' w w') : MF kv vv w'.heap r f := h.fram hf (fun h => h)
theorem MF.framO {w w' : World} {r c : Nat} {f : α → Option Nat} (h : MF kv vv w.heap r f) (hf : Fram (one c) w w') (hn : r ≠ c) : MF kv vv w'.heap r f := h.fram hf hn
theorem MF.blk_ne {H : Array Obj} {r b : Nat} {f : α → Option Nat} {t : TypeId} {cs : List Value} (h : MF kv vv H r f) (hb : Blk H b cs t) : r ≠ b := by
  obtain ⟨l, h1, h2, h3⟩ := h.ex; exact h1.blk_ne hb

theorem lookM_map (l : List (α × Nat)) (a : α) : lookM (l.map fun p => (p.1, vv p.2)) a = ((l.map (·.1)).findIdx? (fun x => decide (a = x))).bind fun i => (l[i]?).map fun p => (i, vv p.2) := by
  induction l with
  | nil => rfl
  | cons p l ih =>
    simp only [List.map_cons, lookM, List.findIdx?_cons]
    by_cases h : a = p.1
    · simp [h]
    · simp only [h, if_false, decide_false, ih]
      cases List.findIdx? (fun x => decide (a = x)) (l.map (·.1)) with
      | none => simp
      | some i => cases hl : l[i]? <;> simp [hl]

theorem MF.look {H : Array Obj} {r : Nat} {f : α → Option Nat} (h : MF kv vv H r f) (a : α) : ∃ l, MapAt kv H r l ∧ lookMV l a = (f a).map vv := by
  obtain ⟨l, h1, h2, h3⟩ := h.ex
  refine ⟨_, h1, ?_⟩
  cases hf : f a with
  | some p =>
    have hm := (h3 a p).1 hf
    obtain ⟨i, hi⟩ := List.getElem?_of_mem hm
    have := lookM_of_get (l := l.map fun p => (p.1, vv p.2)) (i := i) (a := a) (v := vv p) (by simpa [List.map_map, Function.comp_def] using h2) (by simp [hi])
    simp [lookMV, this]
  | none =>
    have : lookM (l.map fun p => (p.1, vv p.2)) a = none := by
      rw [lookM_none]
      intro hm
      simp only [List.map_map, List.mem_map, Function.comp_def] at hm
      obtain ⟨q, hq, rfl⟩ := hm
      have := (h3 q.1 q.2).2 hq
      rw [hf] at this; cases this
    simp [lookMV, this]

theorem MF.new (w : World) : MF kv vv (w.alloc (.map #[] 0)).heap w.heap.size (fun _ => none) := ⟨⟨[], MapAt.new w, by simp, by simp⟩⟩
theorem MF.nil {H : Array Obj} {r : Nat} (h : MapAt kv H r []) : MF kv vv H r (fun _ => none) := ⟨⟨[], h, by simp, by simp⟩⟩

end
end Go.Proofs.Qxb6500568aGreatDoor
