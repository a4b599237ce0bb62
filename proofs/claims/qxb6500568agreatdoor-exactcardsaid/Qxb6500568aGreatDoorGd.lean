import Derived.Test.Qxb6500568aGreatDoorGc
/- Maps as functions: their operations. -/
namespace Go.Proofs.Qxb6500568aGreatDoor
set_option linter.unusedVariables false
set_option linter.unusedSimpArgs false
set_option linter.unusedSectionVars false

section
variable {α : Type} [DecidableEq α] {P : Program} {kt : TypeId} {kv : α → Value} {vv : Nat → Value} {n : Nat} {e : Nat → Option Value} {w : World}

def fup (f : α → Option Nat) (a : α) (p : Nat) : α → Option Nat := fun x => if x = a then some p else f x
def fdel (f : α → Option Nat) (a : α) : α → Option Nat := fun x => if x = a then none else f x

theorem set_mem {l : List (α × Nat)} (hn : (l.map (·.1)).Nodup) {i : Nat} {a : α} {p0 p : Nat} (h : l[i]? = some (a, p0)) (x : α) (q : Nat) : (x, q) ∈ l.set i (a, p) ↔ if x = a then q = p else (x, q) ∈ l := by
  induction l generalizing i with
  | nil => simp at h
  | cons y l ih =>
    simp only [List.map_cons, List.nodup_cons] at hn
    cases i with
    | zero =>
      simp at h; subst h
      simp only [List.set_cons_zero, List.mem_cons, Prod.mk.injEq]
      by_cases hx : x = a
      · subst hx
        simp only [true_and, if_true]
        refine ⟨fun h => ?_, .inl⟩
        rcases h with h | h
        · exact h
        · exact absurd (List.mem_map.2 ⟨_, h, rfl⟩) hn.1
      · simp [hx]
    | succ i =>
      simp at h
      have hm : a ∈ l.map (·.1) := List.mem_map.2 ⟨(a, p0), List.mem_of_getElem? h, rfl⟩
      have hne : ¬ a = y.1 := fun hx => hn.1 (by rw [← hx]; exact hm)
      simp only [List.set_cons_succ, List.mem_cons, ih hn.2 h]
      by_cases hx : x = a
      · subst hx
        simp only [if_true]
        refine ⟨fun h => ?_, .inr⟩
        rcases h with h | h
        · exact absurd (congrArg Prod.fst h) hne
        · exact h
      · simp [hx]

theorem MF.up {H : Array Obj} {r : Nat} {l : List (α × Nat)} {f : α → Option Nat} {a : α} {p : Nat} (h2 : (l.map (·.1)).Nodup) (h3 : ∀ a p, f a = some p ↔ (a, p) ∈ l) (h : MapAt kv H r (upsM (l.map fun p => (p.1, vv p.2)) a (vv p))) : MF kv vv H r (fup f a p) := by
  cases hlk : lookM (l.map fun p => (p.1, vv p.2)) a with
  | none =>
    have hna := (lookM_none.1 hlk)
    simp only [List.map_map, Function.comp_def] at hna
    refine ⟨⟨l ++ [(a, p)], ?_, ?_, ?_⟩⟩
    · simpa [upsM, hlk] using h
    · rw [List.map_append, List.nodup_append]
      refine ⟨h2, by simp, fun x hx y hy => ?_⟩
      simp at hy; subst hy
      exact fun he => hna (by rw [← he]; exact hx)
    · intro x q
      unfold fup
      by_cases hx : x = a
      · subst hx
        have : (x, q) ∉ l := fun hm => hna (List.mem_map.2 ⟨_, hm, rfl⟩)
        simp [this, eq_comm]
      · simp [hx, h3]
  | some q =>
    obtain ⟨i, v0⟩ := q
    have hs := lookM_spec _ _ _ _ hlk
    simp only [List.getElem?_map] at hs
    cases hl : l[i]? with
    | none => rw [hl] at hs; cases hs
    | some y =>
      rw [hl] at hs
      simp only [Option.map_some, Option.some.injEq, Prod.mk.injEq] at hs
      obtain ⟨y1, y2⟩ := y
      have hs1 : y1 = a := hs.1
      subst hs1
      refine ⟨⟨l.set i (y1, p), ?_, ?_, ?_⟩⟩
      · have e1 : upsM (l.map fun p => (p.1, vv p.2)) y1 (vv p) = (l.map fun p => (p.1, vv p.2)).set i (y1, vv p) := by simp [upsM, hlk]
        rw [e1] at h
        rw [List.map_set]
        exact h
      · have : (l.set i (y1, p)).map (·.1) = l.map (·.1) := by
          rw [List.map_set]
          apply List.ext_getElem?
          intro j
          rw [List.getElem?_set]
          split
          · rename_i hij; subst hij
            rw [List.length_map]
            have hil : i < l.length := (List.getElem?_eq_some_iff.1 hl).1
            simp [hil, hl]
            have := (List.getElem?_eq_some_iff.1 hl).2
            rw [this]
          · rfl
        rw [this]; exact h2
      · intro x q
        rw [set_mem h2 hl]
        unfold fup
        by_cases hx : x = y1
        · simp [hx, eq_comm]
        · simp [hx, h3]

theorem erase_mem {l : List (α × Nat)} (hn : (l.map (·.1)).Nodup) {i : Nat} {a : α} {p0 : Nat} (h : l[i]? = some (a, p0)) (x : α) (q : Nat) : (x, q) ∈ l.eraseIdx i ↔ x ≠ a ∧ (x, q) ∈ l := by
  induction l generalizing i with
  | nil => simp at h
  | cons y l ih =>
    simp only [List.map_cons, List.nodup_cons] at hn
    cases i with
    | zero =>
      simp at h; subst h
      simp only [List.eraseIdx_cons_zero, List.mem_cons, Prod.mk.injEq]
      constructor
      · intro hm
        exact ⟨fun hx => hn.1 (by rw [← hx]; exact List.mem_map.2 ⟨_, hm, rfl⟩), .inr hm⟩
      · rintro ⟨h1, h2 | h2⟩
        · exact absurd h2.1 h1
        · exact h2
    | succ i =>
      simp at h
      have hm : a ∈ l.map (·.1) := List.mem_map.2 ⟨(a, p0), List.mem_of_getElem? h, rfl⟩
      have hne : ¬ a = y.1 := fun hx => hn.1 (by rw [← hx]; exact hm)
      simp only [List.eraseIdx_cons_succ, List.mem_cons, ih hn.2 h]
      constructor
      · rintro (h | h)
        · exact ⟨fun hx => hne (by rw [← hx, ← h]), .inl h⟩
        · exact ⟨h.1, .inr h.2⟩
      · rintro ⟨h1, h2 | h2⟩
        · exact .inl h2
        · exact .inr ⟨h1, h2⟩

theorem MF.del {H : Array Obj} {r : Nat} {l : List (α × Nat)} {f : α → Option Nat} {a : α} (h2 : (l.map (·.1)).Nodup) (h3 : ∀ a p, f a = some p ↔ (a, p) ∈ l) (h : MapAt kv H r (delM (l.map fun p => (p.1, vv p.2)) a)) : MF kv vv H r (fdel f a) := by
  cases hlk : lookM (l.map fun p => (p.1, vv p.2)) a with
  | none =>
    have hna := (lookM_none.1 hlk)
    simp only [List.map_map, Function.comp_def] at hna
    refine ⟨⟨l, by simpa [delM, hlk] using h, h2, ?_⟩⟩
    intro x q
    unfold fdel
    by_cases hx : x = a
    · subst hx
      have : (x, q) ∉ l := fun hm => hna (List.mem_map.2 ⟨_, hm, rfl⟩)
      simp [this]
    · simp [hx, h3]
  | some q =>
    obtain ⟨i, v0⟩ := q
    have hs := lookM_spec _ _ _ _ hlk
    simp only [List.getElem?_map] at hs
    cases hl : l[i]? with
    | none => rw [hl] at hs; cases hs
    | some y =>
      rw [hl] at hs
      simp only [Option.map_some, Option.some.injEq, Prod.mk.injEq] at hs
      obtain ⟨y1, y2⟩ := y
      have hs1 : y1 = a := hs.1
      subst hs1
      refine ⟨⟨l.eraseIdx i, ?_, ?_, ?_⟩⟩
      · have e1 : delM (l.map fun p => (p.1, vv p.2)) y1 = (l.map fun p => (p.1, vv p.2)).eraseIdx i := by simp [delM, hlk]
        rw [e1] at h
        rw [map_eraseIdx]
        exact h
      · rw [map_eraseIdx]
        exact h2.sublist (List.eraseIdx_sublist _ _)
      · intro x q
        rw [erase_mem h2 hl]
        unfold fdel
        by_cases hx : x = y1
        · simp [hx]
        · simp [hx, h3]

theorem so_mfUp {t et r : Nat} {x y z : Operand} {a : α} {p : Nat} {f : α → Option Nat} (hK : KeyT P kt kv) (hx : evO n e x = some (.map (some r))) (hy : evO n e y = some (kv a)) (hz : evO n e z = some (vv p)) (ht : P.underlying t = some (.map kt et)) (hM : MF kv vv w.heap r f) :
    ∃ w1, SO P n e w (.mapUpdate t x y z) w1 ∧ MF kv vv w1.heap r (fup f a p) ∧ Fram (one r) w w1 := by
  obtain ⟨l, h1, h2, h3⟩ := hM.ex
  obtain ⟨w1, k1, k2, k3⟩ := so_mapUpdate (P := P) (n := n) (e := e) hK hx hy hz ht h1
  exact ⟨w1, k1, MF.up h2 h3 k2, k3⟩
theorem so_mfDel {t t2 et r : Nat} {x y : Operand} {a : α} {f : α → Option Nat} (hK : KeyT P kt kv) (hx : evO n e x = some (.map (some r))) (hy : evO n e y = some (kv a)) (ht : P.underlying t = some (.map kt et)) (hM : MF kv vv w.heap r f) :
    ∃ w1, EO P n e w (.call ⟨.builtin .delete, #[x, y], #[t, t2]⟩) (.tuple #[]) w1 ∧ MF kv vv w1.heap r (fdel f a) ∧ Fram (one r) w w1 := by
  obtain ⟨l, h1, h2, h3⟩ := hM.ex
  obtain ⟨w1, k1, k2, k3⟩ := so_delete (P := P) (n := n) (e := e) (t2 := t2) hK hx hy ht h1
  exact ⟨w1, k1, MF.del h2 h3 k2, k3⟩
theorem so_mfClear {t et r : Nat} {x : Operand} {f : α → Option Nat} (hx : evO n e x = some (.map (some r))) (ht : P.underlying t = some (.map kt et)) (hM : MF kv vv w.heap r f) :
    ∃ w1, EO P n e w (.call ⟨.builtin .clear, #[x], #[t]⟩) (.tuple #[]) w1 ∧ MF kv vv w1.heap r (fun _ => none) ∧ Fram (one r) w w1 := by
  obtain ⟨l, h1, h2, h3⟩ := hM.ex
  obtain ⟨w1, k1, k2, k3⟩ := so_clear (P := P) (n := n) (e := e) hx ht h1
  exact ⟨w1, k1, MF.nil k2, k3⟩
theorem ro_mfLook {t et r : Nat} {x y : Operand} {a : α} {f : α → Option Nat} {z : Value} (hK : KeyT P kt kv) (hx : evO n e x = some (.map (some r))) (hy : evO n e y = some (kv a)) (ht : P.underlying t = some (.map kt et)) (hz : ((P.info? et).bind (·.zero)) = some z) (hM : MF kv vv w.heap r f) :
    RO P n e w (.lookup t x y true) (.tuple #[((f a).map vv).getD z, .bool (f a).isSome]) := by
  obtain ⟨l, h1, h2⟩ := hM.look a
  have := ro_lookup2 (P := P) (n := n) (e := e) hK hx hy ht hz h1
  rw [h2] at this
  simpa using this
theorem ro_mfLen {t et r : Nat} {x : Operand} {f : α → Option Nat} (hx : evO n e x = some (.map (some r))) (ht : P.underlying t = some (.map kt et)) (hM : MF kv vv w.heap r f) :
    ∃ m : Nat, (m = 0 ↔ ∀ a, f a = none) ∧ RO P n e w (.call ⟨.builtin .len, #[x], #[t]⟩) (i64c m) := by
  obtain ⟨l, h1, h2, h3⟩ := hM.ex
  refine ⟨l.length, ?_, by simpa [i64c] using ro_lenM (P := P) (n := n) (e := e) hx ht h1⟩
  constructor
  · intro h a
    have : l = [] := List.length_eq_zero_iff.1 h
    subst this
    cases hf : f a with
    | none => rfl
    | some p => have := (h3 a p).1 hf; cases this
  · intro h
    cases l with
    | nil => rfl
    | cons y l => have := (h3 y.1 y.2).2 (by simp); rw [h] at this; cases this

end

section
variable {α : Type} [DecidableEq α] {P : Program} {kt : TypeId} {kv : α → Value} {vv : Nat → Value} {n : Nat} {e : Nat → Option Value} {w w1 : World} {ds : List Deferred} {ops : Array Oper} {Q : Exit → Act → World → Prop} {rest : List Oper} {ty : TypeId} {ps : String} {af : Array Edge} {d : Nat} {S : World → Prop} {last : Nat} {op : Op} {v : Value}

theorem ql_lastE0 (hi : ops[last]? = some ⟨none, op, ty, ps, af, none⟩) (h : EO P n e w op v w1) (k : Q .normal (Fr n e ds) w1) : WQ P ops Q S last [] (Fr n e ds) w := by
  refine ⟨?_⟩
  show wpOp P ops Q last _ _ _
  unfold wpOp
  rw [hi]
  simp only [Region.wanted, if_true]
  refine .inl ?_
  unfold Oper.wp
  rw [h ds]
  simp only [Oper.upon, put_none]
  exact k

theorem ql_mfUp {t et r : Nat} {x y z : Operand} {a : α} {p : Nat} {f : α → Option Nat} (ho : ops[last]? = some ⟨none, .mapUpdate t x y z, ty, ps, af, none⟩) (hK : KeyT P kt kv) (hx : evO n e x = some (.map (some r))) (hy : evO n e y = some (kv a)) (hz : evO n e z = some (vv p)) (ht : P.underlying t = some (.map kt et)) (hM : MF kv vv w.heap r f)
    (k : ∀ w1, MF kv vv w1.heap r (fup f a p) → Fram (one r) w w1 → Q .normal (Fr n e ds) w1) : WQ P ops Q S last [] (Fr n e ds) w := by
  obtain ⟨w1, k1, k2, k3⟩ := so_mfUp (P := P) (n := n) (e := e) hK hx hy hz ht hM
  exact ql_last ho k1 (k _ k2 k3)
theorem wl_mfUp {t et r : Nat} {x y z : Operand} {a : α} {p : Nat} {f : α → Option Nat} (hK : KeyT P kt kv) (hx : evO n e x = some (.map (some r))) (hy : evO n e y = some (kv a)) (hz : evO n e z = some (vv p)) (ht : P.underlying t = some (.map kt et)) (hM : MF kv vv w.heap r f)
    (k : ∀ w1, MF kv vv w1.heap r (fup f a p) → Fram (one r) w w1 → WL P ops Q rest (Fr n e ds) w1) : WL P ops Q (⟨none, .mapUpdate t x y z, ty, ps, af, none⟩ :: rest) (Fr n e ds) w := by
  obtain ⟨w1, k1, k2, k3⟩ := so_mfUp (P := P) (n := n) (e := e) hK hx hy hz ht hM
  exact wls k1 (k _ k2 k3)
theorem ql_mfDel {t t2 et r : Nat} {x y : Operand} {a : α} {f : α → Option Nat} (ho : ops[last]? = some ⟨none, .call ⟨.builtin .delete, #[x, y], #[t, t2]⟩, ty, ps, af, none⟩) (hK : KeyT P kt kv) (hx : evO n e x = some (.map (some r))) (hy : evO n e y = some (kv a)) (ht : P.underlying t = some (.map kt et)) (hM : MF kv vv w.heap r f)
    (k : ∀ w1, MF kv vv w1.heap r (fdel f a) → Fram (one r) w w1 → Q .normal (Fr n e ds) w1) : WQ P ops Q S last [] (Fr n e ds) w := by
  obtain ⟨w1, k1, k2, k3⟩ := so_mfDel (P := P) (n := n) (e := e) (t2 := t2) hK hx hy ht hM
  exact ql_lastE0 ho k1 (k _ k2 k3)
theorem wl_mfClear {t et r : Nat} {x : Operand} {f : α → Option Nat} (hx : evO n e x = some (.map (some r))) (ht : P.underlying t = some (.map kt et)) (hM : MF kv vv w.heap r f)
    (k : ∀ w1, MF kv vv w1.heap r (fun _ => none) → Fram (one r) w w1 → WL P ops Q rest (Fr n e ds) w1) : WL P ops Q (⟨none, .call ⟨.builtin .clear, #[x], #[t]⟩, ty, ps, af, none⟩ :: rest) (Fr n e ds) w := by
  obtain ⟨w1, k1, k2, k3⟩ := so_mfClear (P := P) (n := n) (e := e) hx ht hM
  exact wle0 k1 (k _ k2 k3)
theorem wl_mfNew {t : TypeId} (kv : α → Value) (vv : Nat → Value) (k : ∀ r w1, w.heap.size ≤ r → MF kv vv w1.heap r (fun _ => none) → Fram none' w w1 → WL P ops Q rest (Fr n (upd e d (.map (some r))) ds) w1) :
    WL P ops Q (⟨some d, .makeMap t none, ty, ps, af, none⟩ :: rest) (Fr n e ds) w :=
  wle eo_makeMap (k w.heap.size _ (Nat.le_refl _) (MF.new w) (Fram.alloc none' w _))

end
end Go.Proofs.Qxb6500568aGreatDoor
