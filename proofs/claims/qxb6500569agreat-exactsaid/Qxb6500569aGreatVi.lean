import Derived.Test.Qxb6500569aGreatVh
/- The index is kept up: plain part, and rules. -/
namespace Go.Proofs.Qxb6500569aGreat
set_option linter.unusedVariables false
set_option linter.unusedSimpArgs false

theorem idsA_snoc (cls : List Cl2) (c : Cl2) (f : K2) : idsA (cls ++ [c]) f = idsA cls f ++ (if prd2 c.2 = f then [cls.length] else []) := by
  unfold idsA; rw [selF_snoc]; simp
theorem idsO_snoc (cls : List Cl2) (c : Cl2) (f : K2) : idsO (cls ++ [c]) f = idsO cls f ++ (if prd2 c.2 = f ∧ own2 c.2 = none then [cls.length] else []) := by
  unfold idsO; rw [selF_snoc]; simp
theorem idsK_snoc (cls : List Cl2) (c : Cl2) (k : K4) : idsK (cls ++ [c]) k = idsK cls k ++ (if prd2 c.2 = k.1 ∧ (own2 c.2 = none ∨ own2 c.2 = some k.2) then [cls.length] else []) := by
  unfold idsK; rw [selF_snoc]; simp

/-- Of a predicate whose key is nobody's own: the bucket would be the open clauses. -/
theorem idsK_open {cls : List Cl2} {k : K4} (h : ∀ c ∈ cls, ¬ (prd2 c.2 = k.1 ∧ own2 c.2 = some k.2)) : idsK cls k = idsO cls k.1 := by
  unfold idsK idsO
  refine selF_congr (fun c hc => ?_)
  have := h c hc
  by_cases hp : prd2 c.2 = k.1
  · have ho : ¬ own2 c.2 = some k.2 := fun hx => this ⟨hp, hx⟩
    simp [hp, ho]
  · simp [hp]

theorem keys_ups {α : Type} [DecidableEq α] {l : List (α × Value)} {a : α} {v : Value} : (ups l a v).map (·.1) = if a ∈ l.map (·.1) then l.map (·.1) else l.map (·.1) ++ [a] := by
  unfold ups
  cases hl : look l a with
  | none => rw [if_neg (look_none.1 hl)]; simp
  | some q =>
    obtain ⟨i, v'⟩ := q
    have hi := look_spec l a i v' hl
    have hm : a ∈ l.map (·.1) := List.mem_map.2 ⟨(a, v'), List.mem_of_getElem? hi, rfl⟩
    rw [if_pos hm]
    apply List.ext_getElem?
    intro j
    simp only [List.getElem?_map, List.getElem?_set]
    by_cases hij : i = j
    · subst hij; rw [hi]; simp [(List.getElem?_eq_some_iff.1 hi).1]
    · rw [if_neg hij]

theorem nodup_ups {α : Type} [DecidableEq α] {l : List (α × Value)} {a : α} {v : Value} (h : (l.map (·.1)).Nodup) : ((ups l a v).map (·.1)).Nodup := by
  rw [keys_ups]
  split
  · exact h
  · rename_i hm
    rw [List.nodup_append]
    refine ⟨h, by simp, ?_⟩
    intro x hx y hy
    simp at hy; subst hy
    exact fun hxy => hm (hxy ▸ hx)

theorem mem_keys_ups {α : Type} [DecidableEq α] {l : List (α × Value)} {a b : α} {v : Value} : b ∈ (ups l a v).map (·.1) ↔ b ∈ l.map (·.1) ∨ b = a := by
  rw [keys_ups]
  split
  · rename_i h
    constructor
    · exact .inl
    · rintro (h' | rfl)
      · exact h'
      · exact h
  · simp

theorem perm_get {β : Type} : ∀ (l : List β) (i : Nat) (h : i < l.length), (l[i] :: l.eraseIdx i).Perm l
  | [], i, h => by simp at h
  | a :: l, 0, h => by simp
  | a :: l, i + 1, h => by
    have := perm_get l i (by simpa using h)
    simp only [List.getElem_cons_succ, List.eraseIdx_cons_succ]
    exact (List.Perm.swap _ _ _).trans (this.cons a)

theorem perm_set {β : Type} : ∀ (l : List β) (i : Nat) (x : β) (h : i < l.length), (l.set i x).Perm (x :: l.eraseIdx i)
  | [], i, x, h => by simp at h
  | a :: l, 0, x, h => by simp
  | a :: l, i + 1, x, h => by
    have := perm_set l i x (by simpa using h)
    simp only [List.set_cons_succ, List.eraseIdx_cons_succ]
    exact (this.cons a).trans (List.Perm.swap _ _ _)

/-- One bucket of a map is taken, and laid back longer. -/
theorem bks_up {α : Type} [DecidableEq α] {H : Array Obj} {l : List (α × Value)} {ids ids' : α → List Nat} {a : α} {n : Nat} {R : List (Value × List Nat)} (h : BKS H (l.map (fun p => (p.2, ids p.1)) ++ R)) (nd : (l.map (·.1)).Nodup) (hne : a ∉ l.map (·.1) → ids a = [])
    (hs : ∀ k, k ≠ a → ids' k = ids k) (ha : ids' a = ids a ++ [n]) :
    ∃ rest, BKS H (((lookV l a).getD (.slice none 0 0), ids a) :: (rest ++ R)) ∧ (∀ p ∈ rest, p ∈ l.map (fun p => (p.2, ids p.1))) ∧ ∀ H' v', BKS H' ((v', ids a ++ [n]) :: (rest ++ R)) → BKS H' ((ups l a v').map (fun p => (p.2, ids' p.1)) ++ R) := by
  cases hl : look l a with
  | none =>
    have hm := look_none.1 hl
    refine ⟨l.map (fun p => (p.2, ids p.1)), ?_, fun p hp => hp, ?_⟩
    · simp only [lookV, hl, Option.map_none, Option.getD_none]
      rw [hne hm]
      refine ⟨?_, List.pairwise_cons.2 ⟨(fun p _ b hb => by cases hb), h.dj⟩⟩
      intro p hp
      rcases List.mem_cons.1 hp with rfl | hp
      · exact Bk.nil _
      · exact h.bk p hp
    · intro H' v' hb
      have e1 : (ups l a v').map (fun p => (p.2, ids' p.1)) = l.map (fun p => (p.2, ids p.1)) ++ [(v', ids a ++ [n])] := by
        unfold ups
        rw [hl]
        simp only [List.map_append, List.map_cons, List.map_nil, ha]
        congr 1
        refine List.map_congr_left (fun p hp => ?_)
        rw [hs p.1 (fun hx => hm (by rw [← hx]; exact List.mem_map_of_mem hp))]
      rw [e1]
      refine hb.perm ?_
      rw [List.append_assoc]
      exact List.perm_middle.symm
  | some q =>
    obtain ⟨i, v⟩ := q
    have hi := look_spec l a i v hl
    have hil := (List.getElem?_eq_some_iff.1 hi).1
    have hie := (List.getElem?_eq_some_iff.1 hi).2
    refine ⟨(l.map (fun p => (p.2, ids p.1))).eraseIdx i, ?_, fun p hp => List.mem_of_mem_eraseIdx hp, ?_⟩
    · simp only [lookV, hl, Option.map_some, Option.getD_some]
      refine h.perm ?_
      have hp := perm_get (l.map (fun p => (p.2, ids p.1))) i (by simpa using hil)
      have e : (l.map (fun p => (p.2, ids p.1)))[i]'(by simpa using hil) = (v, ids a) := by simp [hie]
      rw [e] at hp
      exact (hp.append_right R).symm
    · intro H' v' hb
      refine hb.perm ?_
      have e1 : (ups l a v').map (fun p => (p.2, ids' p.1)) = (l.map (fun p => (p.2, ids p.1))).set i (v', ids a ++ [n]) := by
        unfold ups
        rw [hl]
        apply List.ext_getElem?
        intro j
        simp only [List.getElem?_map, List.getElem?_set, List.length_map]
        by_cases hij : i = j
        · subst hij; simp [hil, ha]
        · rw [if_neg hij, if_neg hij]
          cases hj : l[j]? with
          | none => rfl
          | some p =>
            simp only [Option.map_some]
            rw [hs p.1]
            intro hx
            have := look_of_get nd (i := j) (a := a) (v := p.2) (by rw [hj, ← hx])
            rw [hl] at this
            simp at this
            exact hij this.1
      rw [e1]
      have hp := perm_set (l.map (fun p => (p.2, ids p.1))) i (v', ids a ++ [n]) (by simpa using hil)
      exact (hp.append_right R).symm

section
variable {α : Type} [DecidableEq α] {P : Program} {kt : TypeId} {kv : α → Value} {n : Nat} {e : Nat → Option Value} {ds : List Deferred} {w : World} {ops : Array Oper} {Q : Exit → Act → World → Prop}
  {d : Nat} {ty : TypeId} {ps : String} {af : Array Edge} {S : World → Prop} {last i : Nat} {r : List (Nat × Bool)}

theorem ql_mapEntry {t et rr : Nat} {x y : Operand} {a : α} {z : Value} {l : List (α × Value)} (hi : ops[i]? = some ⟨some d, .mapEntry t x y, ty, ps, af, none⟩) (hK : KeyT P kt kv) (hx : evO n e x = some (.map (some rr))) (hy : evO n e y = some (kv a)) (ht : P.underlying t = some (.map kt et)) (hz : (P.info? et).bind (·.zero) = some z) (hM : MapAt kv w.heap rr l)
    (K : ∀ w1 st j l1, (∃ bs c, MapC kv w1.heap rr l1 bs c ∧ bs[j]? = some st) → l1[j]? = some (a, (lookV l a).getD z) → (∀ v, l1.set j (a, v) = ups l a v) → Fram (fun b => b = rr) w w1 → S w1 ∧ WQ P ops Q S last r (Fr n (upd e d (.tuple #[(lookV l a).getD z, .int .i64 (st : Nat)])) ds) w1) :
    WQ P ops Q S last ((i, true) :: r) (Fr n e ds) w := by
  obtain ⟨w1, st, j, l1, h1, h2, h3, h4, h5⟩ := eo_mapEntry (P := P) hK hx hy ht hz hM
  exact ql_eo hi h1 (K w1 st j l1 h2 h3 h4 h5).1 (K w1 st j l1 h2 h3 h4 h5).2

set_option linter.unusedSectionVars false in
theorem ql_lastEnt {t rr j st : Nat} {x y z : Operand} {a : α} {v v0 : Value} {l : List (α × Value)} {bs : List Nat} {c : Nat} (hi : ops[last]? = some ⟨none, .entryStore t x y z, ty, ps, af, none⟩) (hx : evO n e x = some (.map (some rr))) (hy : evO n e y = some (.int .i64 (st : Nat))) (hz : evO n e z = some v) (hM : MapC kv w.heap rr l bs c) (hb : bs[j]? = some st) (hl : l[j]? = some (a, v0))
    (K : ∀ w1, MapAt kv w1.heap rr (l.set j (a, v)) → Fram (fun b => b = rr) w w1 → Q .normal (Fr n e ds) w1) : WQ P ops Q S last [] (Fr n e ds) w := by
  obtain ⟨w1, h1, h2, h3⟩ := so_entryStore (P := P) (t := t) hx hy hz hM hb hl
  exact ql_last hi h1 (K w1 h2.at h3)

theorem ql_lastMapUp {t et rr : Nat} {x y z : Operand} {a : α} {v : Value} {l : List (α × Value)} (hi : ops[last]? = some ⟨none, .mapUpdate t x y z, ty, ps, af, none⟩) (hK : KeyT P kt kv) (hx : evO n e x = some (.map (some rr))) (hy : evO n e y = some (kv a)) (hz : evO n e z = some v) (ht : P.underlying t = some (.map kt et)) (hM : MapAt kv w.heap rr l)
    (K : ∀ w1, MapAt kv w1.heap rr (ups l a v) → Fram (fun b => b = rr) w w1 → Q .normal (Fr n e ds) w1) : WQ P ops Q S last [] (Fr n e ds) w := by
  obtain ⟨w1, h1, h2, h3⟩ := so_mapUpdate (P := P) hK hx hy hz ht hM
  exact ql_last hi h1 (K w1 h2 h3)

theorem ql_lastMapUpC {t et rr j : Nat} {x y z : Operand} {a : α} {v v0 : Value} {l : List (α × Value)} {bs : List Nat} {c : Nat} (hi : ops[last]? = some ⟨none, .mapUpdate t x y z, ty, ps, af, none⟩) (hK : KeyT P kt kv) (hx : evO n e x = some (.map (some rr))) (hy : evO n e y = some (kv a)) (hz : evO n e z = some v) (ht : P.underlying t = some (.map kt et)) (hM : MapC kv w.heap rr l bs c) (hl : look l a = some (j, v0))
    (K : ∀ w1, MapC kv w1.heap rr (l.set j (a, v)) bs c → Fram (fun b => b = rr) w w1 → Q .normal (Fr n e ds) w1) : WQ P ops Q S last [] (Fr n e ds) w := by
  obtain ⟨w1, h1, h2, h3⟩ := so_mapUpC (P := P) hK hx hy hz ht hM hl
  exact ql_last hi h1 (K w1 h2 h3)

end

/-- The index in memory. -/
structure IX (H : Array Obj) (pb : Nat) (VC : Value) (a o k : Nat) (cls : List Cl2) (la lo : List (K2 × Value)) (lk : List (K4 × Value)) : Prop where
  ao : a ≠ o
  ak : a ≠ k
  ok : o ≠ k
  blk : Blk H pb [VC, .map (some a), .map (some o), .map (some k)] 74
  ma : MapAt k2c H a la
  mo : MapAt k2c H o lo
  mkk : MapAt k4c H k lk
  na : (la.map (·.1)).Nodup
  no : (lo.map (·.1)).Nodup
  nk : (lk.map (·.1)).Nodup
  bk : BKS H (la.map (fun p => (p.2, idsA cls p.1)) ++ (lo.map (fun p => (p.2, idsO cls p.1)) ++ lk.map (fun p => (p.2, idsK cls p.1))))
  ka : ∀ f, f ∉ la.map (·.1) → idsA cls f = []
  ko : ∀ f, f ∉ lo.map (·.1) → idsO cls f = []
  kk : ∀ q : K4, q ∉ lk.map (·.1) → ∀ c ∈ cls, ¬ (prd2 c.2 = q.1 ∧ own2 c.2 = some q.2)

end Go.Proofs.Qxb6500569aGreat
