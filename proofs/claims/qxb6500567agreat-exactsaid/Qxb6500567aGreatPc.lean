import Derived.Test.Qxb6500567aGreatPb
/- The lock-step machine, plain: it finds the first road. -/
namespace Go.Proofs.Qxb6500567aGreat
set_option linter.unusedVariables false
set_option linter.unusedSimpArgs false

/-- An entry of a thread list: an instruction and, where it waits, its captures. -/
abbrev Ent := Nat × List Int
abbrev pcs (l : List Ent) : List Nat := l.map Prod.fst

/-- A frame of the stack: an instruction to try, or a slot to put back. -/
abbrev Frm := Nat ⊕ (Nat × Int)
abbrev Frm.go (pc : Nat) : Frm := .inl pc
abbrev Frm.put (k : Nat) (v : Int) : Frm := .inr (k, v)

/-- The machine that follows what takes no byte. -/
structure ASt where
  l : List Ent
  st : List Frm
  reg : List Int

/-- One instruction comes on the list. -/
def follow (p : List Ins) (n i : Nat) (l : List Ent) (st : List Frm) (reg : List Int) (pc : Nat) : ASt :=
  match p[pc]? with
  | some (.inr (.inr (.inl x))) => ⟨l ++ [(pc, [])], .go x :: st, reg⟩
  | some (.inr (.inl (x, y))) => ⟨l ++ [(pc, [])], .go x :: .go y :: st, reg⟩
  | some (.inr (.inr (.inr (.inl k)))) => ⟨l ++ [(pc, [])], .go (pc + 1) :: .put k (reg.getD k 0) :: st, reg.set k i⟩
  | some (.inr (.inr (.inr (.inr (.inl ()))))) => ⟨l ++ [(pc, [])], if i = 0 then .go (pc + 1) :: st else st, reg⟩
  | some (.inr (.inr (.inr (.inr (.inr (.inl ())))))) => ⟨l ++ [(pc, [])], if i = n then .go (pc + 1) :: st else st, reg⟩
  | _ => ⟨l ++ [(pc, reg)], st, reg⟩

def arun (p : List Ins) (n i : Nat) : Nat → ASt → Option ASt
  | _, ⟨l, [], reg⟩ => some ⟨l, [], reg⟩
  | 0, _ => none
  | m + 1, ⟨l, .inr (k, v) :: st, reg⟩ => arun p n i m ⟨l, st, reg.set k v⟩
  | m + 1, ⟨l, .inl pc :: st, reg⟩ => if pc ∈ pcs l then arun p n i m ⟨l, st, reg⟩ else arun p n i m (follow p n i l st reg pc)

/-- The same, by recursion. -/
def dfs (p : List Ins) (n i : Nat) : Nat → List Ent → Nat → List Int → Option (List Ent)
  | 0, _, _, _ => none
  | f + 1, l, pc, c => if pc ∈ pcs l then some l else match p[pc]? with
    | some (.inr (.inr (.inl x))) => dfs p n i f (l ++ [(pc, [])]) x c
    | some (.inr (.inl (x, y))) => match dfs p n i f (l ++ [(pc, [])]) x c with
      | none => none
      | some l1 => dfs p n i f l1 y c
    | some (.inr (.inr (.inr (.inl k)))) => dfs p n i f (l ++ [(pc, [])]) (pc + 1) (c.set k i)
    | some (.inr (.inr (.inr (.inr (.inl ()))))) => if i = 0 then dfs p n i f (l ++ [(pc, [])]) (pc + 1) c else some (l ++ [(pc, [])])
    | some (.inr (.inr (.inr (.inr (.inr (.inl ())))))) => if i = n then dfs p n i f (l ++ [(pc, [])]) (pc + 1) c else some (l ++ [(pc, [])])
    | _ => some (l ++ [(pc, c)])

theorem arun_nil {p : List Ins} {n i m : Nat} {l : List Ent} {reg : List Int} : arun p n i m ⟨l, [], reg⟩ = some ⟨l, [], reg⟩ := by
  cases m <;> rfl

theorem set_back (c : List Int) (k : Nat) (v : Int) : (c.set k v).set k (c.getD k 0) = c := by
  rw [List.set_set]
  by_cases h : k < c.length
  · have hg : c.getD k 0 = c[k] := by simp [List.getD, h]
    rw [hg, List.set_getElem_self]
  · exact List.set_eq_of_length_le (by omega)

theorem dfs_arun {p : List Ins} {n i : Nat} : ∀ {f : Nat} {l : List Ent} {pc : Nat} {c : List Int} {l' : List Ent}, dfs p n i f l pc c = some l' →
    ∃ m, ∀ m' st, arun p n i (m' + m) ⟨l, .go pc :: st, c⟩ = arun p n i m' ⟨l', st, c⟩ := by
  intro f
  induction f with
  | zero => intro l pc c l' h; simp [dfs] at h
  | succ f ih =>
    intro l pc c l' h
    unfold dfs at h
    by_cases hm : pc ∈ pcs l
    · rw [if_pos hm] at h
      cases h
      refine ⟨1, fun m' st => ?_⟩
      show (if pc ∈ pcs l then _ else _) = _
      rw [if_pos hm]
    · rw [if_neg hm] at h
      have step : ∀ m' st, arun p n i (m' + 1) ⟨l, .go pc :: st, c⟩ = arun p n i m' (follow p n i l st c pc) := by
        intro m' st
        show (if pc ∈ pcs l then _ else _) = _
        rw [if_neg hm]
      have leaf : ∀ e : Ent, (∀ st, follow p n i l st c pc = ⟨l ++ [e], st, c⟩) → some (l ++ [e]) = some l' → ∃ m, ∀ m' st, arun p n i (m' + m) ⟨l, .go pc :: st, c⟩ = arun p n i m' ⟨l', st, c⟩ := by
        intro e he hl
        cases hl
        exact ⟨1, fun m' st => by rw [step, he]⟩
      have one : ∀ x, (∀ st, follow p n i l st c pc = ⟨l ++ [(pc, [])], .go x :: st, c⟩) → dfs p n i f (l ++ [(pc, [])]) x c = some l' → ∃ m, ∀ m' st, arun p n i (m' + m) ⟨l, .go pc :: st, c⟩ = arun p n i m' ⟨l', st, c⟩ := by
        intro x hx hd
        obtain ⟨m, hm⟩ := ih hd
        exact ⟨m + 1, fun m' st => by rw [← Nat.add_assoc, step, hx, hm]⟩
      cases hp : p[pc]? with
      | none => rw [hp] at h; exact leaf _ (fun st => by simp [follow, hp]) h
      | some ins =>
        rw [hp] at h
        cases ins using insCases with
        | chr S => exact leaf _ (fun st => by simp [follow, hp]) h
        | mat => exact leaf _ (fun st => by simp [follow, hp]) h
        | jmp x => exact one x (fun st => by simp [follow, hp]) h
        | split x y =>
          simp only at h
          cases hx : dfs p n i f (l ++ [(pc, [])]) x c with
          | none => rw [hx] at h; simp at h
          | some l1 =>
            rw [hx] at h
            obtain ⟨m1, h1⟩ := ih hx
            obtain ⟨m2, h2⟩ := ih h
            refine ⟨m2 + m1 + 1, fun m' st => ?_⟩
            rw [show m' + (m2 + m1 + 1) = m' + m2 + m1 + 1 by omega, step]
            simp only [follow, hp]
            rw [h1, h2]
        | save k =>
          obtain ⟨m1, h1⟩ := ih h
          refine ⟨1 + m1 + 1, fun m' st => ?_⟩
          rw [show m' + (1 + m1 + 1) = m' + 1 + m1 + 1 by omega, step]
          simp only [follow, hp]
          rw [h1]
          show arun p n i m' ⟨l', st, (c.set k i).set k (c.getD k 0)⟩ = _
          rw [set_back]
        | bgn =>
          simp only at h
          by_cases hb : i = 0
          · rw [if_pos hb] at h; exact one _ (fun st => by simp [follow, hp, hb]) h
          · rw [if_neg hb] at h; exact leaf _ (fun st => by simp [follow, hp, hb]) h
        | fin =>
          simp only at h
          by_cases hb : i = n
          · rw [if_pos hb] at h; exact one _ (fun st => by simp [follow, hp, hb]) h
          · rw [if_neg hb] at h; exact leaf _ (fun st => by simp [follow, hp, hb]) h

theorem dfs_succ {p : List Ins} {n i : Nat} : ∀ {f : Nat} {l : List Ent} {pc : Nat} {c : List Int} {l' : List Ent}, dfs p n i f l pc c = some l' → dfs p n i (f + 1) l pc c = some l' := by
  intro f
  induction f with
  | zero => intro l pc c l' h; simp [dfs] at h
  | succ f ih =>
    intro l pc c l' h
    unfold dfs at h ⊢
    split
    · rename_i hm; rw [if_pos hm] at h; exact h
    · rename_i hm
      rw [if_neg hm] at h
      cases hp : p[pc]? with
      | none => rw [hp] at h; exact h
      | some ins =>
        rw [hp] at h
        cases ins using insCases with
        | chr S => exact h
        | mat => exact h
        | jmp x => exact ih h
        | split x y =>
          simp only at h ⊢
          cases hx : dfs p n i f (l ++ [(pc, [])]) x c with
          | none => rw [hx] at h; simp at h
          | some l1 => rw [hx] at h; rw [ih hx]; exact ih h
        | save k => exact ih h
        | bgn =>
          simp only at h ⊢
          split
          · rename_i hb; rw [if_pos hb] at h; exact ih h
          · rename_i hb; rw [if_neg hb] at h; exact h
        | fin =>
          simp only at h ⊢
          split
          · rename_i hb; rw [if_pos hb] at h; exact ih h
          · rename_i hb; rw [if_neg hb] at h; exact h

/-- Does an instruction wait for a byte, or is it the match? -/
def waits (p : List Ins) (pc : Nat) : Bool := match p[pc]? with
  | some (.inl _) => true
  | some (.inr (.inr (.inr (.inr (.inr (.inr ())))))) => true
  | _ => false

/-- R tells the roads, where they are finite. -/
def IsRd (p : List Ins) (s : List UInt8) (R : Nat → Nat → List Int → List Way) : Prop := ∀ f pc i c L, roads p s f pc i c = some L → R pc i c = L

theorem rd_ex (p : List Ins) (s : List UInt8) : ∃ R, IsRd p s R := by
  have h : ∀ pc i c, ∃ M, ∀ f L, roads p s f pc i c = some L → M = L := by
    intro pc i c
    by_cases hex : ∃ L f, roads p s f pc i c = some L
    · obtain ⟨M, f, hM⟩ := hex
      exact ⟨M, fun f' L hL => roads_det hM hL⟩
    · exact ⟨[], fun f L hL => absurd ⟨L, f, hL⟩ hex⟩
  exact ⟨fun pc i c => Classical.choose (h pc i c), fun f pc i c L hL => Classical.choose_spec (h pc i c) f L hL⟩

theorem rd_eq {p : List Ins} {s : List UInt8} {R : Nat → Nat → List Int → List Way} (hR : IsRd p s R) {f pc i : Nat} {c : List Int} {L : List Way} (h : roads p s f pc i c = some L) : R pc i c = L := hR f pc i c L h

/-- Finite, whatever the captures. -/
def Dfd (p : List Ins) (s : List UInt8) (pc i : Nat) : Prop := ∃ f L, roads p s f pc i [] = some L

theorem Dfd.of {p : List Ins} {s : List UInt8} {f pc i : Nat} {c : List Int} {L : List Way} (h : roads p s f pc i c = some L) : Dfd p s pc i := by
  obtain ⟨L', h', _⟩ := roads_ends (d := []) h
  exact ⟨f, L', h'⟩

theorem Dfd.get {p : List Ins} {s : List UInt8} {R : Nat → Nat → List Int → List Way} (hR : IsRd p s R) {pc i : Nat} (h : Dfd p s pc i) (c : List Int) : ∃ f, roads p s f pc i c = some (R pc i c) := by
  obtain ⟨f, L, h⟩ := h
  obtain ⟨L', h', _⟩ := roads_ends (d := c) h
  exact ⟨f, by rw [rd_eq hR h']; exact h'⟩

theorem rd_nil {p : List Ins} {s : List UInt8} {R : Nat → Nat → List Int → List Way} (hR : IsRd p s R) {pc i : Nat} {c d : List Int} (hD : Dfd p s pc i) (h : R pc i c = []) : R pc i d = [] := by
  obtain ⟨f, hf⟩ := hD.get hR c
  obtain ⟨L', h', he⟩ := roads_ends (d := d) hf
  rw [rd_eq hR h']
  rw [h] at he
  simpa [ends] using he

/-- What a list leads to. -/
def val (p : List Ins) (R : Nat → Nat → List Int → List Way) (i : Nat) (l : List Ent) : List Way := l.flatMap (fun e => if waits p e.1 then R e.1 i e.2 else [])

theorem val_app (p : List Ins) (R : Nat → Nat → List Int → List Way) (i : Nat) (A B : List Ent) : val p R i (A ++ B) = val p R i A ++ val p R i B := by
  simp [val]

theorem val_one {p : List Ins} {R : Nat → Nat → List Int → List Way} {i : Nat} {e : Ent} : val p R i [e] = if waits p e.1 then R e.1 i e.2 else [] := by
  simp [val]

theorem head_app (A B : List Way) : (A ++ B).head? = A.head?.or B.head? := by
  cases A <;> simp

theorem nil_of_head {A B : List Way} (h : ([] : List Way).head? = (A ++ B).head?) : B = [] := by
  cases A with
  | cons x xs => simp at h
  | nil => cases B with
    | nil => rfl
    | cons y ys => simp at h

/-- What a search leaves: the list grew, its head is right, all that is new is done. -/
theorem dfs_ok {p : List Ins} {s : List UInt8} {R : Nat → Nat → List Int → List Way} (hR : IsRd p s R) {i : Nat} : ∀ (f : Nat) (l : List Ent) (pc : Nat) (c : List Int) (L : List Way), roads p s f pc i c = some L →
    (∀ e ∈ l, (∃ L, roads p s f e.1 i [] = some L) → val p R i l = [] → R e.1 i [] = []) →
    ∃ l', dfs p s.length i f l pc c = some l' ∧ (∃ t, l' = l ++ t) ∧ (val p R i l').head? = (val p R i l ++ L).head? ∧ (∀ e ∈ l', e ∈ l ∨ Dfd p s e.1 i ∧ (val p R i l' = [] → R e.1 i [] = [])) ∧ pc ∈ pcs l' := by
  intro f
  induction f with
  | zero => intro l pc c L h; simp [roads] at h
  | succ f ih =>
    intro l pc c L h hdone
    by_cases hlow : ∃ L', roads p s f pc i c = some L'
    · obtain ⟨L', hL'⟩ := hlow
      cases roads_det (roads_succ hL') h
      obtain ⟨l', h1, h2⟩ := ih l pc c _ hL' (fun e he ⟨L, hL⟩ => hdone e he ⟨L, roads_succ hL⟩)
      exact ⟨l', dfs_succ h1, h2⟩
    have hlow' : ∀ L', roads p s f pc i [] ≠ some L' := fun L' h' => by
      obtain ⟨L2, h2, _⟩ := roads_ends (d := c) h'
      exact hlow ⟨L2, h2⟩
    have hD : Dfd p s pc i := Dfd.of h
    have hLnil : L = [] ↔ R pc i [] = [] := by
      constructor
      · intro hL; exact rd_nil hR hD (c := c) (by rw [rd_eq hR h]; exact hL)
      · intro hr; rw [← rd_eq hR h]; exact rd_nil hR hD hr
    by_cases hm : pc ∈ pcs l
    · refine ⟨l, by unfold dfs; rw [if_pos hm], ⟨[], by simp⟩, ?_, fun e he => .inl he, hm⟩
      obtain ⟨e, he, rfl⟩ := List.mem_map.1 hm
      rw [head_app]
      cases hv : val p R i l with
      | cons x xs => simp
      | nil =>
        obtain ⟨L2, h2, _⟩ := roads_ends (d := []) h
        have := hdone e he ⟨L2, h2⟩ hv
        rw [hLnil.2 this]
        simp
    · -- an entry that takes no byte, then one more search
      have leaf : ∀ e : Ent, e.1 = pc → dfs p s.length i (f + 1) l pc c = some (l ++ [e]) → val p R i [e] = L →
          ∃ l', dfs p s.length i (f + 1) l pc c = some l' ∧ (∃ t, l' = l ++ t) ∧ (val p R i l').head? = (val p R i l ++ L).head? ∧ (∀ e ∈ l', e ∈ l ∨ Dfd p s e.1 i ∧ (val p R i l' = [] → R e.1 i [] = [])) ∧ pc ∈ pcs l' := by
        intro e he hd hv
        refine ⟨_, hd, ⟨_, rfl⟩, by rw [val_app, hv], ?_, by simp [he]⟩
        intro e' he'
        rcases List.mem_append.1 he' with h' | h'
        · exact .inl h'
        · simp at h'
          subst h'
          refine .inr ⟨by rw [he]; exact hD, fun hvv => ?_⟩
          rw [val_app, hv] at hvv
          rw [he]
          exact hLnil.1 (List.append_eq_nil_iff.1 hvv).2
      have hw0 : ∀ e : Ent, e.1 = pc → waits p pc = false → val p R i [e] = [] := by
        intro e he hw; rw [val_one, he, hw]; rfl
      have hdone1 : waits p pc = false → ∀ e ∈ l ++ [((pc, []) : Ent)], (∃ L, roads p s f e.1 i [] = some L) → val p R i (l ++ [(pc, [])]) = [] → R e.1 i [] = [] := by
        intro hw e he ⟨L1, hL1⟩ hv
        rw [val_app, hw0 _ rfl hw, List.append_nil] at hv
        rcases List.mem_append.1 he with h' | h'
        · exact hdone e h' ⟨L1, roads_succ hL1⟩ hv
        · simp at h'
          subst h'
          exact absurd hL1 (hlow' L1)
      have one : ∀ x d, waits p pc = false → dfs p s.length i (f + 1) l pc c = dfs p s.length i f (l ++ [(pc, [])]) x d → roads p s f x i d = some L →
          ∃ l', dfs p s.length i (f + 1) l pc c = some l' ∧ (∃ t, l' = l ++ t) ∧ (val p R i l').head? = (val p R i l ++ L).head? ∧ (∀ e ∈ l', e ∈ l ∨ Dfd p s e.1 i ∧ (val p R i l' = [] → R e.1 i [] = [])) ∧ pc ∈ pcs l' := by
        intro x d hw hd hr
        obtain ⟨l', h1, ⟨t, ht⟩, h3, h4, _⟩ := ih _ x d L hr (hdone1 hw)
        rw [val_app, hw0 _ rfl hw, List.append_nil] at h3
        refine ⟨l', by rw [hd]; exact h1, ⟨[(pc, [])] ++ t, by rw [ht]; simp⟩, h3, ?_, by rw [ht]; simp⟩
        intro e he
        rcases h4 e he with h' | h'
        · rcases List.mem_append.1 h' with h'' | h''
          · exact .inl h''
          · simp at h''
            subst h''
            refine .inr ⟨hD, fun hv => hLnil.1 ?_⟩
            rw [hv] at h3
            exact nil_of_head h3
        · exact .inr h'
      unfold roads at h
      cases hp : p[pc]? with
      | none => rw [hp] at h; simp at h
      | some ins =>
        rw [hp] at h
        have hwt : ∀ c', roads p s (f + 1) pc i c' = some (R pc i c') → True := fun _ _ => trivial
        cases ins using insCases with
        | chr S =>
          refine leaf (pc, c) rfl (by unfold dfs; rw [if_neg hm, hp]) ?_
          rw [val_one]
          simp only [waits, hp, if_true]
          exact rd_eq hR (f := f + 1) (by unfold roads; rw [hp]; exact h)
        | mat =>
          refine leaf (pc, c) rfl (by unfold dfs; rw [if_neg hm, hp]) ?_
          rw [val_one]
          simp only [waits, hp, if_true]
          exact rd_eq hR (f := f + 1) (by unfold roads; rw [hp]; exact h)
        | jmp x => exact one x c (by simp [waits, hp]) (by conv => lhs; unfold dfs
                                                           rw [if_neg hm, hp]) h
        | save k => exact one (pc + 1) (c.set k i) (by simp [waits, hp]) (by conv => lhs; unfold dfs
                                                                             rw [if_neg hm, hp]) h
        | bgn =>
          simp only at h
          have hw : waits p pc = false := by simp [waits, hp]
          by_cases hb : i = 0
          · rw [if_pos hb] at h
            exact one (pc + 1) c hw (by conv => lhs; unfold dfs
                                        rw [if_neg hm, hp]; simp [hb]) h
          · rw [if_neg hb] at h
            refine leaf (pc, []) rfl (by unfold dfs; rw [if_neg hm, hp]; simp [hb]) ?_
            rw [hw0 _ rfl hw]
            exact Option.some.inj h
        | fin =>
          simp only at h
          have hw : waits p pc = false := by simp [waits, hp]
          by_cases hb : i = s.length
          · rw [if_pos hb] at h
            exact one (pc + 1) c hw (by conv => lhs; unfold dfs
                                        rw [if_neg hm, hp]; simp [hb]) h
          · rw [if_neg hb] at h
            refine leaf (pc, []) rfl (by unfold dfs; rw [if_neg hm, hp]; simp [hb]) ?_
            rw [hw0 _ rfl hw]
            exact Option.some.inj h
        | split x y =>
          simp only at h
          have hw : waits p pc = false := by simp [waits, hp]
          cases hx : roads p s f x i c with
          | none => rw [hx] at h; simp at h
          | some A =>
            rw [hx] at h
            cases hy : roads p s f y i c with
            | none => rw [hy] at h; simp at h
            | some B =>
              rw [hy] at h
              simp only [Option.some.injEq] at h
              subst h
              obtain ⟨l1, a1, ⟨t1, at1⟩, a3, a4, _⟩ := ih _ x c A hx (hdone1 hw)
              rw [val_app, hw0 _ rfl hw, List.append_nil] at a3
              obtain ⟨l2, b1, ⟨t2, bt2⟩, b3, b4, _⟩ := ih l1 y c B hy (by
                intro e he hr hv
                rcases a4 e he with h' | h'
                · refine hdone1 hw e h' hr ?_
                  rw [at1, val_app] at hv
                  exact (List.append_eq_nil_iff.1 hv).1
                · exact h'.2 hv)
              have hhead : (val p R i l2).head? = (val p R i l ++ (A ++ B)).head? := by
                rw [b3, head_app, a3, ← List.append_assoc, ← head_app]
              refine ⟨l2, ?_, ⟨[(pc, [])] ++ t1 ++ t2, by rw [bt2, at1]; simp⟩, hhead, ?_, by rw [bt2, at1]; simp⟩
              · unfold dfs
                rw [if_neg hm, hp]
                simp only
                rw [a1]
                exact b1
              · intro e he
                rcases b4 e he with h' | h'
                · rcases a4 e h' with h'' | h''
                  · rcases List.mem_append.1 h'' with h3 | h3
                    · exact .inl h3
                    · simp at h3
                      subst h3
                      refine .inr ⟨hD, fun hv => hLnil.1 ?_⟩
                      rw [hv] at hhead
                      exact nil_of_head hhead
                  · refine .inr ⟨h''.1, fun hv => h''.2 ?_⟩
                    rw [bt2, val_app] at hv
                    exact (List.append_eq_nil_iff.1 hv).1
                · exact .inr h'

/-- A list that is whole: nothing on it is still under way. -/
def Full (p : List Ins) (s : List UInt8) (R : Nat → Nat → List Int → List Way) (i : Nat) (l : List Ent) : Prop := ∀ e ∈ l, Dfd p s e.1 i ∧ (val p R i l = [] → R e.1 i [] = [])

/-- The call that brings a road on a list. -/
def AddR (p : List Ins) (n i : Nat) (l : List Ent) (pc : Nat) (c : List Int) (l' : List Ent) : Prop := ∃ m, arun p n i m ⟨l, [.go pc], c⟩ = some ⟨l', [], c⟩

theorem add_ok {p : List Ins} {s : List UInt8} {R : Nat → Nat → List Int → List Way} (hR : IsRd p s R) {i : Nat} {l : List Ent} (hF : Full p s R i l) {pc : Nat} (hD : Dfd p s pc i) (c : List Int) :
    ∃ l', AddR p s.length i l pc c l' ∧ Full p s R i l' ∧ (val p R i l').head? = (val p R i l ++ R pc i c).head? ∧ l' ≠ [] := by
  obtain ⟨f, hf⟩ := hD.get hR c
  obtain ⟨l', h1, ⟨t, ht⟩, h3, h4, h5⟩ := dfs_ok hR f l pc c _ hf (fun e he _ hv => (hF e he).2 hv)
  obtain ⟨m, hm⟩ := dfs_arun h1
  refine ⟨l', ⟨0 + m, by rw [hm]; exact arun_nil⟩, ?_, h3, by rintro rfl; simp at h5⟩
  intro e he
  rcases h4 e he with h' | h'
  · refine ⟨(hF e h').1, fun hv => (hF e h').2 ?_⟩
    rw [ht, val_app] at hv
    exact (List.append_eq_nil_iff.1 hv).1
  · exact h'

/-- The byte at hand is played on the threads. -/
def StepR (p : List Ins) (s : List UInt8) (i : Nat) : List Ent → List Ent → List Ent → Option (List Int) → Prop
  | [], nl, nl2, w => nl2 = nl ∧ w = none
  | e :: es, nl, nl2, w => match p[e.1]? with
    | some (.inl S) => match s[i]? with
      | some b => if S.testBit b.toNat then ∃ nl1, AddR p s.length (i + 1) nl (e.1 + 1) e.2 nl1 ∧ StepR p s i es nl1 nl2 w else StepR p s i es nl nl2 w
      | none => StepR p s i es nl nl2 w
    | some (.inr (.inr (.inr (.inr (.inr (.inr ())))))) => nl2 = nl ∧ w = some (e.2.set 1 i)
    | _ => StepR p s i es nl nl2 w

/-- The answer that an option of a way bears. -/
def fin1 (x : Way) : List Int := x.2.set 1 x.1

theorem step_ok {p : List Ins} {s : List UInt8} {R : Nat → Nat → List Int → List Way} (hR : IsRd p s R) {i : Nat} (hi : i ≤ s.length) : ∀ (l nl : List Ent), (∀ e ∈ l, Dfd p s e.1 i) → (i < s.length → Full p s R (i + 1) nl) → (i = s.length → nl = []) →
    ∃ nl2 w, StepR p s i l nl nl2 w ∧ (i < s.length → Full p s R (i + 1) nl2) ∧ (i = s.length → nl2 = []) ∧ ((val p R (i + 1) nl ++ val p R i l).head?.map fin1) = ((val p R (i + 1) nl2).head?.map fin1).or w := by
  intro l
  induction l with
  | nil =>
    intro nl hD hF h0
    refine ⟨nl, none, ⟨rfl, rfl⟩, hF, h0, ?_⟩
    simp [val]
  | cons e es ih =>
    intro nl hD hF h0
    have hDe := hD e (by simp)
    have hDs : ∀ e ∈ es, Dfd p s e.1 i := fun e' he' => hD e' (by simp [he'])
    have hvc : val p R i (e :: es) = val p R i [e] ++ val p R i es := by rw [← val_app]; rfl
    obtain ⟨f, hf⟩ := hDe.get hR e.2
    cases f with
    | zero => simp [roads] at hf
    | succ f =>
      unfold roads at hf
      cases hp : p[e.1]? with
      | none => rw [hp] at hf; simp at hf
      | some ins =>
        rw [hp] at hf
        have pass : (∀ S, ins ≠ .chr S) → ins ≠ .mat → ∃ nl2 w, StepR p s i (e :: es) nl nl2 w ∧ (i < s.length → Full p s R (i + 1) nl2) ∧ (i = s.length → nl2 = []) ∧ ((val p R (i + 1) nl ++ val p R i (e :: es)).head?.map fin1) = ((val p R (i + 1) nl2).head?.map fin1).or w := by
          intro h1 h2
          obtain ⟨nl2, w, a1, a2, a3, a4⟩ := ih nl hDs hF h0
          refine ⟨nl2, w, ?_, a2, a3, ?_⟩
          · unfold StepR
            rw [hp]
            cases ins using insCases with
            | chr S => exact absurd rfl (h1 S)
            | mat => exact absurd rfl h2
            | _ => exact a1
          rw [hvc, val_one]
          have : waits p e.1 = false := by
            unfold waits
            rw [hp]
            cases ins using insCases with
            | chr S => exact absurd rfl (h1 S)
            | mat => exact absurd rfl h2
            | _ => rfl
          rw [this]
          simpa using a4
        cases ins using insCases with
        | mat =>
          refine ⟨nl, some (e.2.set 1 i), by unfold StepR; rw [hp]; exact ⟨rfl, rfl⟩, hF, h0, ?_⟩
          rw [hvc, val_one]
          have hw : waits p e.1 = true := by simp [waits, hp]
          rw [hw, if_pos rfl, ← Option.some.inj hf, head_app]
          cases (val p R (i + 1) nl).head? <;> simp [fin1]
        | chr S =>
          simp only at hf
          have hw : waits p e.1 = true := by simp [waits, hp]
          have skip : (∀ b, s[i]? = some b → S.testBit b.toNat = false) → R e.1 i e.2 = [] → ∃ nl2 w, StepR p s i (e :: es) nl nl2 w ∧ (i < s.length → Full p s R (i + 1) nl2) ∧ (i = s.length → nl2 = []) ∧ ((val p R (i + 1) nl ++ val p R i (e :: es)).head?.map fin1) = ((val p R (i + 1) nl2).head?.map fin1).or w := by
            intro h1 h2
            obtain ⟨nl2, w, a1, a2, a3, a4⟩ := ih nl hDs hF h0
            refine ⟨nl2, w, ?_, a2, a3, ?_⟩
            · unfold StepR
              rw [hp]
              simp only
              cases hsi : s[i]? with
              | none => exact a1
              | some b' =>
                simp only
                rw [if_neg (by rw [h1 b' hsi]; simp)]
                exact a1
            rw [hvc, val_one, hw, if_pos rfl, h2]
            simpa using a4
          cases hs : s[i]? with
          | none =>
            rw [hs] at hf
            exact skip (fun b hb => by rw [hs] at hb; cases hb) (Option.some.inj hf).symm
          | some b =>
            rw [hs] at hf
            have hlt := (List.getElem?_eq_some_iff.1 hs).1
            simp only at hf
            by_cases hb : S.testBit b.toNat = true
            · rw [if_pos hb] at hf
              obtain ⟨nl1, b1, b2, b3, _⟩ := add_ok hR (hF hlt) (Dfd.of hf) e.2
              obtain ⟨nl2, w, a1, a2, a3, a4⟩ := ih nl1 hDs (fun _ => b2) (fun h => by omega)
              refine ⟨nl2, w, ?_, a2, a3, ?_⟩
              · unfold StepR
                rw [hp]
                simp only [hs]
                rw [if_pos hb]
                exact ⟨nl1, b1, a1⟩
              rw [hvc, val_one, hw, if_pos rfl, ← a4, ← List.append_assoc]
              rw [head_app, head_app _ (val p R i es), b3, rd_eq hR hf]
            · rw [if_neg hb] at hf
              exact skip (fun b' hb' => by rw [hs] at hb'; cases hb'; simpa using hb) (Option.some.inj hf).symm
        | _ => exact pass (by simp) (by simp)

/-- The captures of a road that starts at i. -/
def c0 (i : Nat) : List Int := (List.replicate 8 (-1)).set 0 i

/-- The scan. -/
def ScanR (p : List Ins) (s : List UInt8) : Nat → Nat → List Ent → Option (List Int) → Option (List Int) → Prop
  | 0, _, _, h, r => r = h
  | m + 1, i, l, none, r => ∃ l1 nl w, AddR p s.length i l 0 (c0 i) l1 ∧ l1 ≠ [] ∧ StepR p s i l1 [] nl w ∧ ScanR p s m (i + 1) nl w r
  | m + 1, i, l, some h, r => (l = [] ∧ r = some h) ∨ (l ≠ [] ∧ ∃ nl w, StepR p s i l [] nl w ∧ ScanR p s m (i + 1) nl (w.or (some h)) r)

/-- All roads that start at i or behind it. -/
def starts (R : Nat → Nat → List Int → List Way) (s : List UInt8) (i : Nat) : List Way := (List.range' i (s.length + 1 - i)).flatMap (fun a => R 0 a (c0 a))

theorem starts_cons {R : Nat → Nat → List Int → List Way} {s : List UInt8} {i : Nat} (hi : i ≤ s.length) : starts R s i = R 0 i (c0 i) ++ starts R s (i + 1) := by
  unfold starts
  rw [show s.length + 1 - i = (s.length + 1 - (i + 1)) + 1 by omega, List.range'_succ]
  rfl

theorem full_nil (p : List Ins) (s : List UInt8) (R : Nat → Nat → List Int → List Way) (i : Nat) : Full p s R i [] := fun e he => by simp at he

theorem scan_ok {p : List Ins} {s : List UInt8} {R : Nat → Nat → List Int → List Way} (hR : IsRd p s R) (hD : ∀ i, i ≤ s.length → Dfd p s 0 i) : ∀ (m i : Nat) (l : List Ent) (h : Option (List Int)), s.length + 1 - i = m → i ≤ s.length + 1 → (i ≤ s.length → Full p s R i l) → (s.length < i → l = []) →
    ∃ r, ScanR p s m i l h r ∧ r = ((val p R i l ++ (if h = none then starts R s i else [])).head?.map fin1).or h := by
  intro m
  induction m with
  | zero =>
    intro i l h hm hi hF hl
    refine ⟨h, rfl, ?_⟩
    rw [hl (by omega)]
    have : starts R s i = [] := by unfold starts; rw [hm]; simp
    rw [this]
    simp [val]
  | succ m ih =>
    intro i l h hm hi hF hl
    have hi' : i ≤ s.length := by omega
    cases h with
    | none =>
      obtain ⟨l1, a1, a2, a3, a4⟩ := add_ok hR (hF hi') (hD i hi') (c0 i)
      obtain ⟨nl, w, b1, b2, b3, b4⟩ := step_ok hR hi' l1 [] (fun e he => (a2 e he).1) (fun _ => full_nil _ _ _ _) (fun _ => rfl)
      obtain ⟨r, c1, c2⟩ := ih (i + 1) nl w (by omega) (by omega) (fun h => b2 (by omega)) (fun h => b3 (by omega))
      refine ⟨r, ⟨l1, nl, w, a1, a4, b1, c1⟩, ?_⟩
      simp only [val, List.flatMap_nil, List.nil_append] at b4
      rw [show List.flatMap (fun e => if waits p e.1 = true then R e.1 i e.2 else []) l1 = val p R i l1 from rfl, show List.flatMap (fun e => if waits p e.1 = true then R e.1 (i + 1) e.2 else []) nl = val p R (i + 1) nl from rfl] at b4
      rw [if_pos rfl, starts_cons hi', ← List.append_assoc, head_app, ← a3, c2]
      cases w with
      | none =>
        simp only [Option.or_none] at b4
        rw [if_pos rfl, head_app]
        simp only [Option.or_none]
        cases hA : (val p R i l1).head? with
        | none =>
          rw [hA] at b4
          cases hB : (val p R (i + 1) nl).head? with
          | none => rfl
          | some x => rw [hB] at b4; simp at b4
        | some x =>
          rw [hA] at b4
          cases hB : (val p R (i + 1) nl).head? with
          | none => rw [hB] at b4; simp at b4
          | some y => rw [hB] at b4; simpa using b4.symm
      | some w =>
        rw [if_neg (by simp), List.append_nil, ← b4]
        have hne : (val p R i l1).head? ≠ none := by
          intro hn
          rw [hn] at b4
          cases hB : (val p R (i + 1) nl).head? <;> rw [hB] at b4 <;> simp at b4
        cases hA : (val p R i l1).head? with
        | none => exact absurd hA hne
        | some x => simp
    | some h =>
      by_cases hl0 : l = []
      · refine ⟨some h, .inl ⟨hl0, rfl⟩, ?_⟩
        rw [hl0]
        simp [val]
      · obtain ⟨nl, w, b1, b2, b3, b4⟩ := step_ok hR hi' l [] (fun e he => (hF hi' e he).1) (fun _ => full_nil _ _ _ _) (fun _ => rfl)
        obtain ⟨r, c1, c2⟩ := ih (i + 1) nl (w.or (some h)) (by omega) (by omega) (fun h => b2 (by omega)) (fun h => b3 (by omega))
        refine ⟨r, .inr ⟨hl0, nl, w, b1, c1⟩, ?_⟩
        simp only [val, List.flatMap_nil, List.nil_append] at b4
        rw [show List.flatMap (fun e => if waits p e.1 = true then R e.1 i e.2 else []) l = val p R i l from rfl, show List.flatMap (fun e => if waits p e.1 = true then R e.1 (i + 1) e.2 else []) nl = val p R (i + 1) nl from rfl] at b4
        rw [c2, if_neg (by simp), if_neg (by simp), List.append_nil, List.append_nil, b4]
        cases w <;> simp

end Go.Proofs.Qxb6500567aGreat
