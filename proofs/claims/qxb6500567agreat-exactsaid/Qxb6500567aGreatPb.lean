import Derived.Test.Qxb6500567aGreatPa
/- Programs: what they mean, and the code of a core tree. -/
namespace Go.Proofs.Qxb6500567aGreat
set_option linter.unusedVariables false
set_option linter.unusedSimpArgs false

/-- An instruction: a byte of a set; two roads; a jump; a slot; the begin; the end; the match. -/
abbrev Ins := Nat ⊕ (Nat × Nat) ⊕ Nat ⊕ Nat ⊕ Unit ⊕ Unit ⊕ Unit
abbrev Ins.chr (S : Cset) : Ins := .inl S
abbrev Ins.split (x y : Nat) : Ins := .inr (.inl (x, y))
abbrev Ins.jmp (x : Nat) : Ins := .inr (.inr (.inl x))
abbrev Ins.save (k : Nat) : Ins := .inr (.inr (.inr (.inl k)))
abbrev Ins.bgn : Ins := .inr (.inr (.inr (.inr (.inl ()))))
abbrev Ins.fin : Ins := .inr (.inr (.inr (.inr (.inr (.inl ())))))
abbrev Ins.mat : Ins := .inr (.inr (.inr (.inr (.inr (.inr ())))))

theorem insCases {P : Ins → Prop} (chr : ∀ S : Nat, P (.inl S)) (split : ∀ x y : Nat, P (.inr (.inl (x, y)))) (jmp : ∀ x : Nat, P (.inr (.inr (.inl x)))) (save : ∀ k : Nat, P (.inr (.inr (.inr (.inl k)))))
    (bgn : P (.inr (.inr (.inr (.inr (.inl ())))))) (fin : P (.inr (.inr (.inr (.inr (.inr (.inl ()))))))) (mat : P (.inr (.inr (.inr (.inr (.inr (.inr ()))))))) : ∀ x, P x
  | .inl S => chr S
  | .inr (.inl (x, y)) => split x y
  | .inr (.inr (.inl x)) => jmp x
  | .inr (.inr (.inr (.inl k))) => save k
  | .inr (.inr (.inr (.inr (.inl ())))) => bgn
  | .inr (.inr (.inr (.inr (.inr (.inl ()))))) => fin
  | .inr (.inr (.inr (.inr (.inr (.inr ()))))) => mat

/-- All roads from an instruction to a match, the preferred first. -/
def roads (p : List Ins) (s : List UInt8) : Nat → Nat → Nat → List Int → Option (List Way)
  | 0, _, _, _ => none
  | f + 1, pc, i, c => match p[pc]? with
    | none => none
    | some (.inl S) => match s[i]? with
      | some b => if S.testBit b.toNat then roads p s f (pc + 1) (i + 1) c else some []
      | none => some []
    | some (.inr (.inl (x, y))) => match roads p s f x i c with
      | none => none
      | some A => match roads p s f y i c with
        | none => none
        | some B => some (A ++ B)
    | some (.inr (.inr (.inl x))) => roads p s f x i c
    | some (.inr (.inr (.inr (.inl k)))) => roads p s f (pc + 1) i (c.set k i)
    | some (.inr (.inr (.inr (.inr (.inl ()))))) => if i = 0 then roads p s f (pc + 1) i c else some []
    | some (.inr (.inr (.inr (.inr (.inr (.inl ())))))) => if i = s.length then roads p s f (pc + 1) i c else some []
    | some (.inr (.inr (.inr (.inr (.inr (.inr ())))))) => some [(i, c)]

theorem roads_succ {p : List Ins} {s : List UInt8} : ∀ {f pc i : Nat} {c : List Int} {L : List Way}, roads p s f pc i c = some L → roads p s (f + 1) pc i c = some L := by
  intro f
  induction f with
  | zero => intro pc i c L h; simp [roads] at h
  | succ f ih =>
    intro pc i c L h
    unfold roads at h ⊢
    cases hp : p[pc]? with
    | none => rw [hp] at h; simp at h
    | some x =>
      rw [hp] at h
      cases x using insCases with
      | chr S =>
        simp only at h ⊢
        cases hs : s[i]? with
        | none => rw [hs] at h; exact h
        | some b =>
          rw [hs] at h
          simp only at h ⊢
          split
          · rename_i hb; rw [if_pos hb] at h; exact ih h
          · rename_i hb; rw [if_neg hb] at h; exact h
      | split x y =>
        simp only at h ⊢
        cases hx : roads p s f x i c with
        | none => rw [hx] at h; simp at h
        | some A =>
          rw [hx] at h
          cases hy : roads p s f y i c with
          | none => rw [hy] at h; simp at h
          | some B => rw [hy] at h; rw [ih hx, ih hy]; exact h
      | jmp x => exact ih h
      | save k => exact ih h
      | bgn =>
        simp only at h ⊢
        split
        · rename_i hb; rw [if_pos hb] at h; exact ih h
        · rename_i hb; rw [if_neg hb] at h; exact h
      | fin =>
        simp only at h ⊢
        split
        · rename_i hb; rw [if_pos hb] at h; exact ih h
        · rename_i hb; rw [if_neg hb] at h; exact h
      | mat => exact h

theorem roads_le {p : List Ins} {s : List UInt8} {f f' pc i : Nat} {c : List Int} {L : List Way} (h : roads p s f pc i c = some L) (hf : f ≤ f') : roads p s f' pc i c = some L := by
  obtain ⟨k, rfl⟩ := Nat.exists_eq_add_of_le hf
  clear hf
  induction k with
  | zero => exact h
  | succ k ih => exact roads_succ ih

theorem roads_det {p : List Ins} {s : List UInt8} {f f' pc i : Nat} {c : List Int} {L L' : List Way} (h : roads p s f pc i c = some L) (h' : roads p s f' pc i c = some L') : L = L' := by
  have h1 := roads_le h (Nat.le_max_left f f')
  have h2 := roads_le h' (Nat.le_max_right f f')
  rw [h1] at h2
  exact Option.some.inj h2

/-- The ends of all roads do not hang on the captures. -/
theorem roads_ends {p : List Ins} {s : List UInt8} : ∀ {f pc i : Nat} {c d : List Int} {L : List Way}, roads p s f pc i c = some L → ∃ L', roads p s f pc i d = some L' ∧ ends L' = ends L := by
  intro f
  induction f with
  | zero => intro pc i c d L h; simp [roads] at h
  | succ f ih =>
    intro pc i c d L h
    unfold roads at h ⊢
    cases hp : p[pc]? with
    | none => rw [hp] at h; simp at h
    | some x =>
      rw [hp] at h
      cases x using insCases with
      | chr S =>
        simp only at h ⊢
        cases hs : s[i]? with
        | none => rw [hs] at h; exact ⟨L, h, rfl⟩
        | some b =>
          rw [hs] at h
          simp only at h ⊢
          split
          · rename_i hb; rw [if_pos hb] at h; exact ih h
          · rename_i hb; rw [if_neg hb] at h; exact ⟨L, h, rfl⟩
      | split x y =>
        simp only at h ⊢
        cases hx : roads p s f x i c with
        | none => rw [hx] at h; simp at h
        | some A =>
          rw [hx] at h
          cases hy : roads p s f y i c with
          | none => rw [hy] at h; simp at h
          | some B =>
            rw [hy] at h
            simp only [Option.some.injEq] at h
            subst h
            obtain ⟨A', hA, eA⟩ := ih (d := d) hx
            obtain ⟨B', hB, eB⟩ := ih (d := d) hy
            rw [hA, hB]
            exact ⟨A' ++ B', rfl, by simp only [ends, List.map_append]; rw [show A'.map Prod.fst = _ from eA, show B'.map Prod.fst = _ from eB]⟩
      | jmp x => exact ih h
      | save k => exact ih h
      | bgn =>
        simp only at h ⊢
        split
        · rename_i hb; rw [if_pos hb] at h; exact ih h
        · rename_i hb; rw [if_neg hb] at h; exact ⟨L, h, rfl⟩
      | fin =>
        simp only at h ⊢
        split
        · rename_i hb; rw [if_pos hb] at h; exact ih h
        · rename_i hb; rw [if_neg hb] at h; exact ⟨L, h, rfl⟩
      | mat => exact ⟨[(i, d)], rfl, by simp only [Option.some.injEq] at h; subst h; rfl⟩

/-- The length of a core tree's code. -/
def elen : RE → Nat
  | .goto _ => 1
  | .ret => 1
  | .label _ => 1
  | .seq a b => elen a + elen b
  | .cond _ a b => elen a + elen b + 2
  | .rangeFunc _ _ _ a => elen a + 2
  | .block _ a => elen a + 2
  | .skip => 0
  | .region _ _ _ => 0
  | .loop _ => 0
  | .exit _ => 0
  | .scope _ => 0
  | .refuse _ => 0

/-- The code of a core tree that is laid at pc. -/
def E : RE → Nat → List Ins
  | .goto S, _ => [.chr S]
  | .ret, _ => [.bgn]
  | .label _, _ => [.fin]
  | .seq a b, pc => E a pc ++ E b (pc + elen a)
  | .cond _ a b, pc => .split (pc + 1) (pc + elen a + 2) :: (E a (pc + 1) ++ .jmp (pc + elen a + elen b + 2) :: E b (pc + elen a + 2))
  | .rangeFunc _ _ xx a, pc => (if rlz xx then .split (pc + elen a + 2) (pc + 1) else .split (pc + 1) (pc + elen a + 2)) :: (E a (pc + 1) ++ [.jmp pc])
  | .block g a, pc => .save (2 * g) :: (E a (pc + 1) ++ [.save (2 * g + 1)])
  | .skip, _ => []
  | .region _ _ _, _ => []
  | .loop _, _ => []
  | .exit _, _ => []
  | .scope _, _ => []
  | .refuse _, _ => []

theorem E_len (r : RE) (pc : Nat) : (E r pc).length = elen r := by
  induction r generalizing pc with
  | skip | region _ _ _ | exit _ | refuse _ | loop _ _ | scope _ _ | goto _ | ret | label _ => rfl
  | seq a b ia ib => simp [E, elen, ia, ib]
  | cond _ a b ia ib => simp [E, elen, ia, ib]; omega
  | rangeFunc _ _ xx a _ ia => simp [E, elen, ia]
  | block g a ia => simp [E, elen, ia]

/-- The groups of a tree. -/
def gs : RE → List Nat
  | .seq a b => gs a ++ gs b
  | .cond _ a b => gs a ++ gs b
  | .rangeFunc _ _ _ a => gs a
  | .block g a => g :: gs a
  | .goto _ => []
  | .ret => []
  | .label _ => []
  | .skip => []
  | .region _ _ _ => []
  | .loop _ => []
  | .exit _ => []
  | .scope _ => []
  | .refuse _ => []

/-- Core trees: stars alone, never over something nullable; no group within itself. -/
def Core : RE → Prop
  | .seq a b => Core a ∧ Core b
  | .cond _ a b => Core a ∧ Core b
  | .rangeFunc _ _ xx a => Core a ∧ rmn xx = 0 ∧ rmx xx = none ∧ nul a = false
  | .block g a => Core a ∧ g ∉ gs a
  | .goto _ => True
  | .ret => True
  | .label _ => True
  | .skip => True
  | .region _ _ _ => True
  | .loop _ => True
  | .exit _ => True
  | .scope _ => True
  | .refuse _ => True

/-- The code stands in the program at pc. -/
def At (p : List Ins) (pc : Nat) (L : List Ins) : Prop := ∀ (k : Nat) (x : Ins), L[k]? = some x → p[pc + k]? = some x

theorem At.cons {p : List Ins} {pc : Nat} {x : Ins} {L : List Ins} (h : At p pc (x :: L)) : p[pc]? = some x ∧ At p (pc + 1) L :=
  ⟨h 0 x rfl, fun k y hy => by have := h (k + 1) y hy; rwa [show pc + 1 + k = pc + (k + 1) by omega]⟩

theorem At.app {p : List Ins} {pc : Nat} {A B : List Ins} (h : At p pc (A ++ B)) : At p pc A ∧ At p (pc + A.length) B := by
  refine ⟨fun k y hy => h k y ?_, fun k y hy => ?_⟩
  · rw [List.getElem?_append_left (List.getElem?_eq_some_iff.1 hy).1]; exact hy
  · have := h (A.length + k) y (by rw [List.getElem?_append_right (by omega)]; rwa [Nat.add_sub_cancel_left])
    rwa [Nat.add_assoc]

/-- A slot that a tree does not write may be written ahead. -/
theorem tn_set {f : Nat → List Int → List Way} {mn : Nat} {mx : Option Nat} {lz : Bool} {k : Nat} {v : Int} (hf : ∀ i c, f i (c.set k v) = (f i c).map (fun x => (x.1, x.2.set k v))) :
    ∀ (m count i : Nat) (c : List Int), tn f mn mx lz m count i (c.set k v) = (tn f mn mx lz m count i c).map (fun x => (x.1, x.2.set k v)) := by
  intro m
  induction m with
  | zero => intro count i c; rfl
  | succ m ih =>
    intro count i c
    have hmore : (f i (c.set k v)).flatMap (fun x => if count < nxt mn mx count ∨ i < x.1 then tn f mn mx lz m (nxt mn mx count) x.1 x.2 else []) = ((f i c).flatMap (fun x => if count < nxt mn mx count ∨ i < x.1 then tn f mn mx lz m (nxt mn mx count) x.1 x.2 else [])).map (fun x => (x.1, x.2.set k v)) := by
      rw [hf, List.flatMap_map, List.map_flatMap]
      apply flat_congr
      intro x _
      dsimp only
      split
      · exact ih _ _ _
      · rfl
    unfold tn
    split
    · rfl
    · dsimp only
      rw [hmore]
      split
      · rfl
      · split
        · rfl
        · simp

theorem all_set {s : List UInt8} : ∀ (r : RE) (g : Nat) (k : Nat) (v : Int), g ∉ gs r → (k = 2 * g ∨ k = 2 * g + 1) → ∀ (i : Nat) (c : List Int), all s r i (c.set k v) = (all s r i c).map (fun x => (x.1, x.2.set k v)) := by
  intro r
  induction r with
  | skip | region _ _ _ | exit _ | refuse _ | loop _ _ | scope _ _ => intro g k v _ _ i c; rfl
  | goto S =>
    intro g k v _ _ i c
    simp only [all]
    split
    · split <;> rfl
    · rfl
  | ret => intro g k v _ _ i c; simp only [all]; split <;> rfl
  | label _ => intro g k v _ _ i c; simp only [all]; split <;> rfl
  | seq a b ia ib =>
    intro g k v hg hk i c
    simp only [gs, List.mem_append, not_or] at hg
    simp only [all]
    rw [ia g k v hg.1 hk, List.flatMap_map, List.map_flatMap]
    apply flat_congr
    intro x _
    exact ib g k v hg.2 hk _ _
  | cond _ a b ia ib =>
    intro g k v hg hk i c
    simp only [gs, List.mem_append, not_or] at hg
    simp only [all, List.map_append]
    rw [ia g k v hg.1 hk, ib g k v hg.2 hk]
  | rangeFunc _ _ xx a _ ia =>
    intro g k v hg hk i c
    simp only [all]
    exact tn_set (ia g k v hg hk) _ _ _ _
  | block h a ia =>
    intro g k v hg hk i c
    simp only [gs, List.mem_cons, not_or] at hg
    simp only [all]
    rw [ia g k v hg.2 hk, List.map_map, List.map_map]
    apply List.map_congr_left
    intro x _
    simp only [Function.comp]
    rw [List.set_comm _ _ (by omega : (k : Nat) ≠ 2 * h), List.set_comm _ _ (by omega : (k : Nat) ≠ 2 * h + 1)]

/-- A star, unrolled once. -/
theorem all_star {s : List UInt8} {a : RE} {lz : Bool} (hn : nul a = false) {i : Nat} (hi : i ≤ s.length) (c : List Int) :
    all s (.rep a 0 none lz) i c = if lz then (i, c) :: (all s a i c).flatMap (fun x => all s (.rep a 0 none lz) x.1 x.2) else (all s a i c).flatMap (fun x => all s (.rep a 0 none lz) x.1 x.2) ++ [(i, c)] := by
  have hb : ∀ i c, i ≤ s.length → ∀ x ∈ all s a i c, i ≤ x.1 ∧ x.1 ≤ s.length := fun i c hi x hx => all_bnd a i c hi x hx
  obtain ⟨k, hk⟩ : ∃ k, tm 0 none s.length 0 i = k + 1 := ⟨s.length - i, by unfold tm; simp; omega⟩
  have hmore : (all s a i c).flatMap (fun x => if 0 < nxt 0 none 0 ∨ i < x.1 then tn (all s a) 0 none lz k (nxt 0 none 0) x.1 x.2 else []) = (all s a i c).flatMap (fun x => all s (.rep a 0 none lz) x.1 x.2) := by
    apply flat_congr
    intro x hx
    have h1 := all_str a i c hn hi x hx
    have h2 := (hb i c hi x hx).2
    rw [if_pos (.inr h1)]
    simp only [all, nxt, Nat.le_refl, true_and, if_true]
    apply tn_fuel hb _ _ _ _ _ h2
    · unfold tm at *; simp at *; omega
    · exact Nat.le_refl _
  conv => lhs; rw [all_rep]
  rw [hk]
  unfold tn
  rw [if_neg (by simp)]
  dsimp only
  rw [hmore]
  simp

theorem all_rf {s : List UInt8} {f : Go.Operand} {ps : Array Nat} {xx a : RE} (h1 : rmn xx = 0) (h2 : rmx xx = none) {i : Nat} {c : List Int} : all s (.rangeFunc f ps xx a) i c = all s (.rep a 0 none (rlz xx)) i c := by
  rw [all_rep]
  simp only [all, h1, h2]

/-- The code means what the tree means. -/
theorem code_sound {p : List Ins} {s : List UInt8} : ∀ (r : RE) (pc i : Nat) (c : List Int) (K : Way → List Way), Core r → At p pc (E r pc) → i ≤ s.length → (∀ x ∈ all s r i c, ∃ f, roads p s f (pc + elen r) x.1 x.2 = some (K x)) →
    ∃ f, roads p s f pc i c = some ((all s r i c).flatMap K) := by
  intro r
  induction r with
  | skip | region _ _ _ | exit _ | refuse _ | loop _ _ | scope _ _ =>
    intro pc i c K _ _ _ hK
    obtain ⟨f, hf⟩ := hK (i, c) (by simp [all])
    exact ⟨f, by simpa [all, elen] using hf⟩
  | goto S =>
    intro pc i c K _ hA _ hK
    have hp := (At.cons hA).1
    simp only [all] at hK ⊢
    cases hs : s[i]? with
    | none => exact ⟨1, by simp [roads, hp, hs]⟩
    | some b =>
      rw [hs] at hK
      simp only at hK ⊢
      by_cases hb : S.testBit b.toNat = true
      · rw [if_pos hb] at hK ⊢
        obtain ⟨f, hf⟩ := hK (i + 1, c) (by simp)
        exact ⟨f + 1, by unfold roads; rw [hp]; simp only [hs, hb, if_true]; simpa [elen] using hf⟩
      · rw [if_neg hb]
        exact ⟨1, by simp [roads, hp, hs, hb]⟩
  | ret =>
    intro pc i c K _ hA _ hK
    have hp := (At.cons hA).1
    simp only [all] at hK ⊢
    by_cases hb : i = 0
    · rw [if_pos hb] at hK ⊢
      obtain ⟨f, hf⟩ := hK (i, c) (by simp)
      exact ⟨f + 1, by unfold roads; rw [hp]; simp only [hb, if_true]; simpa [elen, hb] using hf⟩
    · rw [if_neg hb]
      exact ⟨1, by simp [roads, hp, hb]⟩
  | label _ =>
    intro pc i c K _ hA _ hK
    have hp := (At.cons hA).1
    simp only [all] at hK ⊢
    by_cases hb : i = s.length
    · rw [if_pos hb] at hK ⊢
      obtain ⟨f, hf⟩ := hK (i, c) (by simp)
      exact ⟨f + 1, by unfold roads; rw [hp]; simp only [hb, if_true]; simpa [elen, hb] using hf⟩
    · rw [if_neg hb]
      exact ⟨1, by simp [roads, hp, hb]⟩
  | seq a b ia ib =>
    intro pc i c K hC hA hi hK
    simp only [E] at hA
    have hA1 := hA.app.1
    have hA2 := hA.app.2
    rw [E_len] at hA2
    simp only [all, List.flatMap_assoc]
    apply ia pc i c (fun x => (all s b x.1 x.2).flatMap K) hC.1 hA1 hi
    intro x hx
    apply ib (pc + elen a) x.1 x.2 K hC.2 hA2 (all_bnd a i c hi x hx).2
    intro y hy
    have := hK y (by simp only [all]; exact List.mem_flatMap.2 ⟨x, hx, hy⟩)
    rwa [Nat.add_assoc]
  | cond _ a b ia ib =>
    intro pc i c K hC hA hi hK
    simp only [E] at hA
    have h0 := hA.cons.1
    have hA1 := hA.cons.2.app.1
    have h2 := hA.cons.2.app.2
    rw [E_len] at h2
    have hj := h2.cons.1
    have hA2 := h2.cons.2
    rw [show pc + 1 + elen a + 1 = pc + elen a + 2 by omega] at hA2
    rw [show pc + 1 + elen a = pc + elen a + 1 by omega] at hj
    simp only [all, elen] at hK
    obtain ⟨f1, h1⟩ := ia (pc + 1) i c K hC.1 hA1 hi (by
      intro x hx
      obtain ⟨f, hf⟩ := hK x (by simp [hx])
      refine ⟨f + 1, ?_⟩
      unfold roads
      rw [show pc + 1 + elen a = pc + elen a + 1 by omega, hj]
      simp only
      rw [show pc + elen a + elen b + 2 = pc + (elen a + elen b + 2) by omega]
      exact hf)
    obtain ⟨f2, h2⟩ := ib (pc + elen a + 2) i c K hC.2 hA2 hi (by
      intro x hx
      obtain ⟨f, hf⟩ := hK x (by simp [hx])
      exact ⟨f, by rw [show pc + elen a + 2 + elen b = pc + (elen a + elen b + 2) by omega]; exact hf⟩)
    refine ⟨max f1 f2 + 1, ?_⟩
    unfold roads
    rw [h0]
    simp only
    rw [roads_le h1 (Nat.le_max_left _ _), roads_le h2 (Nat.le_max_right _ _)]
    simp [all]
  | rangeFunc _ _ xx a _ ia =>
    intro pc i c K hC hA hi hK
    obtain ⟨hCa, hm1, hm2, hn⟩ := hC
    simp only [E] at hA
    rw [all_rf hm1 hm2] at hK ⊢
    generalize rlz xx = lz at hA hK ⊢
    have h0 := hA.cons.1
    have hA1 := hA.cons.2.app.1
    have hj := hA.cons.2.app.2.cons.1
    rw [E_len] at hj
    have main : ∀ (m i : Nat) (c : List Int), i ≤ s.length → s.length - i ≤ m → (∀ x ∈ all s (.rep a 0 none lz) i c, ∃ f, roads p s f (pc + elen (.rep a 0 none lz)) x.1 x.2 = some (K x)) → ∃ f, roads p s f pc i c = some ((all s (.rep a 0 none lz) i c).flatMap K) := by
      intro m
      induction m with
      | zero =>
        intro i c hi hm hK
        have hnil : all s a i c = [] := by
          cases h : all s a i c with
          | nil => rfl
          | cons x xs =>
            have h1 := all_str a i c hn hi x (by rw [h]; simp)
            have h2 := all_bnd a i c hi x (by rw [h]; simp)
            omega
        rw [all_star hn hi, hnil] at hK ⊢
        obtain ⟨f1, h1⟩ := ia (pc + 1) i c (fun _ => []) hCa hA1 hi (by rw [hnil]; simp)
        rw [hnil] at h1
        obtain ⟨f2, h2⟩ := hK (i, c) (by cases lz <;> simp)
        simp only [elen] at h2
        refine ⟨max f1 f2 + 1, ?_⟩
        unfold roads
        rw [h0]
        cases lz with
        | false =>
          simp only [Bool.false_eq_true, if_false]
          rw [roads_le h1 (Nat.le_max_left _ _), show pc + elen a + 2 = pc + (elen a + 2) by omega, roads_le h2 (Nat.le_max_right _ _)]
          simp
        | true =>
          simp only [if_true]
          rw [roads_le h1 (Nat.le_max_left _ _), show pc + elen a + 2 = pc + (elen a + 2) by omega, roads_le h2 (Nat.le_max_right _ _)]
          simp
      | succ m ihm =>
        intro i c hi hm hK
        rw [all_star hn hi] at hK ⊢
        obtain ⟨f1, h1⟩ := ia (pc + 1) i c (fun x => (all s (.rep a 0 none lz) x.1 x.2).flatMap K) hCa hA1 hi (by
          intro x hx
          have hx1 := all_str a i c hn hi x hx
          have hx2 := (all_bnd a i c hi x hx).2
          obtain ⟨f, hf⟩ := ihm x.1 x.2 hx2 (by omega) (by
            intro y hy
            apply hK y
            have : y ∈ (all s a i c).flatMap (fun x => all s (.rep a 0 none lz) x.1 x.2) := List.mem_flatMap.2 ⟨x, hx, hy⟩
            cases lz <;> simp [this])
          refine ⟨f + 1, ?_⟩
          unfold roads
          rw [hj]
          exact hf)
        obtain ⟨f2, h2⟩ := hK (i, c) (by cases lz <;> simp)
        simp only [elen] at h2
        refine ⟨max f1 f2 + 1, ?_⟩
        unfold roads
        rw [h0]
        cases lz with
        | false =>
          simp only [Bool.false_eq_true, if_false]
          rw [roads_le h1 (Nat.le_max_left _ _), show pc + elen a + 2 = pc + (elen a + 2) by omega, roads_le h2 (Nat.le_max_right _ _)]
          simp [List.flatMap_assoc]
        | true =>
          simp only [if_true]
          rw [roads_le h1 (Nat.le_max_left _ _), show pc + elen a + 2 = pc + (elen a + 2) by omega, roads_le h2 (Nat.le_max_right _ _)]
          simp [List.flatMap_assoc]
    exact main _ i c hi (Nat.le_refl _) hK
  | block g a ia =>
    intro pc i c K hC hA hi hK
    have h0 := hA.cons.1
    have hA1 := hA.cons.2.app.1
    have hj := hA.cons.2.app.2.cons.1
    rw [E_len] at hj
    simp only [all, elen] at hK
    obtain ⟨f, hf⟩ := ia (pc + 1) i (c.set (2 * g) i) (fun x => K (x.1, x.2.set (2 * g + 1) x.1)) hC.1 hA1 hi (by
      intro x hx
      rw [all_set a g (2 * g) i hC.2 (.inl rfl)] at hx
      obtain ⟨y, hy, rfl⟩ := List.mem_map.1 hx
      obtain ⟨f, hf⟩ := hK _ (List.mem_map.2 ⟨y, hy, rfl⟩)
      refine ⟨f + 1, ?_⟩
      unfold roads
      rw [hj]
      simp only
      rw [show pc + 1 + elen a + 1 = pc + (elen a + 2) by omega]
      exact hf)
    refine ⟨f + 1, ?_⟩
    unfold roads
    rw [h0]
    simp only
    rw [hf, all_set a g (2 * g) i hC.2 (.inl rfl)]
    simp only [all, List.flatMap_map]

/-- The whole program. -/
def codeOf (r : RE) : List Ins := E r 0 ++ [.mat]

theorem codeOf_sound {s : List UInt8} {r : RE} (hC : Core r) {i : Nat} (hi : i ≤ s.length) (c : List Int) : ∃ f, roads (codeOf r) s f 0 i c = some (all s r i c) := by
  have hA : At (codeOf r) 0 (E r 0) := by
    intro k x hx
    unfold codeOf
    rw [Nat.zero_add, List.getElem?_append_left (List.getElem?_eq_some_iff.1 hx).1]
    exact hx
  obtain ⟨f, hf⟩ := code_sound (p := codeOf r) r 0 i c (fun x => [x]) hC hA hi (by
    intro x hx
    refine ⟨1, ?_⟩
    unfold roads
    rw [show (codeOf r)[0 + elen r]? = some .mat by unfold codeOf; rw [Nat.zero_add, List.getElem?_append_right (by rw [E_len]; exact Nat.le_refl _), E_len]; simp])
  refine ⟨f, ?_⟩
  rw [hf]
  congr 1
  simp

end Go.Proofs.Qxb6500567aGreat
