import GoSem.Core.Code
/- Plain laws of matching: trees, all ways, ways without doubles. No program in sight. -/
namespace Go.Proofs.Qxb6500567aGreat
set_option linter.unusedVariables false
set_option linter.unusedSimpArgs false

/-- A set of bytes: bit c of a number. -/
abbrev Cset := Nat
/-- One way: where it ends, and its captures. -/
abbrev Way := Nat × List Int

/-- A tree, told in the words of structured code (what is none of the eight kinds counts as the empty). -/
abbrev RE := Go.Code
abbrev RE.emp : RE := .skip
abbrev RE.set (S : Cset) : RE := .goto S
abbrev RE.bgn : RE := .ret
abbrev RE.fin : RE := .label 0
abbrev RE.cat (a b : RE) : RE := .seq a b
abbrev RE.alt (a b : RE) : RE := .cond (.tmp 0) a b
abbrev RE.grp (a : RE) (g : Nat) : RE := .block g a
/-- The numbers of a repeat. -/
def mxC : Option Nat → RE
  | none => .skip
  | some m => .goto m
abbrev RE.rep (a : RE) (mn : Nat) (mx : Option Nat) (lz : Bool) : RE := .rangeFunc (.tmp 0) #[] (.seq (.region mn #[] lz) (mxC mx)) a
def rmn : RE → Nat
  | .seq (.region n _ _) _ => n
  | _ => 0
def rlz : RE → Bool
  | .seq (.region _ _ z) _ => z
  | _ => false
def rmx : RE → Option Nat
  | .seq _ (.goto m) => some m
  | _ => none

theorem rmn_mk (mn : Nat) (mx : Option Nat) (lz : Bool) : rmn (.seq (.region mn #[] lz) (mxC mx)) = mn := rfl
theorem rlz_mk (mn : Nat) (mx : Option Nat) (lz : Bool) : rlz (.seq (.region mn #[] lz) (mxC mx)) = lz := rfl
theorem rmx_mk (mn : Nat) (mx : Option Nat) (lz : Bool) : rmx (.seq (.region mn #[] lz) (mxC mx)) = mx := by cases mx <;> rfl

/-- The rows whose end was not seen before. -/
def ddS : List Nat → List Way → List Way
  | _, [] => []
  | V, x :: xs => if x.1 ∈ V then ddS V xs else x :: ddS (x.1 :: V) xs
abbrev dd (L : List Way) : List Way := ddS [] L
abbrev ends (L : List Way) : List Nat := L.map Prod.fst

theorem ddS_congr {V W : List Nat} (h : ∀ e, e ∈ V ↔ e ∈ W) (L : List Way) : ddS V L = ddS W L := by
  induction L generalizing V W with
  | nil => rfl
  | cons x xs ih =>
    simp only [ddS, h x.1]
    split
    · exact ih h
    · rw [ih (V := x.1 :: V) (W := x.1 :: W)]
      intro e; simp [h e]

theorem ddS_nil {V : List Nat} {L : List Way} (h : ∀ x ∈ L, x.1 ∈ V) : ddS V L = [] := by
  induction L with
  | nil => rfl
  | cons x xs ih =>
    simp only [ddS, h x (by simp), if_true]
    exact ih (fun y hy => h y (by simp [hy]))

theorem mem_ddS {V : List Nat} {L : List Way} {x : Way} (h : x ∈ ddS V L) : x ∈ L ∧ x.1 ∉ V := by
  induction L generalizing V with
  | nil => simp [ddS] at h
  | cons y ys ih =>
    simp only [ddS] at h
    split at h
    · have := ih h; exact ⟨by simp [this.1], this.2⟩
    · rename_i hn
      rcases List.mem_cons.1 h with rfl | h
      · exact ⟨by simp, hn⟩
      · have := ih h
        refine ⟨by simp [this.1], fun hv => this.2 (by simp [hv])⟩

theorem ends_ddS {V : List Nat} {L : List Way} (e : Nat) : e ∈ ends (ddS V L) ↔ e ∈ ends L ∧ e ∉ V := by
  induction L generalizing V with
  | nil => simp [ddS]
  | cons y ys ih =>
    simp only [ddS]
    split
    · rename_i hv
      rw [ih]
      simp only [List.map_cons, List.mem_cons]
      constructor
      · rintro ⟨h1, h2⟩; exact ⟨.inr h1, h2⟩
      · rintro ⟨h1 | h1, h2⟩
        · subst h1; exact absurd hv h2
        · exact ⟨h1, h2⟩
    · rename_i hv
      simp only [List.map_cons, List.mem_cons]
      have := ih (V := y.1 :: V)
      simp only [List.mem_cons] at this
      rw [this]
      constructor
      · rintro (h | ⟨h1, h2⟩)
        · subst h; exact ⟨.inl rfl, hv⟩
        · exact ⟨.inr h1, fun h => h2 (.inr h)⟩
      · rintro ⟨h1 | h1, h2⟩
        · exact .inl h1
        · by_cases he : e = y.1
          · exact .inl he
          · exact .inr ⟨h1, fun h => h.elim he h2⟩

theorem ends_dd {L : List Way} (e : Nat) : e ∈ ends (dd L) ↔ e ∈ ends L := by
  rw [ends_ddS]; simp

theorem ddS_app (V : List Nat) (A B : List Way) : ddS V (A ++ B) = ddS V A ++ ddS (ends A ++ V) B := by
  induction A generalizing V with
  | nil => simp [ddS]
  | cons x xs ih =>
    simp only [List.cons_append, ddS]
    split
    · rename_i hv
      rw [ih]
      congr 1
      apply ddS_congr
      intro e
      simp only [List.map_cons, List.cons_append, List.mem_cons, List.mem_append]
      constructor
      · intro h; exact .inr h
      · rintro (rfl | h)
        · exact .inr hv
        · exact h
    · rw [ih, List.cons_append]
      congr 2
      apply ddS_congr
      intro e
      simp only [List.map_cons, List.cons_append, List.mem_cons, List.mem_append]
      constructor
      · rintro (h | h | h)
        · exact .inr (.inl h)
        · exact .inl h
        · exact .inr (.inr h)
      · rintro (h | h | h)
        · exact .inr (.inl h)
        · exact .inl h
        · exact .inr (.inr h)

theorem ddS_filter (V W : List Nat) (L : List Way) : ddS (V ++ W) L = (ddS W L).filter (fun x => decide (x.1 ∉ V)) := by
  induction L generalizing W with
  | nil => rfl
  | cons x xs ih =>
    simp only [ddS, List.mem_append]
    by_cases hw : x.1 ∈ W
    · simp only [hw, or_true, if_true]; exact ih W
    · by_cases hv : x.1 ∈ V
      · simp only [hw, hv, or_false, if_true, if_false, List.filter_cons]
        simp only [not_true, decide_false, Bool.false_eq_true, if_false]
        rw [← ih (x.1 :: W)]
        apply ddS_congr
        intro e
        simp only [List.mem_append, List.mem_cons]
        constructor
        · rintro (h | h)
          · exact .inl h
          · exact .inr (.inr h)
        · rintro (h | rfl | h)
          · exact .inl h
          · exact .inl hv
          · exact .inr h
      · simp only [hw, hv, or_false, if_false, List.filter_cons]
        simp only [not_false_eq_true, decide_true, if_true]
        rw [← ih (x.1 :: W)]
        congr 1
        apply ddS_congr
        intro e
        simp only [List.mem_append, List.mem_cons]
        constructor
        · rintro (h | h | h)
          · exact .inr (.inl h)
          · exact .inl h
          · exact .inr (.inr h)
        · rintro (h | h | h)
          · exact .inr (.inl h)
          · exact .inl h
          · exact .inr (.inr h)

theorem ddS_of_dd (V : List Nat) (L : List Way) : ddS V L = (dd L).filter (fun x => decide (x.1 ∉ V)) := by
  have := ddS_filter V [] L
  rwa [List.append_nil] at this

/-- Equal without doubles. -/
def Eqv (A B : List Way) : Prop := dd A = dd B

theorem Eqv.refl (A : List Way) : Eqv A A := rfl
theorem Eqv.symm {A B : List Way} (h : Eqv A B) : Eqv B A := Eq.symm h
theorem Eqv.trans {A B C : List Way} (h : Eqv A B) (h' : Eqv B C) : Eqv A C := Eq.trans h h'
theorem Eqv.at {A B : List Way} (h : Eqv A B) (V : List Nat) : ddS V A = ddS V B := by
  rw [ddS_of_dd, ddS_of_dd V B, show dd A = dd B from h]
theorem Eqv.ends {A B : List Way} (h : Eqv A B) (e : Nat) : e ∈ ends A ↔ e ∈ ends B := by
  rw [← ends_dd, ← ends_dd (L := B), show dd A = dd B from h]

theorem ddS_dd (V : List Nat) (L : List Way) : ddS V (ddS V L) = ddS V L := by
  induction L generalizing V with
  | nil => rfl
  | cons x xs ih =>
    simp only [ddS]
    split
    · exact ih V
    · rename_i h
      simp only [ddS, h, if_false]
      rw [ih]

theorem dd_idem (L : List Way) : Eqv (dd L) L := ddS_dd [] L

theorem Eqv.app {A A' B B' : List Way} (h : Eqv A A') (h' : Eqv B B') : Eqv (A ++ B) (A' ++ B') := by
  unfold Eqv dd
  rw [ddS_app, ddS_app, h.at [], h'.at (Go.Proofs.Qxb6500567aGreat.ends A ++ [])]
  congr 1
  apply ddS_congr
  intro e
  simp only [List.append_nil]
  exact h.ends e

theorem ddS_flat_congr {f g : Way → List Way} {L : List Way} (h : ∀ x ∈ L, Eqv (f x) (g x)) : Eqv (L.flatMap f) (L.flatMap g) := by
  induction L with
  | nil => rfl
  | cons x xs ih =>
    simp only [List.flatMap_cons]
    exact Eqv.app (h x (by simp)) (ih (fun y hy => h y (by simp [hy])))

theorem ddS_flat (f : Way → List Way) (hf : ∀ x y, x.1 = y.1 → ∀ e, e ∈ ends (f x) ↔ e ∈ ends (f y)) (L : List Way) (V W : List Nat) (h : ∀ x : Way, x.1 ∈ V → ∀ e ∈ ends (f x), e ∈ W) :
    ddS W (L.flatMap f) = ddS W ((ddS V L).flatMap f) := by
  induction L generalizing V W with
  | nil => rfl
  | cons x xs ih =>
    simp only [List.flatMap_cons, ddS]
    split
    · rename_i hv
      rw [ddS_app, ddS_nil (L := f x), List.nil_append]
      · rw [← ih V W h]
        apply ddS_congr
        intro e
        simp only [List.mem_append]
        constructor
        · rintro (he | he)
          · exact h x hv e he
          · exact he
        · exact fun he => .inr he
      · intro y hy
        exact h x hv _ (List.mem_map_of_mem hy)
    · rw [List.flatMap_cons, ddS_app, ddS_app]
      congr 1
      apply ih
      intro y hy e he
      simp only [List.mem_append]
      rcases List.mem_cons.1 hy with hh | hh
      · exact .inl ((hf y x hh e).1 he)
      · exact .inr (h y hh e he)

theorem Eqv.flat {A B : List Way} {f g : Way → List Way} (hf : ∀ x y, x.1 = y.1 → ∀ e, e ∈ Go.Proofs.Qxb6500567aGreat.ends (f x) ↔ e ∈ Go.Proofs.Qxb6500567aGreat.ends (f y)) (h : Eqv A B) (hfg : ∀ x ∈ B, Eqv (f x) (g x)) : Eqv (A.flatMap f) (B.flatMap g) := by
  have h1 : Eqv (A.flatMap f) ((dd A).flatMap f) := ddS_flat f hf A [] [] (by simp)
  have h2 : Eqv (B.flatMap f) ((dd B).flatMap f) := ddS_flat f hf B [] [] (by simp)
  have h3 : dd A = dd B := h
  rw [h3] at h1
  exact (h1.trans h2.symm).trans (ddS_flat_congr hfg)

theorem dd_head (L : List Way) : (dd L).head? = L.head? := by
  cases L with
  | nil => rfl
  | cons x xs => simp [ddS]

theorem Eqv.head {A B : List Way} (h : Eqv A B) : A.head? = B.head? := by
  rw [← dd_head A, ← dd_head B, show dd A = dd B from h]

theorem ddS_map (f : List Int → Nat → List Int) (V : List Nat) (L : List Way) : ddS V (L.map (fun x => (x.1, f x.2 x.1))) = (ddS V L).map (fun x => (x.1, f x.2 x.1)) := by
  induction L generalizing V with
  | nil => rfl
  | cons x xs ih =>
    simp only [List.map_cons, ddS]
    split
    · exact ih V
    · rw [List.map_cons, ih]

theorem Eqv.map (f : List Int → Nat → List Int) {A B : List Way} (h : Eqv A B) : Eqv (A.map (fun x => (x.1, f x.2 x.1))) (B.map (fun x => (x.1, f x.2 x.1))) := by
  unfold Eqv dd
  rw [ddS_map, ddS_map, show ddS [] A = ddS [] B from h]

/-- The next count. -/
def nxt (mn : Nat) (mx : Option Nat) (count : Nat) : Nat := if mn ≤ count ∧ mx = none then count else count + 1

/-- The turns of a repeat. -/
def tn (f : Nat → List Int → List Way) (mn : Nat) (mx : Option Nat) (lz : Bool) : Nat → Nat → Nat → List Int → List Way
  | 0, _, _, _ => []
  | k + 1, count, i, c =>
    if mn ≤ count ∧ (∃ m, mx = some m ∧ m ≤ count) then [(i, c)] else
    let next := nxt mn mx count
    let more := (f i c).flatMap (fun x => if count < next ∨ i < x.1 then tn f mn mx lz k next x.1 x.2 else [])
    if count < mn then more else if lz then (i, c) :: more else more ++ [(i, c)]

/-- How many turns are left at the most. -/
def tm (mn : Nat) (mx : Option Nat) (n count i : Nat) : Nat := (mn - count) + (mx.getD 0 - count) + (n + 1 - i)

/-- All ways of a tree, doubles and all. -/
def all (s : List UInt8) : RE → Nat → List Int → List Way
  | .goto S, i, c => match s[i]? with
    | some b => if S.testBit b.toNat then [(i + 1, c)] else []
    | none => []
  | .ret, i, c => if i = 0 then [(i, c)] else []
  | .label _, i, c => if i = s.length then [(i, c)] else []
  | .seq a b, i, c => (all s a i c).flatMap (fun x => all s b x.1 x.2)
  | .cond _ a b, i, c => all s a i c ++ all s b i c
  | .block g a, i, c => (all s a i c).map (fun x => (x.1, (x.2.set (2 * g) i).set (2 * g + 1) x.1))
  | .rangeFunc _ _ xx a, i, c => tn (all s a) (rmn xx) (rmx xx) (rlz xx) (tm (rmn xx) (rmx xx) s.length 0 i) 0 i c
  | .skip, i, c => [(i, c)]
  | .region _ _ _, i, c => [(i, c)]
  | .loop _, i, c => [(i, c)]
  | .exit _, i, c => [(i, c)]
  | .scope _, i, c => [(i, c)]
  | .refuse _, i, c => [(i, c)]

theorem all_rep (s : List UInt8) (a : RE) (mn : Nat) (mx : Option Nat) (lz : Bool) (i : Nat) (c : List Int) : all s (.rep a mn mx lz) i c = tn (all s a) mn mx lz (tm mn mx s.length 0 i) 0 i c := by
  simp only [all, rmn_mk, rlz_mk, rmx_mk]

/-- A tree that can match the empty string. -/
def nul : RE → Bool
  | .goto _ => false
  | .seq a b => nul a && nul b
  | .cond _ a b => nul a || nul b
  | .rangeFunc _ _ xx a => rmn xx == 0 || nul a
  | .block _ a => nul a
  | .ret => true
  | .label _ => true
  | .skip => true
  | .region _ _ _ => true
  | .loop _ => true
  | .exit _ => true
  | .scope _ => true
  | .refuse _ => true

theorem nul_rep (a : RE) (mn : Nat) (mx : Option Nat) (lz : Bool) : nul (.rep a mn mx lz) = (mn == 0 || nul a) := by
  simp only [nul, rmn_mk]

/-- Ends lie at or behind the start, within the subject. -/
theorem tn_bnd {f : Nat → List Int → List Way} {mn : Nat} {mx : Option Nat} {lz : Bool} {n : Nat} (hf : ∀ i c, i ≤ n → ∀ x ∈ f i c, i ≤ x.1 ∧ x.1 ≤ n) : ∀ (k count i : Nat) (c : List Int), i ≤ n → ∀ x ∈ tn f mn mx lz k count i c, i ≤ x.1 ∧ x.1 ≤ n := by
  intro k
  induction k with
  | zero => intro count i c hi x hx; simp [tn] at hx
  | succ k ih =>
    intro count i c hi x hx
    have hmore : ∀ nx, x ∈ (f i c).flatMap (fun x => if count < nx ∨ i < x.1 then tn f mn mx lz k nx x.1 x.2 else []) → i ≤ x.1 ∧ x.1 ≤ n := by
      intro nx hx
      obtain ⟨y, hy, hx⟩ := List.mem_flatMap.1 hx
      have h1 := hf i c hi y hy
      split at hx
      · have := ih nx y.1 y.2 h1.2 x hx; omega
      · simp at hx
    unfold tn at hx
    split at hx
    · simp at hx; subst hx; exact ⟨Nat.le_refl _, hi⟩
    · dsimp only at hx
      split at hx
      · exact hmore _ hx
      · split at hx
        · rcases List.mem_cons.1 hx with rfl | hx
          · exact ⟨Nat.le_refl _, hi⟩
          · exact hmore _ hx
        · rcases List.mem_append.1 hx with hx | hx
          · exact hmore _ hx
          · simp at hx; subst hx; exact ⟨Nat.le_refl _, hi⟩

theorem all_bnd {s : List UInt8} : ∀ (r : RE) (i : Nat) (c : List Int), i ≤ s.length → ∀ x ∈ all s r i c, i ≤ x.1 ∧ x.1 ≤ s.length := by
  intro r
  induction r with
  | skip | region _ _ _ | exit _ | refuse _ | loop _ _ | scope _ _ => intro i c hi x hx; simp [all] at hx; subst hx; exact ⟨Nat.le_refl _, hi⟩
  | goto S =>
    intro i c hi x hx
    simp only [all] at hx
    split at hx
    · rename_i b hb
      have := (List.getElem?_eq_some_iff.1 hb).1
      split at hx
      · simp at hx; subst hx; exact ⟨by simp, this⟩
      · simp at hx
    · simp at hx
  | ret => intro i c hi x hx; simp only [all] at hx; split at hx <;> simp at hx; subst hx; exact ⟨Nat.le_refl _, hi⟩
  | label _ => intro i c hi x hx; simp only [all] at hx; split at hx <;> simp at hx; subst hx; exact ⟨Nat.le_refl _, hi⟩
  | seq a b iha ihb =>
    intro i c hi x hx
    simp only [all] at hx
    obtain ⟨y, hy, hx⟩ := List.mem_flatMap.1 hx
    have h1 := iha i c hi y hy
    have h2 := ihb y.1 y.2 h1.2 x hx
    omega
  | cond _ a b iha ihb =>
    intro i c hi x hx
    simp only [all] at hx
    rcases List.mem_append.1 hx with hx | hx
    · exact iha i c hi x hx
    · exact ihb i c hi x hx
  | rangeFunc _ _ xx a _ iha =>
    intro i c hi x hx
    simp only [all] at hx
    exact tn_bnd iha _ _ i c hi x hx
  | block g a iha =>
    intro i c hi x hx
    simp only [all] at hx
    obtain ⟨y, hy, rfl⟩ := List.mem_map.1 hx
    exact iha i c hi y hy

/-- A tree that is not nullable takes a byte. -/
theorem tn_str {f : Nat → List Int → List Way} {mn : Nat} {mx : Option Nat} {lz : Bool} {n : Nat} (hf : ∀ i c, i ≤ n → ∀ x ∈ f i c, i < x.1 ∧ x.1 ≤ n) : ∀ (k count i : Nat) (c : List Int), i ≤ n → count < mn → ∀ x ∈ tn f mn mx lz k count i c, i < x.1 := by
  intro k
  cases k with
  | zero => intro count i c hi _ x hx; simp [tn] at hx
  | succ k =>
    intro count i c hi hc x hx
    unfold tn at hx
    rw [if_neg (by omega)] at hx
    dsimp only at hx
    rw [if_pos hc] at hx
    obtain ⟨y, hy, hx⟩ := List.mem_flatMap.1 hx
    have h1 := hf i c hi y hy
    split at hx
    · have := tn_bnd (mn := mn) (mx := mx) (lz := lz) (fun i c hi x hx => ⟨Nat.le_of_lt (hf i c hi x hx).1, (hf i c hi x hx).2⟩) k _ y.1 y.2 h1.2 x hx
      omega
    · simp at hx

theorem all_str {s : List UInt8} : ∀ (r : RE) (i : Nat) (c : List Int), nul r = false → i ≤ s.length → ∀ x ∈ all s r i c, i < x.1 := by
  intro r
  induction r with
  | skip | region _ _ _ | exit _ | refuse _ | loop _ _ | scope _ _ => intro i c h; simp [nul] at h
  | goto S =>
    intro i c h hi x hx
    simp only [all] at hx
    split at hx
    · split at hx
      · simp at hx; subst hx; simp
      · simp at hx
    · simp at hx
  | ret => intro i c h; simp [nul] at h
  | label _ => intro i c h; simp [nul] at h
  | seq a b iha ihb =>
    intro i c h hi x hx
    simp only [all] at hx
    obtain ⟨y, hy, hx⟩ := List.mem_flatMap.1 hx
    have h1 := all_bnd a i c hi y hy
    have h2 := all_bnd b y.1 y.2 h1.2 x hx
    simp only [nul, Bool.and_eq_false_iff] at h
    rcases h with h | h
    · have := iha i c h hi y hy; omega
    · have := ihb y.1 y.2 h h1.2 x hx; omega
  | cond _ a b iha ihb =>
    intro i c h hi x hx
    simp only [all] at hx
    simp only [nul, Bool.or_eq_false_iff] at h
    rcases List.mem_append.1 hx with hx | hx
    · exact iha i c h.1 hi x hx
    · exact ihb i c h.2 hi x hx
  | rangeFunc _ _ xx a _ iha =>
    intro i c h hi x hx
    simp only [all] at hx
    simp only [nul, Bool.or_eq_false_iff, beq_eq_false_iff_ne] at h
    exact tn_str (fun i c hi x hx => ⟨iha i c h.2 hi x hx, (all_bnd a i c hi x hx).2⟩) _ _ i c hi (by omega) x hx
  | block g a iha =>
    intro i c h hi x hx
    simp only [all] at hx
    obtain ⟨y, hy, rfl⟩ := List.mem_map.1 hx
    exact iha i c h hi y hy

/-- The ends do not hang on the captures. -/
theorem flat_ends {A B : List Way} {f g : Way → List Way} (h : ends A = ends B) (hfg : ∀ x ∈ A, ∀ y ∈ B, x.1 = y.1 → ends (f x) = ends (g y)) : ends (A.flatMap f) = ends (B.flatMap g) := by
  induction A generalizing B with
  | nil =>
    cases B with
    | nil => rfl
    | cons y ys => simp [ends] at h
  | cons x xs ih =>
    cases B with
    | nil => simp [ends] at h
    | cons y ys =>
      simp only [ends, List.map_cons, List.cons.injEq] at h
      simp only [ends, List.flatMap_cons, List.map_append]
      rw [show (f x).map Prod.fst = (g y).map Prod.fst from hfg x (by simp) y (by simp) h.1]
      congr 1
      exact ih h.2 (fun x hx y hy => hfg x (by simp [hx]) y (by simp [hy]))

theorem tn_ends {f : Nat → List Int → List Way} {mn : Nat} {mx : Option Nat} {lz : Bool} (hf : ∀ i c d, ends (f i c) = ends (f i d)) : ∀ (k count i : Nat) (c d : List Int), ends (tn f mn mx lz k count i c) = ends (tn f mn mx lz k count i d) := by
  intro k
  induction k with
  | zero => intro count i c d; rfl
  | succ k ih =>
    intro count i c d
    have hmore : ∀ nx, ends ((f i c).flatMap (fun x => if count < nx ∨ i < x.1 then tn f mn mx lz k nx x.1 x.2 else [])) = ends ((f i d).flatMap (fun x => if count < nx ∨ i < x.1 then tn f mn mx lz k nx x.1 x.2 else [])) := by
      intro nx
      apply flat_ends (hf i c d)
      intro x _ y _ hxy
      rw [hxy]
      split
      · exact ih nx y.1 x.2 y.2
      · rfl
    unfold tn
    split
    · rfl
    · dsimp only
      split
      · exact hmore _
      · split
        · simp only [ends, List.map_cons]
          exact congrArg (i :: ·) (hmore _)
        · simp only [ends, List.map_append]
          exact congrArg (· ++ [i]) (hmore _)

theorem all_ends {s : List UInt8} : ∀ (r : RE) (i : Nat) (c d : List Int), ends (all s r i c) = ends (all s r i d) := by
  intro r
  induction r with
  | skip | region _ _ _ | exit _ | refuse _ | loop _ _ | scope _ _ => intro i c d; rfl
  | goto S =>
    intro i c d
    simp only [all]
    split
    · split <;> rfl
    · rfl
  | ret => intro i c d; simp only [all]; split <;> rfl
  | label _ => intro i c d; simp only [all]; split <;> rfl
  | seq a b iha ihb =>
    intro i c d
    simp only [all]
    apply flat_ends (iha i c d)
    intro x _ y _ hxy
    rw [hxy]
    exact ihb _ _ _
  | cond _ a b iha ihb =>
    intro i c d
    simp only [all, ends, List.map_append]
    have h1 := iha i c d
    have h2 := ihb i c d
    simp only [ends] at h1 h2
    rw [h1, h2]
  | rangeFunc _ _ xx a _ iha => intro i c d; exact tn_ends iha _ _ _ _ _
  | block g a iha =>
    intro i c d
    simp only [all, ends, List.map_map]
    exact iha i c d

theorem flat_congr {f g : Way → List Way} {L : List Way} (h : ∀ x ∈ L, f x = g x) : L.flatMap f = L.flatMap g := by
  induction L with
  | nil => rfl
  | cons x xs ih => simp only [List.flatMap_cons]; rw [h x (by simp), ih (fun y hy => h y (by simp [hy]))]

/-- More fuel changes nothing. -/
theorem tn_fuel {f : Nat → List Int → List Way} {mn : Nat} {mx : Option Nat} {lz : Bool} {n : Nat} (hf : ∀ i c, i ≤ n → ∀ x ∈ f i c, i ≤ x.1 ∧ x.1 ≤ n) : ∀ (k k' count i : Nat) (c : List Int), i ≤ n → tm mn mx n count i ≤ k → tm mn mx n count i ≤ k' → tn f mn mx lz k count i c = tn f mn mx lz k' count i c := by
  intro k
  induction k with
  | zero => intro k' count i c hi hk; unfold tm at hk; omega
  | succ k ih =>
    intro k' count i c hi hk hk'
    cases k' with
    | zero => unfold tm at hk'; omega
    | succ k' =>
      unfold tn
      split
      · rfl
      · rename_i hs
        have hmore : (f i c).flatMap (fun x => if count < (nxt mn mx count) ∨ i < x.1 then tn f mn mx lz k (nxt mn mx count) x.1 x.2 else []) = (f i c).flatMap (fun x => if count < (nxt mn mx count) ∨ i < x.1 then tn f mn mx lz k' (nxt mn mx count) x.1 x.2 else []) := by
          apply flat_congr
          intro x hx
          have hb := hf i c hi x hx
          split
          · rename_i hc
            have hlt : tm mn mx n (nxt mn mx count) x.1 < tm mn mx n count i := by
              unfold nxt at hc ⊢
              unfold tm
              by_cases hu : mn ≤ count ∧ mx = none
              · rw [if_pos hu] at hc ⊢
                omega
              · rw [if_neg hu] at hc ⊢
                have : count < mn ∨ count < mx.getD 0 := by
                  by_cases h1 : mn ≤ count
                  · right
                    cases hm : mx with
                    | none => exact absurd ⟨h1, hm⟩ hu
                    | some m =>
                      simp only [Option.getD_some]
                      by_cases h2 : m ≤ count
                      · exact absurd ⟨h1, m, hm, h2⟩ hs
                      · omega
                  · left; omega
                omega
            exact ih _ _ _ _ hb.2 (by omega) (by omega)
          · rfl
        dsimp only
        rw [hmore]

end Go.Proofs.Qxb6500567aGreat
