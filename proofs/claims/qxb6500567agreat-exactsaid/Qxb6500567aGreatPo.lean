import Derived.Test.Qxb6500567aGreatPf
/- Captures lie within the subject; the definition's joins; the scan. -/
namespace Go.Proofs.Qxb6500567aGreat
set_option linter.unusedVariables false
set_option linter.unusedSimpArgs false

/-- What the slots hold. -/
structure CapsOK (n : Nat) (c : List Int) : Prop where
  len : c.length = 8
  ok : ∀ g, 1 ≤ g → g ≤ 3 → (c[2 * g]? = some (-1) ∧ c[2 * g + 1]? = some (-1)) ∨ ∃ a b : Nat, a ≤ b ∧ b ≤ n ∧ c[2 * g]? = some (a : Int) ∧ c[2 * g + 1]? = some (b : Int)

theorem CapsOK.put {n : Nat} {c : List Int} (h : CapsOK n c) {g a b : Nat} (hg : g ≤ 3) (hab : a ≤ b) (hb : b ≤ n) : CapsOK n ((c.set (2 * g) a).set (2 * g + 1) b) := by
  refine ⟨by simp [h.len], ?_⟩
  intro g' h1 h2
  by_cases hgg : g' = g
  · subst hgg
    refine .inr ⟨a, b, hab, hb, ?_, ?_⟩
    · rw [List.getElem?_set_ne (by omega), List.getElem?_set_self (by rw [h.len]; omega)]
    · rw [List.getElem?_set_self (by rw [List.length_set, h.len]; omega)]
  · rw [List.getElem?_set_ne (by omega), List.getElem?_set_ne (by omega), List.getElem?_set_ne (by omega), List.getElem?_set_ne (by omega)]
    exact h.ok g' h1 h2

theorem caps_no (n : Nat) : CapsOK n nocaps := by
  refine ⟨rfl, ?_⟩
  intro g h1 h2
  left
  have : g = 1 ∨ g = 2 ∨ g = 3 := by omega
  rcases this with rfl | rfl | rfl <;> exact ⟨rfl, rfl⟩

theorem tn_caps {f : Nat → List Int → List Way} {mn : Nat} {mx : Option Nat} {lz : Bool} {n : Nat} (hb : ∀ i c, i ≤ n → ∀ x ∈ f i c, i ≤ x.1 ∧ x.1 ≤ n) (hf : ∀ i c, i ≤ n → CapsOK n c → ∀ x ∈ f i c, CapsOK n x.2) : ∀ (k count i : Nat) (c : List Int), i ≤ n → CapsOK n c → ∀ x ∈ tn f mn mx lz k count i c, CapsOK n x.2 := by
  intro k
  induction k with
  | zero => intro count i c hi hc x hx; simp [tn] at hx
  | succ k ih =>
    intro count i c hi hc x hx
    have hmore : ∀ nx, x ∈ (f i c).flatMap (fun x => if count < nx ∨ i < x.1 then tn f mn mx lz k nx x.1 x.2 else []) → CapsOK n x.2 := by
      intro nx hx
      obtain ⟨y, hy, hx⟩ := List.mem_flatMap.1 hx
      split at hx
      · exact ih nx y.1 y.2 (hb i c hi y hy).2 (hf i c hi hc y hy) x hx
      · simp at hx
    unfold tn at hx
    split at hx
    · simp at hx; subst hx; exact hc
    · dsimp only at hx
      split at hx
      · exact hmore _ hx
      · split at hx
        · rcases List.mem_cons.1 hx with rfl | hx
          · exact hc
          · exact hmore _ hx
        · rcases List.mem_append.1 hx with hx | hx
          · exact hmore _ hx
          · simp at hx; subst hx; exact hc

theorem all_caps {s : List UInt8} : ∀ (r : RE) (i : Nat) (c : List Int), WF r → i ≤ s.length → CapsOK s.length c → ∀ x ∈ all s r i c, CapsOK s.length x.2 := by
  intro r
  induction r with
  | skip | region _ _ _ | exit _ | refuse _ | loop _ _ | scope _ _ => intro i c _ hi hc x hx; simp [all] at hx; subst hx; exact hc
  | goto S =>
    intro i c _ hi hc x hx
    simp only [all] at hx
    split at hx
    · split at hx
      · simp at hx; subst hx; exact hc
      · simp at hx
    · simp at hx
  | ret => intro i c _ hi hc x hx; simp only [all] at hx; split at hx <;> simp at hx; subst hx; exact hc
  | label _ => intro i c _ hi hc x hx; simp only [all] at hx; split at hx <;> simp at hx; subst hx; exact hc
  | seq a b iha ihb =>
    intro i c hw hi hc x hx
    simp only [all] at hx
    obtain ⟨y, hy, hx⟩ := List.mem_flatMap.1 hx
    exact ihb y.1 y.2 hw.2 (all_bnd a i c hi y hy).2 (iha i c hw.1 hi hc y hy) x hx
  | cond _ a b iha ihb =>
    intro i c hw hi hc x hx
    simp only [all] at hx
    rcases List.mem_append.1 hx with hx | hx
    · exact iha i c hw.1 hi hc x hx
    · exact ihb i c hw.2 hi hc x hx
  | rangeFunc _ _ xx a _ iha =>
    intro i c hw hi hc x hx
    simp only [all] at hx
    exact tn_caps (all_bnd a) (fun i c hi hc => iha i c hw.1 hi hc) _ _ i c hi hc x hx
  | block g a iha =>
    intro i c hw hi hc x hx
    simp only [all] at hx
    obtain ⟨y, hy, rfl⟩ := List.mem_map.1 hx
    have hb := all_bnd a i c hi y hy
    exact (iha i c hw.1 hi hc y hy).put hw.2.2.2 hb.1 hb.2

/-- What a match tells. -/
structure MatOK (n i : Nat) (c : List Int) : Prop where
  caps : CapsOK n c
  whole : ∃ a b : Nat, i ≤ a ∧ a ≤ b ∧ b ≤ n ∧ c[0]? = some (a : Int) ∧ c[1]? = some (b : Int)

theorem matAt_ok {s : List UInt8} {r : RE} {i : Nat} {c : List Int} (hw : WF r) (hi : i ≤ s.length) (h : matAt s r i = some c) : MatOK s.length i c := by
  unfold matAt at h
  cases hh : (all s r i nocaps).head? with
  | none => rw [hh] at h; simp at h
  | some x =>
    rw [hh] at h
    simp only [Option.map_some, Option.some.injEq] at h
    subst h
    have hx := List.mem_of_mem_head? hh
    have hb := all_bnd r i nocaps hi x hx
    have hc := all_caps r i nocaps hw hi (caps_no _) x hx
    have := hc.put (g := 0) (by omega) hb.1 hb.2
    refine ⟨this, i, x.1, by omega, hb.1, hb.2, ?_, ?_⟩
    · rw [List.getElem?_set_ne (by omega), List.getElem?_set_self (by rw [hc.len]; omega)]
    · rw [List.getElem?_set_self (by rw [List.length_set, hc.len]; omega)]

theorem lft_ok {s : List UInt8} {r : RE} {i : Nat} {c : List Int} (hw : WF r) (h : lft s r i = some c) : MatOK s.length i c := by
  unfold lft at h
  obtain ⟨a, ha, hm⟩ := List.exists_of_findSome?_eq_some h
  obtain ⟨k, hk, rfl⟩ := List.mem_range'.1 ha
  have := matAt_ok hw (by omega) hm
  obtain ⟨hc, x, y, h1, h2⟩ := this
  exact ⟨hc, x, y, by omega, h2⟩

/-! ### The definition's joins -/

/-- The rows of A, then those of B whose end stands in neither yet. -/
def jn (A B : List Way) : List Way := A ++ ddS (ends A) B

theorem dd_app (A B : List Way) : dd (A ++ B) = dd A ++ ddS (ends A) B := by
  unfold dd
  rw [ddS_app]
  congr 1
  exact ddS_congr (by intro e; simp) B

theorem jn_dd (A B : List Way) : jn (dd A) (dd B) = dd (A ++ B) := by
  unfold jn
  rw [dd_app, Eqv.at (dd_idem B)]
  congr 1
  exact ddS_congr (fun e => ends_dd e) B

theorem fold_dd {f : Way → List Way} : ∀ (L A : List Way), L.foldl (fun o x => jn o (dd (f x))) (dd A) = dd (A ++ L.flatMap f) := by
  intro L
  induction L with
  | nil => intro A; simp
  | cons x L ih => intro A; rw [List.foldl_cons, jn_dd, ih]; simp

/-- Over a list without doubles. -/
theorem flat_dd {f : Way → List Way} (hf : ∀ x y, x.1 = y.1 → ∀ e, e ∈ ends (f x) ↔ e ∈ ends (f y)) (L : List Way) : dd (L.flatMap f) = (dd L).foldl (fun o x => jn o (dd (f x))) [] := by
  have h1 : ([] : List Way) = dd [] := rfl
  rw [h1, fold_dd, List.nil_append]
  exact (Eqv.flat hf (dd_idem L).symm (fun x _ => Eqv.refl _))

theorem dd_seq {s : List UInt8} (a b : RE) (i : Nat) (c : List Int) : dd (all s (.seq a b) i c) = (dd (all s a i c)).foldl (fun o x => jn o (dd (all s b x.1 x.2))) [] := by
  simp only [all]
  apply flat_dd
  intro x y h e
  rw [h, all_ends b y.1 x.2 y.2]

theorem dd_cond {s : List UInt8} (o : Operand) (a b : RE) (i : Nat) (c : List Int) : dd (all s (.cond o a b) i c) = jn (dd (all s a i c)) (dd (all s b i c)) := by
  rw [jn_dd]; rfl

theorem dd_block {s : List UInt8} (g : Nat) (a : RE) (i : Nat) (c : List Int) : dd (all s (.block g a) i c) = (dd (all s a i c)).map (fun x => (x.1, (x.2.set (2 * g) i).set (2 * g + 1) x.1)) := by
  simp only [all]
  exact ddS_map (fun l e => (l.set (2 * g) i).set (2 * g + 1) e) [] (all s a i c)

theorem ddS_single (V : List Nat) (x : Way) : ddS V [x] = if x.1 ∈ V then [] else [x] := by
  simp [ddS]

/-- The turns, joined. -/
theorem dd_turns {f : Nat → List Int → List Way} {mn : Nat} {mx : Option Nat} {lz : Bool} (hf : ∀ i c d, ends (f i c) = ends (f i d)) (k count i : Nat) (c : List Int) :
    dd (tn f mn mx lz (k + 1) count i c) = if mn ≤ count ∧ (∃ m, mx = some m ∧ m ≤ count) then [(i, c)] else
      if count < mn then (dd (f i c)).foldl (fun o x => jn o (if count < nxt mn mx count ∨ i < x.1 then dd (tn f mn mx lz k (nxt mn mx count) x.1 x.2) else [])) []
      else if lz then jn [(i, c)] ((dd (f i c)).foldl (fun o x => jn o (if count < nxt mn mx count ∨ i < x.1 then dd (tn f mn mx lz k (nxt mn mx count) x.1 x.2) else [])) [])
      else jn ((dd (f i c)).foldl (fun o x => jn o (if count < nxt mn mx count ∨ i < x.1 then dd (tn f mn mx lz k (nxt mn mx count) x.1 x.2) else [])) []) [(i, c)] := by
  have hfold : (dd (f i c)).foldl (fun o x => jn o (if count < nxt mn mx count ∨ i < x.1 then dd (tn f mn mx lz k (nxt mn mx count) x.1 x.2) else [])) [] = dd ((f i c).flatMap (fun x => if count < nxt mn mx count ∨ i < x.1 then tn f mn mx lz k (nxt mn mx count) x.1 x.2 else [])) := by
    rw [flat_dd]
    · congr 1
      funext o x
      split <;> rfl
    · intro x y h e
      rw [h]
      split
      · rw [tn_ends hf k _ y.1 x.2 y.2]
      · exact Iff.rfl
  rw [hfold]
  conv => lhs; unfold tn
  split
  · rename_i h
    simp [dd, ddS]
  · rename_i h
    dsimp only
    split
    · rfl
    · split
      · have : (i, c) :: (f i c).flatMap (fun x => if count < nxt mn mx count ∨ i < x.1 then tn f mn mx lz k (nxt mn mx count) x.1 x.2 else []) = [(i, c)] ++ (f i c).flatMap (fun x => if count < nxt mn mx count ∨ i < x.1 then tn f mn mx lz k (nxt mn mx count) x.1 x.2 else []) := rfl
        rw [this, ← jn_dd]
        simp [dd, ddS]
      · rw [← jn_dd]
        simp [dd, ddS]

/-! ### The scan -/

def capB (c : List Int) : Nat := (c.getD 0 0).toNat
def capE (c : List Int) : Nat := (c.getD 1 0).toNat
def nextF (c : List Int) : Nat := if capE c = capB c then capE c + 1 else capE c

/-- All matches from a place on. -/
def scanF (s : List UInt8) (r : RE) : Nat → Nat → List (List Int)
  | 0, _ => []
  | k + 1, i => if i ≤ s.length then match lft s r i with
    | none => []
    | some c => c :: scanF s r k (nextF c)
    else []

theorem MatOK.cap {n i : Nat} {c : List Int} (h : MatOK n i c) : c[0]? = some (capB c : Int) ∧ c[1]? = some (capE c : Int) ∧ i ≤ capB c ∧ capB c ≤ capE c ∧ capE c ≤ n ∧ i < nextF c ∧ capE c ≤ nextF c := by
  obtain ⟨a, b, h1, h2, h3, h4, h5⟩ := h.whole
  have e1 : capB c = a := by unfold capB; rw [List.getD, h4]; simp
  have e2 : capE c = b := by unfold capE; rw [List.getD, h5]; simp
  refine ⟨by rw [h4, e1], by rw [h5, e2], by omega, by omega, by omega, ?_, ?_⟩
  · unfold nextF; split <;> omega
  · unfold nextF; split <;> omega

theorem scan_fuel {s : List UInt8} {r : RE} (hw : WF r) : ∀ (k j i : Nat), s.length + 1 - i ≤ k → s.length + 1 - i ≤ j → scanF s r k i = scanF s r j i := by
  intro k
  induction k with
  | zero =>
    intro j i h1 h2
    cases j with
    | zero => rfl
    | succ j => simp only [scanF]; rw [if_neg (by omega)]
  | succ k ih =>
    intro j i h1 h2
    cases j with
    | zero => simp only [scanF]; rw [if_neg (by omega)]
    | succ j =>
      simp only [scanF]
      split
      · cases h : lft s r i with
        | none => rfl
        | some c =>
          have := (lft_ok hw h).cap
          simp only
          rw [ih j (nextF c) (by omega) (by omega)]
      · rfl

/-- All matches. -/
def scanAll (s : List UInt8) (r : RE) (i : Nat) : List (List Int) := scanF s r (s.length + 1 - i) i

theorem scanAll_none {s : List UInt8} {r : RE} {i : Nat} (h : lft s r i = none) : scanAll s r i = [] := by
  unfold scanAll
  cases hk : s.length + 1 - i with
  | zero => rfl
  | succ k => simp only [scanF]; rw [h]; split <;> rfl

theorem scanAll_past {s : List UInt8} {r : RE} {i : Nat} (h : s.length < i) : scanAll s r i = [] := by
  unfold scanAll
  rw [show s.length + 1 - i = 0 by omega]
  rfl

theorem scanAll_some {s : List UInt8} {r : RE} (hw : WF r) {i : Nat} (hi : i ≤ s.length) {c : List Int} (h : lft s r i = some c) : scanAll s r i = c :: scanAll s r (nextF c) := by
  unfold scanAll
  obtain ⟨k, hk⟩ : ∃ k, s.length + 1 - i = k + 1 := ⟨s.length - i, by omega⟩
  rw [hk]
  simp only [scanF]
  rw [if_pos hi, h]
  have := (lft_ok hw h).cap
  simp only
  rw [scan_fuel hw k (s.length + 1 - nextF c) (nextF c) (by omega) (by omega)]

end Go.Proofs.Qxb6500567aGreat
