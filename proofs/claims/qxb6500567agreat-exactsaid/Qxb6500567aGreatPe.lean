import Derived.Test.Qxb6500567aGreatPd
/- The core form of a tree, plain: it means the same. -/
namespace Go.Proofs.Qxb6500567aGreat
set_option linter.unusedVariables false
set_option linter.unusedSimpArgs false

/-- 0: just the empty string; 1: never; 2: a tree. -/
def shp : RE → Nat
  | .goto S => if S = 0 then 1 else 2
  | .ret => 2
  | .label _ => 2
  | .seq a b => if shp a = 1 ∨ shp b = 1 then 1 else if shp a = 0 ∧ shp b = 0 then 0 else 2
  | .cond _ a b => if shp a = 1 then shp b else if shp b = 1 ∨ (shp a = 0 ∧ shp b = 0) then shp a else 2
  | .block _ a => if shp a = 1 then 1 else 2
  | .rangeFunc _ _ xx a => if shp a = 1 ∧ 0 < rmn xx then 1 else if shp a ≠ 2 ∨ rmx xx = some 0 then 0 else 2
  | .skip => 0
  | .region _ _ _ => 0
  | .loop _ => 0
  | .exit _ => 0
  | .scope _ => 0
  | .refuse _ => 0

/-- Up to k turns more. -/
def optn (x : RE) (lz : Bool) : Nat → RE
  | 0 => .emp
  | k + 1 => if lz then .alt .emp (if k = 0 then x else .cat x (optn x lz k)) else .alt (if k = 0 then x else .cat x (optn x lz k)) .emp

/-- k + 1 turns. -/
def chn (x : RE) : Nat → RE
  | 0 => x
  | k + 1 => .cat (chn x k) x

/-- The tail of a repeat. -/
def tailR (x : RE) (mn : Nat) (mx : Option Nat) (lz : Bool) : Option RE :=
  match mx with
  | none => some (.rep x 0 none lz)
  | some m => if mn < m then some (optn x lz (m - mn)) else none

def unr (x : RE) (mn : Nat) (mx : Option Nat) (lz : Bool) : RE :=
  match mn, tailR x mn mx lz with
  | 0, some t => t
  | 0, none => .emp
  | k + 1, none => chn x k
  | k + 1, some t => .cat (chn x k) t

def core : RE → RE
  | .seq a b => if shp a = 0 then core b else if shp b = 0 then core a else .cat (core a) (core b)
  | .cond _ a b => if shp a = 1 then core b else if shp b = 1 then core a else .alt (if shp a = 0 then .emp else if shp a = 1 then .set 0 else core a) (if shp b = 0 then .emp else if shp b = 1 then .set 0 else core b)
  | .block g a => .grp (if shp a = 0 then .emp else if shp a = 1 then .set 0 else core a) g
  | .rangeFunc _ _ xx a => unr (core a) (rmn xx) (rmx xx) (rlz xx)
  | .goto S => .set S
  | .ret => .bgn
  | .label _ => .fin
  | .skip => .emp
  | .region _ _ _ => .emp
  | .loop _ => .emp
  | .exit _ => .emp
  | .scope _ => .emp
  | .refuse _ => .emp

def child (r : RE) : RE := if shp r = 0 then .emp else if shp r = 1 then .set 0 else core r

/-- What the parser sees to. -/
def WF : RE → Prop
  | .goto S => S < 2 ^ 256
  | .ret => True
  | .label _ => True
  | .seq a b => WF a ∧ WF b
  | .cond _ a b => WF a ∧ WF b
  | .rangeFunc _ _ xx a => WF a ∧ (rmx xx = none → nul a = false) ∧ rmn xx ≤ 3 ∧ (∀ m, rmx xx = some m → rmn xx ≤ m ∧ m ≤ 3)
  | .block g a => WF a ∧ g ∉ gs a ∧ 1 ≤ g ∧ g ≤ 3
  | .skip => True
  | .region _ _ _ => True
  | .loop _ => True
  | .exit _ => True
  | .scope _ => True
  | .refuse _ => True

theorem shp_cases (r : RE) : shp r = 0 ∨ shp r = 1 ∨ shp r = 2 := by
  induction r with
  | skip | region _ _ _ | exit _ | refuse _ | loop _ _ | scope _ _ | ret | label _ => simp [shp]
  | goto S => simp only [shp]; split <;> simp
  | seq a b ia ib =>
    simp only [shp]
    split
    · simp
    · split <;> simp
  | cond cc a b ia ib =>
    simp only [shp]
    split
    · exact ib
    · split
      · exact ia
      · simp
  | block g a ia => simp only [shp]; split <;> simp
  | rangeFunc _ _ xx a _ ia =>
    simp only [shp]
    split
    · simp
    · split <;> simp

theorem shp_nul : ∀ {r : RE}, WF r → shp r = 0 → nul r = true := by
  intro r
  induction r with
  | skip | region _ _ _ | exit _ | refuse _ | loop _ _ | scope _ _ => intro _ _; rfl
  | goto S => intro _ h; simp only [shp] at h; split at h <;> simp at h
  | ret => intro _ _; rfl
  | label _ => intro _ _; rfl
  | seq a b ia ib =>
    intro hw h
    simp only [shp] at h
    split at h
    · simp at h
    · split at h
      · rename_i h2; simp [nul, ia hw.1 h2.1, ib hw.2 h2.2]
      · simp at h
  | cond cc a b ia ib =>
    intro hw h
    simp only [shp] at h
    split at h
    · simp [nul, ib hw.2 h]
    · split at h
      · simp [nul, ia hw.1 h]
      · simp at h
  | block g a ia => intro hw h; simp only [shp] at h; split at h <;> simp at h
  | rangeFunc _ _ xx a _ ia =>
    intro hw h
    simp only [shp] at h
    split at h
    · simp at h
    · rename_i h1
      split at h
      · rename_i h2
        simp only [nul]
        by_cases hm : (rmn xx) = 0
        · simp [hm]
        · rcases h2 with h2 | h2
          · rcases shp_cases a with h3 | h3 | h3
            · simp [ia hw.1 h3]
            · exact absurd ⟨h3, by omega⟩ h1
            · exact absurd h3 h2
          · have := (hw.2.2.2 0 h2).1; omega
      · simp at h

/-! ### Turns, with fuel enough -/

def tT (f : Nat → List Int → List Way) (mn : Nat) (mx : Option Nat) (lz : Bool) (n count i : Nat) (c : List Int) : List Way := tn f mn mx lz (tm mn mx n count i) count i c

theorem tT_eq {f : Nat → List Int → List Way} {mn : Nat} {mx : Option Nat} {lz : Bool} {n : Nat} (hf : ∀ i c, i ≤ n → ∀ x ∈ f i c, i ≤ x.1 ∧ x.1 ≤ n) (hs : mx = none → ∀ i c, i ≤ n → ∀ x ∈ f i c, i < x.1) {count i : Nat} (hi : i ≤ n) (c : List Int) :
    tT f mn mx lz n count i c = if mn ≤ count ∧ (∃ m, mx = some m ∧ m ≤ count) then [(i, c)] else
      if count < mn then (f i c).flatMap (fun x => tT f mn mx lz n (nxt mn mx count) x.1 x.2) else if lz then (i, c) :: (f i c).flatMap (fun x => tT f mn mx lz n (nxt mn mx count) x.1 x.2) else (f i c).flatMap (fun x => tT f mn mx lz n (nxt mn mx count) x.1 x.2) ++ [(i, c)] := by
  obtain ⟨k, hk⟩ : ∃ k, tm mn mx n count i = k + 1 := ⟨tm mn mx n count i - 1, by unfold tm; omega⟩
  unfold tT
  rw [hk]
  conv => lhs; unfold tn
  split
  · rfl
  · rename_i hstop
    have hmore : (f i c).flatMap (fun x => if count < nxt mn mx count ∨ i < x.1 then tn f mn mx lz k (nxt mn mx count) x.1 x.2 else []) = (f i c).flatMap (fun x => tn f mn mx lz (tm mn mx n (nxt mn mx count) x.1) (nxt mn mx count) x.1 x.2) := by
      apply flat_congr
      intro x hx
      have hb := hf i c hi x hx
      have hc : count < nxt mn mx count ∨ i < x.1 := by
        unfold nxt
        split
        · rename_i hu; exact .inr (hs hu.2 i c hi x hx)
        · exact .inl (by omega)
      rw [if_pos hc]
      apply tn_fuel hf _ _ _ _ _ hb.2 _ (Nat.le_refl _)
      have hlt : tm mn mx n (nxt mn mx count) x.1 < tm mn mx n count i := by
        unfold nxt at hc ⊢
        unfold tm
        by_cases hu : mn ≤ count ∧ mx = none
        · rw [if_pos hu] at hc ⊢; omega
        · rw [if_neg hu] at hc ⊢
          have : count < mn ∨ count < mx.getD 0 := by
            by_cases h1 : mn ≤ count
            · right
              cases hm : mx with
              | none => exact absurd ⟨h1, hm⟩ hu
              | some m =>
                simp only [Option.getD_some]
                by_cases h2 : m ≤ count
                · exact absurd ⟨h1, m, hm, h2⟩ hstop
                · omega
            · left; omega
          omega
      omega
    dsimp only
    rw [hmore]

/-- k turns. -/
def turnsF (f : Nat → List Int → List Way) : Nat → Nat → List Int → List Way
  | 0, i, c => [(i, c)]
  | k + 1, i, c => (turnsF f k i c).flatMap (fun x => f x.1 x.2)

theorem turnsF_head (f : Nat → List Int → List Way) : ∀ (k i : Nat) (c : List Int), turnsF f (k + 1) i c = (f i c).flatMap (fun x => turnsF f k x.1 x.2) := by
  intro k
  induction k with
  | zero => intro i c; simp [turnsF]
  | succ k ih =>
    intro i c
    have h1 : turnsF f (k + 1 + 1) i c = (turnsF f (k + 1) i c).flatMap (fun x => f x.1 x.2) := rfl
    rw [h1, ih, List.flatMap_assoc]
    rfl

theorem all_chn {s : List UInt8} (x : RE) : ∀ (k i : Nat) (c : List Int), all s (chn x k) i c = turnsF (all s x) (k + 1) i c := by
  intro k
  induction k with
  | zero => intro i c; simp [chn, turnsF]
  | succ k ih =>
    intro i c
    simp only [chn, all]
    rw [ih]
    rfl

theorem turnsF_bnd {f : Nat → List Int → List Way} {n : Nat} (hf : ∀ i c, i ≤ n → ∀ x ∈ f i c, i ≤ x.1 ∧ x.1 ≤ n) : ∀ (k i : Nat) (c : List Int), i ≤ n → ∀ x ∈ turnsF f k i c, i ≤ x.1 ∧ x.1 ≤ n := by
  intro k
  induction k with
  | zero => intro i c hi x hx; simp [turnsF] at hx; subst hx; exact ⟨Nat.le_refl _, hi⟩
  | succ k ih =>
    intro i c hi x hx
    obtain ⟨y, hy, hx⟩ := List.mem_flatMap.1 hx
    have h1 := ih i c hi y hy
    have h2 := hf y.1 y.2 h1.2 x hx
    omega

/-- The turns that must be. -/
theorem tT_must {f : Nat → List Int → List Way} {mn : Nat} {mx : Option Nat} {lz : Bool} {n : Nat} (hf : ∀ i c, i ≤ n → ∀ x ∈ f i c, i ≤ x.1 ∧ x.1 ≤ n) (hs : mx = none → ∀ i c, i ≤ n → ∀ x ∈ f i c, i < x.1) :
    ∀ (k count i : Nat) (c : List Int), i ≤ n → count + k = mn → tT f mn mx lz n count i c = (turnsF f k i c).flatMap (fun x => tT f mn mx lz n mn x.1 x.2) := by
  intro k
  induction k with
  | zero => intro count i c hi h; simp [turnsF, ← h]
  | succ k ih =>
    intro count i c hi h
    rw [tT_eq hf hs hi, if_neg (by omega), if_pos (by omega), turnsF_head, List.flatMap_assoc]
    apply flat_congr
    intro x hx
    have hn : nxt mn mx count = count + 1 := by unfold nxt; rw [if_neg (by omega)]
    rw [hn]
    exact ih (count + 1) x.1 x.2 (hf i c hi x hx).2 (by omega)

/-- The turns that may be. -/
theorem tT_opt {s : List UInt8} {x : RE} {mn m : Nat} {lz : Bool} : ∀ (k count i : Nat) (c : List Int), i ≤ s.length → mn ≤ count → count + k = m →
    tT (all s x) mn (some m) lz s.length count i c = if k = 0 then [(i, c)] else all s (optn x lz k) i c := by
  intro k
  induction k with
  | zero =>
    intro count i c hi hc hm
    rw [tT_eq (fun i c hi y hy => all_bnd x i c hi y hy) (fun h => by cases h) hi, if_pos ⟨hc, m, rfl, by omega⟩, if_pos rfl]
  | succ k ih =>
    intro count i c hi hc hm
    have hn : nxt mn (some m) count = count + 1 := by unfold nxt; rw [if_neg (by simp)]
    have hmore : (all s x i c).flatMap (fun y => tT (all s x) mn (some m) lz s.length (nxt mn (some m) count) y.1 y.2) = all s (if k = 0 then x else .cat x (optn x lz k)) i c := by
      by_cases hk : k = 0
      · subst hk
        rw [if_pos rfl, hn]
        have : (all s x i c).flatMap (fun y => tT (all s x) mn (some m) lz s.length (count + 1) y.1 y.2) = (all s x i c).flatMap (fun y => [y]) := by
          apply flat_congr
          intro y hy
          rw [ih (count + 1) y.1 y.2 (all_bnd x i c hi y hy).2 (by omega) (by omega), if_pos rfl]
        rw [this]
        simp
      · rw [if_neg hk, hn]
        simp only [all]
        apply flat_congr
        intro y hy
        rw [ih (count + 1) y.1 y.2 (all_bnd x i c hi y hy).2 (by omega) (by omega), if_neg hk]
    rw [tT_eq (fun i c hi y hy => all_bnd x i c hi y hy) (fun h => by cases h) hi, if_neg (by rintro ⟨_, m', h1, h2⟩; have := Option.some.inj h1; omega), if_neg (by omega), if_neg (show ¬ (k + 1 = 0) by omega), hmore]
    have ho : optn x lz (k + 1) = if lz then .alt .emp (if k = 0 then x else .cat x (optn x lz k)) else .alt (if k = 0 then x else .cat x (optn x lz k)) .emp := rfl
    rw [ho]
    cases lz <;> simp [all]

/-- Behind the turns that must be, the count does not matter. -/
theorem tn_star {f : Nat → List Int → List Way} {mn : Nat} {lz : Bool} : ∀ (k i : Nat) (c : List Int), tn f mn none lz k mn i c = tn f 0 none lz k 0 i c := by
  intro k
  induction k with
  | zero => intro i c; rfl
  | succ k ih =>
    intro i c
    have h1 : nxt mn none mn = mn := by simp [nxt]
    have h2 : nxt 0 none 0 = 0 := by simp [nxt]
    have hmore : (f i c).flatMap (fun x => if mn < nxt mn none mn ∨ i < x.1 then tn f mn none lz k (nxt mn none mn) x.1 x.2 else []) = (f i c).flatMap (fun x => if 0 < nxt 0 none 0 ∨ i < x.1 then tn f 0 none lz k (nxt 0 none 0) x.1 x.2 else []) := by
      rw [h1, h2]
      apply flat_congr
      intro x _
      simp only [Nat.lt_irrefl, false_or]
      split
      · exact ih _ _
      · rfl
    unfold tn
    rw [if_neg (by simp), if_neg (by simp)]
    dsimp only
    rw [hmore]
    simp

/-- Unrolling keeps all ways. -/
theorem all_unr {s : List UInt8} {x : RE} {mn : Nat} {mx : Option Nat} {lz : Bool} (hn : mx = none → nul x = false) (hm : ∀ m, mx = some m → mn ≤ m) {i : Nat} (hi : i ≤ s.length) (c : List Int) :
    all s (unr x mn mx lz) i c = all s (.rep x mn mx lz) i c := by
  have hf : ∀ i c, i ≤ s.length → ∀ y ∈ all s x i c, i ≤ y.1 ∧ y.1 ≤ s.length := fun i c hi y hy => all_bnd x i c hi y hy
  have hs : mx = none → ∀ i c, i ≤ s.length → ∀ y ∈ all s x i c, i < y.1 := fun h i c hi y hy => all_str x i c (hn h) hi y hy
  have hR : all s (.rep x mn mx lz) i c = (turnsF (all s x) mn i c).flatMap (fun y => tT (all s x) mn mx lz s.length mn y.1 y.2) := by rw [all_rep]; exact tT_must hf hs mn 0 i c hi (by omega)
  have htail : ∀ i c, i ≤ s.length → tT (all s x) mn mx lz s.length mn i c = match tailR x mn mx lz with | none => [(i, c)] | some t => all s t i c := by
    intro i c hi
    cases mx with
    | none =>
      simp only [tailR, all]
      unfold tT
      rw [tn_star]
      apply tn_fuel hf _ _ _ _ _ hi
      · unfold tm; simp
      · exact Nat.le_refl _
    | some m =>
      have hle := hm m rfl
      rw [tT_opt (m - mn) mn i c hi (Nat.le_refl _) (by omega)]
      simp only [tailR]
      by_cases hlt : mn < m
      · rw [if_neg (by omega), if_pos hlt]
      · rw [if_pos (by omega), if_neg hlt]
  rw [hR]
  have hT : (turnsF (all s x) mn i c).flatMap (fun y => tT (all s x) mn mx lz s.length mn y.1 y.2) = (turnsF (all s x) mn i c).flatMap (fun y => match tailR x mn mx lz with | none => [y] | some t => all s t y.1 y.2) := by
    apply flat_congr
    intro y hy
    rw [htail y.1 y.2 (turnsF_bnd hf mn i c hi y hy).2]
  rw [hT]
  unfold unr
  cases mn with
  | zero =>
    cases tailR x 0 mx lz with
    | none => simp [turnsF, all]
    | some t => simp [turnsF]
  | succ k =>
    cases tailR x (k + 1) mx lz with
    | none => simp [all_chn]
    | some t => simp only [all, all_chn]

theorem tn_eqv {f g : Nat → List Int → List Way} {mn : Nat} {mx : Option Nat} {lz : Bool} {n : Nat} (hfg : ∀ i c, i ≤ n → Eqv (f i c) (g i c)) (hf : ∀ i c d, ends (f i c) = ends (f i d)) (hb : ∀ i c, i ≤ n → ∀ x ∈ g i c, i ≤ x.1 ∧ x.1 ≤ n) :
    ∀ (k count i : Nat) (c : List Int), i ≤ n → Eqv (tn f mn mx lz k count i c) (tn g mn mx lz k count i c) := by
  intro k
  induction k with
  | zero => intro count i c _; exact Eqv.refl _
  | succ k ih =>
    intro count i c hi
    have hmore : Eqv ((f i c).flatMap (fun x => if count < nxt mn mx count ∨ i < x.1 then tn f mn mx lz k (nxt mn mx count) x.1 x.2 else [])) ((g i c).flatMap (fun x => if count < nxt mn mx count ∨ i < x.1 then tn g mn mx lz k (nxt mn mx count) x.1 x.2 else [])) := by
      apply Eqv.flat _ (hfg i c hi)
      · intro x hx
        split
        · exact ih _ _ _ (hb i c hi x hx).2
        · exact Eqv.refl _
      · intro x y hxy e
        rw [hxy]
        split
        · rw [tn_ends hf k _ y.1 x.2 y.2]
        · exact Iff.rfl
    unfold tn
    split
    · exact Eqv.refl _
    · dsimp only
      split
      · exact hmore
      · split
        · exact Eqv.app (Eqv.refl [(i, c)]) hmore
        · exact Eqv.app hmore (Eqv.refl _)

theorem Eqv.nil {A : List Way} (h : Eqv A []) : A = [] := by
  cases A with
  | nil => rfl
  | cons x xs => have : dd (x :: xs) = [] := h; simp [ddS] at this

/-- Only one way, at the start. -/
theorem dd_same {i : Nat} {c : List Int} : ∀ {L : List Way}, (∀ x ∈ L, x = (i, c)) → L ≠ [] → Eqv L [(i, c)] := by
  intro L h hne
  cases L with
  | nil => exact absurd rfl hne
  | cons x xs =>
    have hx := h x (by simp)
    subst hx
    unfold Eqv
    simp only [ddS, List.not_mem_nil, if_false]
    rw [ddS_nil]
    intro y hy
    rw [h y (by simp [hy])]
    simp

theorem dd_sing {A : List Way} {i : Nat} {c : List Int} (h : Eqv A [(i, c)]) : Eqv A [(i, c)] ∧ A ≠ [] := ⟨h, by rintro rfl; exact absurd h (by simp [Eqv, ddS])⟩

theorem tn_empty {f : Nat → List Int → List Way} {mn m : Nat} {lz : Bool} (hm : mn ≤ m) {i : Nat} {c : List Int} (hf : Eqv (f i c) [(i, c)]) (hfe : ∀ i c d, ends (f i c) = ends (f i d)) : ∀ (k count : Nat), count ≤ m → m - count < k → Eqv (tn f mn (some m) lz k count i c) [(i, c)] := by
  intro k
  induction k with
  | zero => intro count _ h; omega
  | succ k ih =>
    intro count hc hk
    by_cases hs : mn ≤ count ∧ (∃ m', some m = some m' ∧ m' ≤ count)
    · unfold tn; rw [if_pos hs]; exact Eqv.refl _
    · have hn : nxt mn (some m) count = count + 1 := by unfold nxt; rw [if_neg (by simp)]
      have hlt : count < m := by
        by_cases h : count < m
        · exact h
        · exact absurd ⟨by omega, m, rfl, by omega⟩ hs
      have hmore : Eqv ((f i c).flatMap (fun x => if count < nxt mn (some m) count ∨ i < x.1 then tn f mn (some m) lz k (nxt mn (some m) count) x.1 x.2 else [])) [(i, c)] := by
        have h1 : Eqv ((f i c).flatMap (fun x => if count < nxt mn (some m) count ∨ i < x.1 then tn f mn (some m) lz k (nxt mn (some m) count) x.1 x.2 else [])) ([((i, c) : Way)].flatMap (fun x => if count < nxt mn (some m) count ∨ i < x.1 then tn f mn (some m) lz k (nxt mn (some m) count) x.1 x.2 else [])) := by
          apply Eqv.flat _ hf
          · intro x _; exact Eqv.refl _
          · intro x y hxy e
            rw [hxy]
            split
            · rw [tn_ends hfe k _ y.1 x.2 y.2]
            · exact Iff.rfl
        refine h1.trans ?_
        rw [hn]
        simp only [List.flatMap_cons, List.flatMap_nil, List.append_nil]
        rw [if_pos (.inl (by omega))]
        exact ih (count + 1) (by omega) (by omega)
      unfold tn
      rw [if_neg hs]
      dsimp only
      split
      · exact hmore
      · split
        · exact (Eqv.app (Eqv.refl [(i, c)]) hmore).trans (dd_same (by simp) (by simp))
        · exact (Eqv.app hmore (Eqv.refl [(i, c)])).trans (dd_same (by simp) (by simp))

theorem tn_never {f : Nat → List Int → List Way} {mx : Option Nat} {lz : Bool} {i : Nat} {c : List Int} (hf : f i c = []) {mn k count : Nat} (hk : 0 < k) : tn f mn mx lz k count i c = if count < mn then [] else [(i, c)] := by
  cases k with
  | zero => omega
  | succ k =>
    unfold tn
    split
    · rw [if_neg (by omega)]
    · dsimp only
      rw [hf]
      split
      · simp
      · cases lz <;> simp

/-- The core form means the same. -/
theorem core_ok {s : List UInt8} : ∀ (r : RE), WF r → ∀ (i : Nat) (c : List Int), i ≤ s.length →
    (shp r = 0 → Eqv (all s r i c) [(i, c)]) ∧ (shp r = 1 → all s r i c = []) ∧ (shp r = 2 → Eqv (all s (core r) i c) (all s r i c)) := by
  intro r
  induction r with
  | skip | region _ _ _ | exit _ | refuse _ | loop _ _ | scope _ _ => intro _ i c _; exact ⟨fun _ => Eqv.refl _, fun h => by simp [shp] at h, fun h => by simp [shp] at h⟩
  | goto S =>
    intro _ i c _
    refine ⟨fun h => by simp only [shp] at h; split at h <;> simp at h, fun h => ?_, fun _ => Eqv.refl _⟩
    simp only [shp] at h
    split at h
    · rename_i h0
      subst h0
      simp only [all]
      split
      · simp
      · rfl
    · simp at h
  | ret => intro _ i c _; exact ⟨fun h => by simp [shp] at h, fun h => by simp [shp] at h, fun _ => Eqv.refl _⟩
  | label _ => intro _ i c _; exact ⟨fun h => by simp [shp] at h, fun h => by simp [shp] at h, fun _ => Eqv.refl _⟩
  | seq a b ia ib =>
    intro hw i c hi
    have iha := ia hw.1
    have ihb := ib hw.2
    have hfe : ∀ x y : Way, x.1 = y.1 → ∀ e, e ∈ ends (all s b x.1 x.2) ↔ e ∈ ends (all s b y.1 y.2) := fun x y h e => by rw [h, all_ends b y.1 x.2 y.2]
    have emptyA : shp a = 0 → Eqv (all s (.cat a b) i c) (all s b i c) := by
      intro ha
      have := Eqv.flat (f := fun x => all s b x.1 x.2) (g := fun x => all s b x.1 x.2) hfe ((iha i c hi).1 ha) (fun x _ => Eqv.refl _)
      simpa [all] using this
    have emptyB : shp b = 0 → Eqv (all s (.cat a b) i c) (all s a i c) := by
      intro hb
      have := Eqv.flat (f := fun x => all s b x.1 x.2) (g := fun x => [x]) hfe (Eqv.refl (all s a i c)) (fun x hx => (ihb x.1 x.2 (all_bnd a i c hi x hx).2).1 hb)
      simpa [all] using this
    refine ⟨fun h => ?_, fun h => ?_, fun h => ?_⟩
    · simp only [shp] at h
      split at h
      · simp at h
      · split at h
        · rename_i h2; exact (emptyA h2.1).trans ((ihb i c hi).1 h2.2)
        · simp at h
    · simp only [shp] at h
      split at h
      · rename_i h1
        simp only [all]
        rcases h1 with h1 | h1
        · rw [(iha i c hi).2.1 h1]; rfl
        · rw [List.flatMap_eq_nil_iff]
          intro x hx
          exact (ihb x.1 x.2 (all_bnd a i c hi x hx).2).2.1 h1
      · split at h <;> simp at h
    · simp only [shp] at h
      split at h
      · simp at h
      · rename_i h1
        split at h
        · simp at h
        · rename_i h2
          simp only [core]
          by_cases ha : shp a = 0
          · rw [if_pos ha]
            have hb : shp b = 2 := by rcases shp_cases b with hb | hb | hb; exact absurd ⟨ha, hb⟩ h2; exact absurd (.inr hb) h1; exact hb
            exact ((ihb i c hi).2.2 hb).trans (emptyA ha).symm
          · rw [if_neg ha]
            have ha2 : shp a = 2 := by rcases shp_cases a with hb | hb | hb; exact absurd hb ha; exact absurd (.inl hb) h1; exact hb
            by_cases hb : shp b = 0
            · rw [if_pos hb]
              exact ((iha i c hi).2.2 ha2).trans (emptyB hb).symm
            · rw [if_neg hb]
              have hb2 : shp b = 2 := by rcases shp_cases b with hb' | hb' | hb'; exact absurd hb' hb; exact absurd (.inr hb') h1; exact hb'
              simp only [all]
              apply Eqv.flat _ ((iha i c hi).2.2 ha2)
              · intro x hx
                exact (ihb x.1 x.2 (all_bnd a i c hi x hx).2).2.2 hb2
              · intro x y h e
                rw [h, all_ends (core b) y.1 x.2 y.2]
  | cond cc a b ia ib =>
    intro hw i c hi
    have iha := ia hw.1
    have ihb := ib hw.2
    have hch : ∀ (r : RE), ((shp r = 0 → Eqv (all s r i c) [(i, c)]) ∧ (shp r = 1 → all s r i c = []) ∧ (shp r = 2 → Eqv (all s (core r) i c) (all s r i c))) → Eqv (all s (if shp r = 0 then .emp else if shp r = 1 then .set 0 else core r) i c) (all s r i c) := by
      intro r ⟨h1, h2, h3⟩
      split
      · rename_i h; exact (h1 h).symm
      · rename_i h
        split
        · rename_i h'
          rw [h2 h']
          simp only [all]
          split
          · simp [Eqv]
          · exact Eqv.refl _
        · rename_i h'
          exact h3 (by rcases shp_cases r with h4 | h4 | h4; exact absurd h4 h; exact absurd h4 h'; exact h4)
    refine ⟨fun h => ?_, fun h => ?_, fun h => ?_⟩
    · simp only [shp] at h
      simp only [all]
      split at h
      · rename_i h1; rw [(iha i c hi).2.1 h1]; exact (ihb i c hi).1 h
      · split at h
        · rename_i h2
          rcases h2 with h2 | h2
          · rw [(ihb i c hi).2.1 h2, List.append_nil]; exact (iha i c hi).1 h
          · exact (Eqv.app ((iha i c hi).1 h2.1) ((ihb i c hi).1 h2.2)).trans (dd_same (by simp) (by simp))
        · simp at h
    · simp only [shp] at h
      simp only [all]
      split at h
      · rename_i h1; rw [(iha i c hi).2.1 h1, (ihb i c hi).2.1 h]; rfl
      · rename_i h1
        split at h
        · exact absurd h h1
        · simp at h
    · simp only [shp] at h
      simp only [core]
      split at h
      · rename_i h1
        rw [if_pos h1]
        have : all s (.cond cc a b) i c = all s b i c := by simp [all, (iha i c hi).2.1 h1]
        rw [this]
        exact (ihb i c hi).2.2 h
      · rename_i h1
        rw [if_neg h1]
        split at h
        · rename_i h2
          rcases h2 with h2 | h2
          · rw [if_pos h2]
            have : all s (.cond cc a b) i c = all s a i c := by simp [all, (ihb i c hi).2.1 h2]
            rw [this]
            exact (iha i c hi).2.2 h
          · rw [h2.1] at h; simp at h
        · rename_i h2
          rw [if_neg (fun hh => h2 (.inl hh))]
          have h3 := hch a (iha i c hi)
          have h4 := hch b (ihb i c hi)
          simp only [all]
          exact Eqv.app h3 h4
  | block g a ia =>
    intro hw i c hi
    have iha := ia hw.1
    refine ⟨fun h => ?_, fun h => ?_, fun h => ?_⟩
    · simp only [shp] at h; split at h <;> simp at h
    · simp only [shp] at h
      split at h
      · rename_i h1; simp only [all]; rw [(iha i c hi).2.1 h1]; rfl
      · simp at h
    · simp only [shp] at h
      split at h
      · simp at h
      · rename_i h1
        simp only [core, all]
        have hm : ∀ A B : List Way, Eqv A B → Eqv (A.map (fun x => (x.1, (x.2.set (2 * g) i).set (2 * g + 1) x.1))) (B.map (fun x => (x.1, (x.2.set (2 * g) i).set (2 * g + 1) x.1))) := fun A B h => Eqv.map (fun d j => (d.set (2 * g) i).set (2 * g + 1) j) h
        apply hm
        split
        · rename_i h0; exact ((iha i c hi).1 h0).symm
        · rename_i h0
          exact (iha i c hi).2.2 (by rcases shp_cases a with h4 | h4 | h4; exact absurd h4 h0; exact absurd h4 h1; exact h4)
  | rangeFunc _ _ xx a _ ia =>
    intro hw i c hi
    have iha := ia hw.1
    have hwn := hw.2.1
    have hwm := hw.2.2.2
    have htm : 0 < tm (rmn xx) (rmx xx) s.length 0 i := by unfold tm; omega
    refine ⟨fun h => ?_, fun h => ?_, fun h => ?_⟩
    · simp only [shp] at h
      split at h
      · simp at h
      · rename_i h1
        split at h
        · rename_i h2
          simp only [all]
          rcases shp_cases a with ha | ha | ha
          · cases hmx : (rmx xx) with
            | none => exact absurd (shp_nul hw.1 ha) (by rw [hwn hmx]; simp)
            | some m =>
              apply tn_empty (hwm m hmx).1 ((iha i c hi).1 ha) (fun i c d => all_ends a i c d) _ _ (by omega)
              unfold tm; simp; omega
          · have hmn : (rmn xx) = 0 := by
              by_cases h0 : (rmn xx) = 0
              · exact h0
              · exact absurd ⟨ha, by omega⟩ h1
            rw [tn_never ((iha i c hi).2.1 ha) htm, if_neg (by omega)]
            exact Eqv.refl _
          · rcases h2 with h2 | h2
            · exact absurd ha h2
            · have hmn := (hwm 0 h2).1
              rw [h2] at htm ⊢
              obtain ⟨k, hk⟩ : ∃ k, tm (rmn xx) (some 0) s.length 0 i = k + 1 := ⟨tm (rmn xx) (some 0) s.length 0 i - 1, by omega⟩
              rw [hk]
              unfold tn
              rw [if_pos ⟨hmn, 0, rfl, Nat.le_refl _⟩]
              exact Eqv.refl _
        · simp at h
    · simp only [shp] at h
      split at h
      · rename_i h1
        simp only [all]
        rw [tn_never ((iha i c hi).2.1 h1.1) htm, if_pos h1.2]
      · split at h <;> simp at h
    · simp only [shp] at h
      split at h
      · simp at h
      · split at h
        · simp at h
        · rename_i h2
          have ha : shp a = 2 := by
            by_cases h3 : shp a = 2
            · exact h3
            · exact absurd (.inl h3) h2
          have hnul : (rmx xx) = none → nul (core a) = false := by
            intro hmx
            exact core_nul a hw.1 ha (hwn hmx)
          simp only [core]
          rw [all_unr hnul (fun m hm => (hwm m hm).1) hi, all_rep]
          simp only [all]
          exact tn_eqv (fun i c hi => (iha i c hi).2.2 ha) (fun i c d => all_ends (core a) i c d) (fun i c hi x hx => all_bnd a i c hi x hx) _ _ i c hi
where
  core_nul : ∀ (r : RE), WF r → shp r = 2 → nul r = false → nul (core r) = false := by
    intro r
    induction r with
    | skip | region _ _ _ | exit _ | refuse _ | loop _ _ | scope _ _ => intro _ h; simp [shp] at h
    | goto S => intro _ _ _; rfl
    | ret => intro _ _ h; exact h
    | label _ => intro _ _ h; exact h
    | seq a b ia ib =>
      intro hw h hn
      simp only [nul, Bool.and_eq_false_iff] at hn
      simp only [shp] at h
      split at h
      · simp at h
      · rename_i h1
        simp only [core]
        split
        · rename_i ha
          have : nul a = true := shp_nul hw.1 ha
          have hnb : nul b = false := by rcases hn with h3 | h3; rw [this] at h3; cases h3; exact h3
          refine ib hw.2 ?_ hnb
          rcases shp_cases b with hb | hb | hb
          · rw [shp_nul hw.2 hb] at hnb; cases hnb
          · exact absurd (.inr hb) h1
          · exact hb
        · rename_i ha
          have ha2 : shp a = 2 := by rcases shp_cases a with hb | hb | hb; exact absurd hb ha; exact absurd (.inl hb) h1; exact hb
          split
          · rename_i hb
            have : nul b = true := shp_nul hw.2 hb
            have hna : nul a = false := by rcases hn with h3 | h3; exact h3; rw [this] at h3; cases h3
            exact ia hw.1 ha2 hna
          · rename_i hb
            have hb2 : shp b = 2 := by rcases shp_cases b with hb' | hb' | hb'; exact absurd hb' hb; exact absurd (.inr hb') h1; exact hb'
            simp only [nul, Bool.and_eq_false_iff]
            rcases hn with h3 | h3
            · exact .inl (ia hw.1 ha2 h3)
            · exact .inr (ib hw.2 hb2 h3)
    | cond cc a b ia ib =>
      intro hw h hn
      simp only [nul, Bool.or_eq_false_iff] at hn
      have hna : shp a ≠ 0 := fun h0 => by rw [shp_nul hw.1 h0] at hn; simp at hn
      have hnb : shp b ≠ 0 := fun h0 => by rw [shp_nul hw.2 h0] at hn; simp at hn
      simp only [shp] at h
      simp only [core]
      split
      · rename_i h1; rw [if_pos h1] at h; exact ib hw.2 h hn.2
      · rename_i h1
        rw [if_neg h1] at h
        have ha2 : shp a = 2 := by rcases shp_cases a with hb | hb | hb; exact absurd hb hna; exact absurd hb h1; exact hb
        split
        · exact ia hw.1 ha2 hn.1
        · rename_i h2
          have hb2 : shp b = 2 := by rcases shp_cases b with hb | hb | hb; exact absurd hb hnb; exact absurd hb h2; exact hb
          simp [nul, hna, hnb, h1, h2, ia hw.1 ha2 hn.1, ib hw.2 hb2 hn.2]
    | block g a ia =>
      intro hw h hn
      simp only [nul] at hn
      have hna : shp a ≠ 0 := fun h0 => by rw [shp_nul hw.1 h0] at hn; simp at hn
      simp only [shp] at h
      split at h
      · simp at h
      · rename_i h1
        simp only [core, nul]
        rw [if_neg hna, if_neg h1]
        exact ia hw.1 (by rcases shp_cases a with hb | hb | hb; exact absurd hb hna; exact absurd hb h1; exact hb) hn
    | rangeFunc _ _ xx a _ ia =>
      intro hw h hn
      simp only [nul, Bool.or_eq_false_iff, beq_eq_false_iff_ne] at hn
      simp only [shp] at h
      split at h
      · simp at h
      · split at h
        · simp at h
        · rename_i h2
          have ha : shp a = 2 := by
            by_cases h3 : shp a = 2
            · exact h3
            · exact absurd (.inl h3) h2
          have hx := ia hw.1 ha hn.2
          have hch : ∀ k, nul (chn (core a) k) = false := by
            intro k
            induction k with
            | zero => exact hx
            | succ k ih => simp [chn, nul, ih]
          simp only [core]
          unfold unr
          cases hmn : rmn xx with
          | zero => exact absurd hmn hn.1
          | succ k =>
            cases tailR (core a) (k + 1) (rmx xx) (rlz xx) with
            | none => exact hch k
            | some t => simp [nul, hch k]

theorem child_ok {s : List UInt8} {r : RE} (hw : WF r) {i : Nat} (c : List Int) (hi : i ≤ s.length) : Eqv (all s (child r) i c) (all s r i c) := by
  obtain ⟨h1, h2, h3⟩ := core_ok r hw i c hi
  unfold child
  split
  · rename_i h; exact (h1 h).symm
  · rename_i h
    split
    · rename_i h'
      rw [h2 h']
      simp only [all]
      split
      · simp [Eqv]
      · exact Eqv.refl _
    · rename_i h'
      exact h3 (by rcases shp_cases r with h4 | h4 | h4; exact absurd h4 h; exact absurd h4 h'; exact h4)

end Go.Proofs.Qxb6500567aGreat
