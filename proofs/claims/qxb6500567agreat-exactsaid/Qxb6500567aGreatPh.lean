import Derived.Test.Qxb6500567aGreatPg
/- What the grammar gives: trees that are well made. -/
namespace Go.Proofs.Qxb6500567aGreat
set_option linter.unusedVariables false
set_option linter.unusedSimpArgs false

/-- The nodes of a tree. -/
def nds : RE → Nat
  | .seq a b => nds a + nds b + 1
  | .cond _ a b => nds a + nds b + 1
  | .rangeFunc _ _ _ a => nds a + 1
  | .block _ a => nds a + 1
  | .goto _ => 1
  | .ret => 1
  | .label _ => 1
  | .skip => 1
  | .region _ _ _ => 1
  | .loop _ => 1
  | .exit _ => 1
  | .scope _ => 1
  | .refuse _ => 1

theorem nds_pos (r : RE) : 0 < nds r := by cases r <;> simp [nds]

theorem rng_lt {lo hi : Nat} (h : hi < 256) : rng lo hi < 2 ^ 256 := by
  unfold rng
  split
  · have : 2 ^ (hi + 1) ≤ 2 ^ 256 := Nat.pow_le_pow_right (by omega) (by omega)
    exact Nat.lt_of_lt_of_le (Nat.sub_lt (Nat.two_pow_pos _) (Nat.two_pow_pos lo)) this
  · exact Nat.two_pow_pos 256

theorem cpl_lt {S : Nat} (h : S < 2 ^ 256) : cpl S < 2 ^ 256 := Nat.xor_lt_two_pow h (by decide)
theorem or_lt {S T : Nat} (h : S < 2 ^ 256) (h' : T < 2 ^ 256) : S ||| T < 2 ^ 256 := Nat.or_lt_two_pow h h'
theorem byte_lt (b : UInt8) : b.toNat < 256 := b.toBitVec.isLt

theorem hexv_lt (b : UInt8) : hexv b ≤ 15 := by
  have := byte_lt b
  unfold hexv isDig
  split
  · rename_i h; simp at h; omega
  · split
    · omega
    · split
      · omega
      · omega

theorem escB_ok {c : UInt8} {h l : Option UInt8} {S : Nat} {one : Bool} {b k : Nat} (he : escB c h l = some (S, one, b, k)) : S < 2 ^ 256 ∧ b < 256 ∧ 2 ≤ k ∧ (k = 4 → h ≠ none ∧ l ≠ none) ∧ k ≤ 4 ∧ k ≠ 3 := by
  unfold escB at he
  have hb := byte_lt c
  have hw : wordS < 2 ^ 256 := or_lt (or_lt (or_lt (rng_lt (by omega)) (rng_lt (by omega))) (rng_lt (by omega))) (rng_lt (by omega))
  have hbl : blankS < 2 ^ 256 := or_lt (or_lt (rng_lt (by omega)) (rng_lt (by omega))) (rng_lt (by omega))
  by_cases h110 : c = 110
  · rw [if_pos h110] at he
    cases he
    exact ⟨rng_lt (by omega), by omega, by omega, by omega, by omega, by omega⟩
  rw [if_neg h110] at he
  by_cases h116 : c = 116
  · rw [if_pos h116] at he
    cases he
    exact ⟨rng_lt (by omega), by omega, by omega, by omega, by omega, by omega⟩
  rw [if_neg h116] at he
  by_cases h114 : c = 114
  · rw [if_pos h114] at he
    cases he
    exact ⟨rng_lt (by omega), by omega, by omega, by omega, by omega, by omega⟩
  rw [if_neg h114] at he
  by_cases h100 : c = 100
  · rw [if_pos h100] at he
    cases he
    exact ⟨rng_lt (by omega), by omega, by omega, by omega, by omega, by omega⟩
  rw [if_neg h100] at he
  by_cases h68 : c = 68
  · rw [if_pos h68] at he
    cases he
    exact ⟨cpl_lt (rng_lt (by omega)), by omega, by omega, by omega, by omega, by omega⟩
  rw [if_neg h68] at he
  by_cases h119 : c = 119
  · rw [if_pos h119] at he
    cases he
    exact ⟨hw, by omega, by omega, by omega, by omega, by omega⟩
  rw [if_neg h119] at he
  by_cases h87 : c = 87
  · rw [if_pos h87] at he
    cases he
    exact ⟨cpl_lt hw, by omega, by omega, by omega, by omega, by omega⟩
  rw [if_neg h87] at he
  by_cases h115 : c = 115
  · rw [if_pos h115] at he
    cases he
    exact ⟨hbl, by omega, by omega, by omega, by omega, by omega⟩
  rw [if_neg h115] at he
  by_cases h83 : c = 83
  · rw [if_pos h83] at he
    cases he
    exact ⟨cpl_lt hbl, by omega, by omega, by omega, by omega, by omega⟩
  rw [if_neg h83] at he
  by_cases h120 : c = 120
  · rw [if_pos h120] at he
    split at he
    · rename_i h' l' 
      split at he
      · rename_i hh
        cases he
        have h1 := hexv_lt h'
        have h2 := hexv_lt l'
        refine ⟨rng_lt (by omega), by omega, by omega, fun _ => ⟨by simp, by simp⟩, by omega, by omega⟩
      · cases he
    · cases he
  · rw [if_neg h120] at he
    split at he
    · cases he
    · cases he
      exact ⟨rng_lt hb, hb, by omega, by omega, by omega, by omega⟩

theorem get_lt {p : List UInt8} {i : Nat} {b : UInt8} (h : p[i]? = some b) : i < p.length := (List.getElem?_eq_some_iff.1 h).1
theorem get_lt' {p : List UInt8} {i : Nat} (h : p[i]? ≠ none) : i < p.length := by
  by_cases hi : i < p.length
  · exact hi
  · exact absurd (List.getElem?_eq_none (by omega)) h

theorem esc_ok {p : List UInt8} {i : Nat} {S : Nat} {one : Bool} {b j : Nat} (he : esc p i = .ok (S, one, b, j)) : S < 2 ^ 256 ∧ b < 256 ∧ i + 2 ≤ j ∧ j ≤ p.length := by
  unfold esc at he
  split at he
  · cases he
  · rename_i c hc
    have := get_lt hc
    split at he
    · cases he
    · rename_i S' one' b' k hk
      cases he
      obtain ⟨h1, h2, h3, h4, h5, h6⟩ := escB_ok hk
      refine ⟨h1, h2, by omega, ?_⟩
      by_cases hk4 : k = 4
      · have := get_lt' (h4 hk4).2; omega
      · omega

theorem esc_er {p : List UInt8} {i : Nat} {e : Er} (he : esc p i = .error e) : e = (4, i) := by
  unfold esc at he
  split at he
  · cases he; rfl
  · split at he
    · cases he; rfl
    · cases he

theorem item_ok {p : List UInt8} {i : Nat} {c : UInt8} {S : Nat} {one : Bool} {b j : Nat} (hi : i < p.length) (he : item p i c = .ok (S, one, b, j)) : S < 2 ^ 256 ∧ b < 256 ∧ i + 1 ≤ j ∧ j ≤ p.length := by
  unfold item at he
  split at he
  · have := esc_ok he; omega
  · cases he
    exact ⟨rng_lt (byte_lt c), byte_lt c, by omega, by omega⟩

theorem item_er {p : List UInt8} {i : Nat} {c : UInt8} {e : Er} (he : item p i c = .error e) : e = (4, i) := by
  unfold item at he
  split at he
  · exact esc_er he
  · cases he

theorem clsF_ok {p : List UInt8} {a : Nat} : ∀ (f i : Nat) (S : Nat), S < 2 ^ 256 → i ≤ p.length → (∀ T j, clsF p a f i S = .ok (T, j) → T < 2 ^ 256 ∧ i + 1 ≤ j ∧ j ≤ p.length) ∧ (p.length + 1 ≤ f + i → ∀ e, clsF p a f i S = .error e → e.1 ≠ 0) := by
  intro f
  induction f with
  | zero =>
    intro i S hS hi
    exact ⟨fun T j h => (by cases h), fun hf e he => by omega⟩
  | succ f ih =>
    intro i S hS hi
    have key : (∀ T j, clsF p a (f + 1) i S = .ok (T, j) → T < 2 ^ 256 ∧ i + 1 ≤ j ∧ j ≤ p.length) ∧ (p.length + 1 ≤ (f + 1) + i → ∀ e, clsF p a (f + 1) i S = .error e → e.1 ≠ 0) := by
      unfold clsF
      cases hb : p[i]? with
      | none => exact ⟨fun T j h => (by cases h), fun _ e he => by cases he; simp⟩
      | some b =>
        have hlt := get_lt hb
        simp only
        by_cases h93 : b = 93
        · rw [if_pos h93]
          exact ⟨fun T j h => by cases h; exact ⟨hS, Nat.le_refl _, hlt⟩, fun _ e he => by cases he⟩
        · rw [if_neg h93]
          cases hit : item p i b with
          | error e =>
            simp only
            exact ⟨fun T j h => (by cases h), fun _ e' he => by cases he; rw [item_er hit]; simp⟩
          | ok r =>
            obtain ⟨m, one, lo, i1⟩ := r
            obtain ⟨a1, a2, a3, a4⟩ := item_ok hlt hit
            simp only
            by_cases hd : p[i1]? = some 45 ∧ p[i1 + 1]? ≠ none ∧ p[i1 + 1]? ≠ some 93
            · rw [if_pos hd]
              have hlt1 := get_lt' hd.2.1
              cases hit2 : item p (i1 + 1) (p[i1 + 1]?.getD 0) with
              | error e =>
                simp only
                exact ⟨fun T j h => (by cases h), fun _ e' he => by cases he; rw [item_er hit2]; simp⟩
              | ok r2 =>
                obtain ⟨m2, two, hi2, i2⟩ := r2
                obtain ⟨b1, b2, b3, b4⟩ := item_ok hlt1 hit2
                simp only
                by_cases hc : one = true ∧ two = true ∧ lo ≤ hi2
                · rw [if_pos hc]
                  obtain ⟨c1, c2⟩ := ih i2 (S ||| rng lo hi2) (or_lt hS (rng_lt b2)) b4
                  exact ⟨fun T j h => ⟨(c1 T j h).1, by have := (c1 T j h).2; omega, (c1 T j h).2.2⟩, fun hf => c2 (by omega)⟩
                · rw [if_neg hc]
                  exact ⟨fun T j h => (by cases h), fun _ e' he => by cases he; simp⟩
            · rw [if_neg hd]
              obtain ⟨c1, c2⟩ := ih i1 (S ||| m) (or_lt hS a1) a4
              exact ⟨fun T j h => ⟨(c1 T j h).1, by have := (c1 T j h).2; omega, (c1 T j h).2.2⟩, fun hf => c2 (by omega)⟩
    exact key

theorem cls_ok {p : List UInt8} {i : Nat} (hi : i < p.length) : (∀ T j, cls p i = .ok (T, j) → T < 2 ^ 256 ∧ i + 2 ≤ j ∧ j ≤ p.length) ∧ (∀ e, cls p i = .error e → e.1 ≠ 0) := by
  have hz : (0 : Nat) < 2 ^ 256 := Nat.two_pow_pos 256
  unfold cls
  split
  · rename_i h
    have hlt := get_lt h
    obtain ⟨c1, c2⟩ := clsF_ok (p := p) (a := i) (p.length + 1) (i + 2) 0 hz (by omega)
    cases hc : clsF p i (p.length + 1) (i + 2) 0 with
    | error e =>
      rw [hc] at c2
      exact ⟨fun T j h => (by cases h), fun e' he => by cases he; exact c2 (by omega) e rfl⟩
    | ok r =>
      obtain ⟨S, j⟩ := r
      rw [hc] at c1
      obtain ⟨a1, a2, a3⟩ := c1 S j rfl
      exact ⟨fun T j' h => by cases h; exact ⟨cpl_lt a1, by omega, a3⟩, fun e' he => by cases he⟩
  · obtain ⟨c1, c2⟩ := clsF_ok (p := p) (a := i) (p.length + 1) (i + 1) 0 hz (by omega)
    exact ⟨fun T j h => ⟨(c1 T j h).1, by have := (c1 T j h).2; omega, (c1 T j h).2.2⟩, fun e he => c2 (by omega) e he⟩

theorem leafA_ok {p : List UInt8} {i : Nat} {b : UInt8} (hi : i < p.length) : (∀ x j, leafA p i b = .ok (x, j) → WF x ∧ gs x = [] ∧ nds x = 1 ∧ i < j ∧ j ≤ p.length) ∧ (∀ e, leafA p i b = .error e → e.1 ≠ 0) := by
  unfold leafA
  split
  · obtain ⟨c1, c2⟩ := cls_ok hi
    cases hc : cls p i with
    | error e => rw [hc] at c2; exact ⟨fun T j h => (by cases h), fun e' he => by cases he; exact c2 e rfl⟩
    | ok r =>
      obtain ⟨S, j⟩ := r
      rw [hc] at c1
      obtain ⟨a1, a2, a3⟩ := c1 S j rfl
      exact ⟨fun x j' h => by cases h; exact ⟨a1, rfl, rfl, by omega, a3⟩, fun e' he => by cases he⟩
  · split
    · cases hc : esc p i with
      | error e => exact ⟨fun T j h => (by cases h), fun e' he => by cases he; rw [esc_er hc]; simp⟩
      | ok r =>
        obtain ⟨S, one, b', j⟩ := r
        obtain ⟨a1, a2, a3, a4⟩ := esc_ok hc
        exact ⟨fun x j' h => by cases h; exact ⟨a1, rfl, rfl, by omega, a4⟩, fun e' he => by cases he⟩
    · split
      · exact ⟨fun x j' h => by cases h; exact ⟨cpl_lt (rng_lt (by omega)), rfl, rfl, by omega, by omega⟩, fun e' he => by cases he⟩
      · split
        · exact ⟨fun x j' h => by cases h; exact ⟨trivial, rfl, rfl, by omega, by omega⟩, fun e' he => by cases he⟩
        · split
          · exact ⟨fun x j' h => by cases h; exact ⟨trivial, rfl, rfl, by omega, by omega⟩, fun e' he => by cases he⟩
          · exact ⟨fun x j' h => by cases h; exact ⟨rng_lt (byte_lt b), rfl, rfl, by omega, by omega⟩, fun e' he => by cases he⟩

theorem digS_ok {v : Int} {b : UInt8} (hd : isDig b = true) : 0 ≤ digS v b ∧ digS v b ≤ 4 := by
  unfold isDig at hd
  simp at hd
  have hv : 0 ≤ (if v < 0 then 0 else v : Int) := by split <;> omega
  unfold digS
  generalize (if v < 0 then 0 else v : Int) = u at *
  split <;> omega

theorem numF_ok : ∀ (l : List UInt8) (v : Int), -1 ≤ v → v ≤ 4 → -1 ≤ (numF l v).1 ∧ (numF l v).1 ≤ 4 ∧ (numF l v).2 ≤ l.length := by
  intro l
  induction l with
  | nil => intro v h1 h2; exact ⟨h1, h2, Nat.le_refl _⟩
  | cons b bs ih =>
    intro v h1 h2
    unfold numF
    split
    · rename_i hd
      have hv := digS_ok (v := v) hd
      have := ih (digS v b) (by omega) hv.2
      simp only [List.length_cons]
      omega
    · exact ⟨h1, h2, Nat.zero_le _⟩

theorem num_ok {p : List UInt8} {i : Nat} (hi : i ≤ p.length) : -1 ≤ (num p i).1 ∧ (num p i).1 ≤ 4 ∧ i ≤ (num p i).2 ∧ (num p i).2 ≤ p.length := by
  have := numF_ok (p.drop i) (-1) (by omega) (by omega)
  simp only [List.length_drop] at this
  unfold num
  dsimp only
  omega

theorem sgn_ok {p : List UInt8} {i : Nat} {b : UInt8} {lo : Nat} {hi : Option Nat} {j : Nat} (hi' : i < p.length) (h : sgn p i b = some (lo, hi, j)) : lo ≤ 3 ∧ (∀ m, hi = some m → lo ≤ m ∧ m ≤ 3) ∧ i < j ∧ j ≤ p.length := by
  unfold sgn at h
  split at h
  · cases h; exact ⟨by omega, fun m h => (by cases h), by omega, by omega⟩
  · split at h
    · cases h; exact ⟨by omega, fun m h => (by cases h), by omega, by omega⟩
    · split at h
      · cases h; exact ⟨by omega, fun m h => (by cases h; omega), by omega, by omega⟩
      · unfold brc at h
        have ha := num_ok (p := p) (i := i + 1) (by omega)
        have hb : (num p (i + 1)).2 ≤ (brcB p (num p (i + 1))).2 := by
          unfold brcB
          split
          · rename_i h44
            have := get_lt h44
            have := num_ok (p := p) (i := (num p (i + 1)).2 + 1) (by omega)
            omega
          · omega
        generalize brcB p (num p (i + 1)) = B at h hb
        generalize num p (i + 1) = A at h ha hb
        by_cases hc : p[B.2]? = some 125 ∧ 0 ≤ A.1 ∧ A.1 ≤ 3 ∧ B.1 ≤ 3 ∧ (0 ≤ B.1 → A.1 ≤ B.1)
        · rw [if_pos hc] at h
          have hlt := get_lt hc.1
          cases h
          refine ⟨by omega, fun m hm => ?_, by omega, by omega⟩
          unfold mxO at hm
          split at hm
          · cases hm
          · cases hm
            have := hc.2.2.2.2 (by omega)
            omega
        · rw [if_neg hc] at h
          cases h

/-- The tree that a mode bears. -/
def trM : Md → Option RE
  | .inl _ => none
  | .inr (.inl (_, l)) => some l
  | .inr (.inr (.inl (_, l))) => l
  | .inr (.inr (.inr (.inl x))) => some x
  | .inr (.inr (.inr (.inr _))) => none
def rkM : Md → Nat
  | .inl _ => 4
  | .inr (.inl _) => 3
  | .inr (.inr (.inl _)) => 2
  | .inr (.inr (.inr (.inl _))) => 0
  | .inr (.inr (.inr (.inr _))) => 1
def szO : Option RE → Nat
  | none => 0 | some r => nds r
def gsO : Option RE → List Nat
  | none => [] | some r => gs r

/-- What a result is worth. -/
structure PGood (p : List UInt8) (md : Md) (i n g : Nat) (x : RE) (i' n' g' : Nat) : Prop where
  wf : WF x
  sz : n' + szO (trM md) = n + nds x
  gs : ∀ k ∈ gs x, k ∈ gsO (trM md) ∨ (g < k ∧ k ≤ g')
  ii : i ≤ i'
  il : i' ≤ p.length
  gg : g ≤ g'
  g3 : g' ≤ 3
  n24 : n' ≤ 24

theorem pd_ok {p : List UInt8} : ∀ (m : Nat) (md : Md) (i n g : Nat), i ≤ p.length → n ≤ 24 → g ≤ 3 → (∀ l, trM md = some l → WF l) → (∀ d, md = .atom d → ¬ isEnd p i) →
    (∀ x i' n' g', pd p m md i n g = .ok (x, i', n', g') → PGood p md i n g x i' n' g' ∧ (∀ d, md = .atom d → i < i')) ∧
    (5 * (p.length - i) + rkM md < m → ∀ e, pd p m md i n g = .error e → e.1 ≠ 0) := by
  intro m
  induction m with
  | zero => intro md i n g _ _ _ _ _; exact ⟨fun x i' n' g' h => by (rw [pd_zero] at h; cases h), fun h => by omega⟩
  | succ m ih =>
    intro md i n g hi hn hg hwf hat
    cases md using mdCases with
    | alt d =>
      unfold pd
      obtain ⟨a1, a2⟩ := ih (.catL d none) i n g hi hn hg (fun l h => by cases h) (fun d h => by cases h)
      cases h1 : pd p m (.catL d none) i n g with
      | error e =>
        rw [h1] at a2
        simp only
        exact ⟨fun _ _ _ _ h => by (cases h), fun hf e' he => by cases he; exact a2 (by simp only [rkM] at hf ⊢; omega) e rfl⟩
      | ok r =>
        obtain ⟨l, i1, n1, g1⟩ := r
        rw [h1] at a1
        obtain ⟨G, _⟩ := a1 l i1 n1 g1 rfl
        simp only
        obtain ⟨b1, b2⟩ := ih (.altL d l) i1 n1 g1 G.il G.n24 G.g3 (fun l' h => by cases h; exact G.wf) (fun d h => by cases h)
        refine ⟨fun x i' n' g' h => ?_, fun hf => b2 (by have := G.ii; simp only [rkM] at hf ⊢; omega)⟩
        obtain ⟨H, _⟩ := b1 x i' n' g' h
        refine ⟨⟨H.wf, ?_, ?_, Nat.le_trans G.ii H.ii, H.il, Nat.le_trans G.gg H.gg, H.g3, H.n24⟩, fun d h => by cases h⟩
        · have := G.sz; have := H.sz; simp only [trM, szO] at *; omega
        · intro k hk
          have hgg := G.gg
          have hgg2 := H.gg
          rcases H.gs k hk with h | h
          · rcases G.gs k h with h | h
            · simp [trM, gsO] at h
            · exact .inr ⟨h.1, by omega⟩
          · exact .inr ⟨by omega, h.2⟩
    | altL d l =>
      unfold pd
      by_cases hb : p[i]? = some 124
      · rw [if_pos hb]
        have hlt := get_lt hb
        obtain ⟨a1, a2⟩ := ih (.catL d none) (i + 1) n g (by omega) hn hg (fun l h => by cases h) (fun d h => by cases h)
        cases h1 : pd p m (.catL d none) (i + 1) n g with
        | error e =>
          rw [h1] at a2
          simp only
          exact ⟨fun _ _ _ _ h => by (cases h), fun hf e' he => by cases he; exact a2 (by simp only [rkM] at hf ⊢; omega) e rfl⟩
        | ok r =>
          obtain ⟨y, i1, n1, g1⟩ := r
          rw [h1] at a1
          obtain ⟨G, _⟩ := a1 y i1 n1 g1 rfl
          simp only
          by_cases h24 : 24 ≤ n1
          · rw [if_pos h24]
            exact ⟨fun _ _ _ _ h => by (cases h), fun hf e' he => by cases he; simp⟩
          · rw [if_neg h24]
            have hwl := hwf l rfl
            obtain ⟨b1, b2⟩ := ih (.altL d (.alt l y)) i1 (n1 + 1) g1 G.il (by omega) G.g3 (fun l' h => by cases h; exact ⟨hwl, G.wf⟩) (fun d h => by cases h)
            refine ⟨fun x i' n' g' h => ?_, fun hf => b2 (by have := G.ii; simp only [rkM] at hf ⊢; omega)⟩
            obtain ⟨H, _⟩ := b1 x i' n' g' h
            have hii := G.ii
            refine ⟨⟨H.wf, ?_, ?_, by have := H.ii; omega, H.il, Nat.le_trans G.gg H.gg, H.g3, H.n24⟩, fun d h => by cases h⟩
            · have := G.sz; have := H.sz; simp only [trM, szO, nds] at *; omega
            · intro k hk
              have hgg := G.gg
              have hgg2 := H.gg
              rcases H.gs k hk with h | h
              · simp only [trM, gsO, gs, List.mem_append] at h
                rcases h with h | h
                · exact .inl h
                · rcases G.gs k h with h | h
                  · simp [trM, gsO] at h
                  · exact .inr ⟨h.1, by omega⟩
              · exact .inr ⟨by omega, h.2⟩
      · rw [if_neg hb]
        refine ⟨fun x i' n' g' h => ?_, fun hf e he => by cases he⟩
        cases h
        exact ⟨⟨hwf l rfl, rfl, fun k hk => .inl hk, Nat.le_refl _, hi, Nat.le_refl _, hg, hn⟩, fun d h => by cases h⟩
    | catL d l =>
      unfold pd
      by_cases hend : p[i]? = none ∨ p[i]? = some 124 ∨ p[i]? = some 41
      · rw [if_pos hend]
        cases l with
        | none =>
          simp only
          by_cases h24 : 24 ≤ n
          · rw [if_pos h24]
            exact ⟨fun _ _ _ _ h => by (cases h), fun hf e' he => by cases he; simp⟩
          · rw [if_neg h24]
            refine ⟨fun x i' n' g' h => ?_, fun hf e he => by cases he⟩
            cases h
            exact ⟨⟨trivial, rfl, fun k hk => by simp [gs] at hk, Nat.le_refl _, hi, Nat.le_refl _, hg, by omega⟩, fun d h => by cases h⟩
        | some l =>
          simp only
          refine ⟨fun x i' n' g' h => ?_, fun hf e he => by cases he⟩
          cases h
          exact ⟨⟨hwf l rfl, rfl, fun k hk => .inl hk, Nat.le_refl _, hi, Nat.le_refl _, hg, hn⟩, fun d h => by cases h⟩
      · rw [if_neg hend]
        obtain ⟨a1, a2⟩ := ih (.atom d) i n g hi hn hg (fun l h => by cases h) (fun d h => hend)
        cases h1 : pd p m (.atom d) i n g with
        | error e =>
          rw [h1] at a2
          simp only
          exact ⟨fun _ _ _ _ h => by (cases h), fun hf e' he => by cases he; exact a2 (by simp only [rkM] at hf ⊢; omega) e rfl⟩
        | ok r =>
          obtain ⟨x0, i1, n1, g1⟩ := r
          rw [h1] at a1
          obtain ⟨G, hG⟩ := a1 x0 i1 n1 g1 rfl
          have hGlt := hG d rfl
          simp only
          obtain ⟨b1, b2⟩ := ih (.repL x0) i1 n1 g1 G.il G.n24 G.g3 (fun l h => by cases h; exact G.wf) (fun d h => by cases h)
          cases h2 : pd p m (.repL x0) i1 n1 g1 with
          | error e =>
            rw [h2] at b2
            simp only
            exact ⟨fun _ _ _ _ h => by (cases h), fun hf e' he => by cases he; exact b2 (by simp only [rkM] at hf ⊢; omega) e rfl⟩
          | ok r =>
            obtain ⟨x1, i2, n2, g2⟩ := r
            rw [h2] at b1
            obtain ⟨H, _⟩ := b1 x1 i2 n2 g2 rfl
            simp only
            have hsz := G.sz
            have hsz2 := H.sz
            have hii := G.ii
            have hii2 := H.ii
            have hil := G.il
            have hil2 := H.il
            have hgg := G.gg
            have hgg2 := H.gg
            have hgs : ∀ k ∈ gs x1, g < k ∧ k ≤ g2 := by
              intro k hk
              rcases H.gs k hk with h | h
              · rcases G.gs k h with h | h
                · simp [trM, gsO] at h
                · exact ⟨h.1, by omega⟩
              · exact ⟨by omega, h.2⟩
            simp only [trM, szO] at hsz hsz2
            cases l with
            | none =>
              simp only
              obtain ⟨c1, c2⟩ := ih (.catL d (some x1)) i2 n2 g2 H.il H.n24 H.g3 (fun l h => by cases h; exact H.wf) (fun d h => by cases h)
              refine ⟨fun x i' n' g' h => ?_, fun hf => c2 (by simp only [rkM] at hf ⊢; omega)⟩
              obtain ⟨J, _⟩ := c1 x i' n' g' h
              refine ⟨⟨J.wf, ?_, ?_, by have := J.ii; omega, J.il, by have := J.gg; omega, J.g3, J.n24⟩, fun d h => by cases h⟩
              · have := J.sz; simp only [trM, szO] at *; omega
              · intro k hk
                have hg3 := J.gg
                rcases J.gs k hk with h | h
                · have := hgs k h; exact .inr ⟨this.1, by omega⟩
                · exact .inr ⟨by omega, h.2⟩
            | some l =>
              simp only
              by_cases h24 : 24 ≤ n2
              · rw [if_pos h24]
                exact ⟨fun _ _ _ _ h => by (cases h), fun hf e' he => by cases he; simp⟩
              · rw [if_neg h24]
                have hwl := hwf l rfl
                obtain ⟨c1, c2⟩ := ih (.catL d (some (.cat l x1))) i2 (n2 + 1) g2 H.il (by omega) H.g3 (fun l h => by cases h; exact ⟨hwl, H.wf⟩) (fun d h => by cases h)
                refine ⟨fun x i' n' g' h => ?_, fun hf => c2 (by simp only [rkM] at hf ⊢; omega)⟩
                obtain ⟨J, _⟩ := c1 x i' n' g' h
                refine ⟨⟨J.wf, ?_, ?_, by have := J.ii; omega, J.il, by have := J.gg; omega, J.g3, J.n24⟩, fun d h => by cases h⟩
                · have := J.sz; simp only [trM, szO, nds] at *; omega
                · intro k hk
                  have hg3 := J.gg
                  rcases J.gs k hk with h | h
                  · simp only [trM, gsO, gs, List.mem_append] at h
                    rcases h with h | h
                    · exact .inl h
                    · have := hgs k h; exact .inr ⟨this.1, by omega⟩
                  · exact .inr ⟨by omega, h.2⟩
    | repL x0 =>
      unfold pd
      have hwx := hwf x0 rfl
      have self : PGood p (.repL x0) i n g x0 i n g := ⟨hwx, rfl, fun k hk => .inl hk, Nat.le_refl _, hi, Nat.le_refl _, hg, hn⟩
      cases hb : p[i]? with
      | none =>
        simp only
        refine ⟨fun x i' n' g' h => ?_, fun hf e he => by cases he⟩
        cases h
        exact ⟨self, fun d h => by cases h⟩
      | some b =>
        have hlt := get_lt hb
        simp only
        by_cases hsg : isSign b = true
        · rw [if_pos hsg]
          cases hs : sgn p i b with
          | none =>
            simp only
            exact ⟨fun _ _ _ _ h => by (cases h), fun hf e' he => by cases he; simp⟩
          | some r =>
            obtain ⟨lo, hi', j⟩ := r
            obtain ⟨s1, s2, s3, s4⟩ := sgn_ok hlt hs
            simp only
            by_cases hl : hi' = none ∧ nul x0 = true
            · rw [if_pos hl]
              exact ⟨fun _ _ _ _ h => by (cases h), fun hf e' he => by cases he; simp⟩
            · rw [if_neg hl]
              by_cases h24 : 24 ≤ n
              · rw [if_pos h24]
                exact ⟨fun _ _ _ _ h => by (cases h), fun hf e' he => by cases he; simp⟩
              · rw [if_neg h24]
                have hj : j ≤ (if p[j]? = some 63 then j + 1 else j) ∧ (if p[j]? = some 63 then j + 1 else j) ≤ p.length := by
                  split
                  · rename_i h63; have := get_lt h63; omega
                  · omega
                have hwr : WF (.rep x0 lo hi' (decide (p[j]? = some 63))) := by
                  refine ⟨hwx, fun hm => ?_, s1, fun m hm => s2 m (by rwa [rmx_mk] at hm)⟩
                  rw [rmx_mk] at hm
                  cases hnx : nul x0 with
                  | false => rfl
                  | true => exact absurd ⟨hm, hnx⟩ hl
                obtain ⟨b1, b2⟩ := ih (.repL (.rep x0 lo hi' (decide (p[j]? = some 63)))) (if p[j]? = some 63 then j + 1 else j) (n + 1) g hj.2 (by omega) hg (fun l h => by cases h; exact hwr) (fun d h => by cases h)
                refine ⟨fun x i' n' g' h => ?_, fun hf => b2 (by simp only [rkM] at hf ⊢; omega)⟩
                obtain ⟨H, _⟩ := b1 x i' n' g' h
                refine ⟨⟨H.wf, ?_, ?_, by have := H.ii; omega, H.il, H.gg, H.g3, H.n24⟩, fun d h => by cases h⟩
                · have := H.sz; simp only [trM, szO, nds] at *; omega
                · intro k hk
                  exact H.gs k hk
        · rw [if_neg hsg]
          refine ⟨fun x i' n' g' h => ?_, fun hf e he => by cases he⟩
          cases h
          exact ⟨self, fun d h => by cases h⟩
    | atom d =>
      have hend := hat d rfl
      unfold pd
      cases hb : p[i]? with
      | none => exact absurd (.inl hb) hend
      | some b =>
        have hlt := get_lt hb
        simp only
        by_cases h40 : b = 40
        · rw [if_pos h40]
          by_cases h5 : 5 ≤ d
          · rw [if_pos h5]
            exact ⟨fun _ _ _ _ h => by (cases h), fun hf e' he => by cases he; simp⟩
          · rw [if_neg h5]
            by_cases hq : p[i + 1]? = some 63 ∧ p[i + 2]? = some 58
            · rw [if_pos hq]
              have hlt2 := get_lt hq.2
              obtain ⟨a1, a2⟩ := ih (.alt (d + 1)) (i + 3) n g (by omega) hn hg (fun l h => by cases h) (fun d h => by cases h)
              cases h1 : pd p m (.alt (d + 1)) (i + 3) n g with
              | error e =>
                rw [h1] at a2
                simp only
                exact ⟨fun _ _ _ _ h => by (cases h), fun hf e' he => by cases he; exact a2 (by simp only [rkM] at hf ⊢; omega) e rfl⟩
              | ok r =>
                obtain ⟨y, j, n1, g1⟩ := r
                rw [h1] at a1
                obtain ⟨G, _⟩ := a1 y j n1 g1 rfl
                simp only
                by_cases hj : p[j]? = some 41
                · rw [if_pos hj]
                  have hjl := get_lt hj
                  refine ⟨fun x i' n' g' h => ?_, fun hf e he => by cases he⟩
                  cases h
                  have hii := G.ii
                  exact ⟨⟨G.wf, G.sz, G.gs, by omega, by omega, G.gg, G.g3, G.n24⟩, fun d h => by omega⟩
                · rw [if_neg hj]
                  exact ⟨fun _ _ _ _ h => by (cases h), fun hf e' he => by cases he; simp⟩
            · rw [if_neg hq]
              by_cases h3 : 3 ≤ g
              · rw [if_pos h3]
                exact ⟨fun _ _ _ _ h => by (cases h), fun hf e' he => by cases he; simp⟩
              · rw [if_neg h3]
                obtain ⟨a1, a2⟩ := ih (.alt (d + 1)) (i + 1) n (g + 1) (by omega) hn (by omega) (fun l h => by cases h) (fun d h => by cases h)
                cases h1 : pd p m (.alt (d + 1)) (i + 1) n (g + 1) with
                | error e =>
                  rw [h1] at a2
                  simp only
                  exact ⟨fun _ _ _ _ h => by (cases h), fun hf e' he => by cases he; exact a2 (by simp only [rkM] at hf ⊢; omega) e rfl⟩
                | ok r =>
                  obtain ⟨y, j, n1, g1⟩ := r
                  rw [h1] at a1
                  obtain ⟨G, _⟩ := a1 y j n1 g1 rfl
                  simp only
                  by_cases hj : p[j]? = some 41
                  · rw [if_pos hj]
                    have hjl := get_lt hj
                    by_cases h24 : 24 ≤ n1
                    · rw [if_pos h24]
                      exact ⟨fun _ _ _ _ h => by (cases h), fun hf e' he => by cases he; simp⟩
                    · rw [if_neg h24]
                      refine ⟨fun x i' n' g' h => ?_, fun hf e he => by cases he⟩
                      cases h
                      have hii := G.ii
                      have hgg := G.gg
                      have hg3 := G.g3
                      have hsz := G.sz
                      have hgs : ∀ k ∈ gs y, g + 1 < k ∧ k ≤ g1 := by
                        intro k hk
                        rcases G.gs k hk with h | h
                        · simp [trM, gsO] at h
                        · exact h
                      simp only [trM, szO] at hsz
                      refine ⟨⟨⟨G.wf, fun h => by have := hgs _ h; omega, by omega, by omega⟩, by simp only [trM, szO, nds]; omega, ?_, by omega, by omega, by omega, hg3, by omega⟩, fun d h => by omega⟩
                      intro k hk
                      simp only [gs, List.mem_cons] at hk
                      rcases hk with rfl | hk
                      · exact .inr ⟨by omega, by omega⟩
                      · have := hgs k hk; exact .inr ⟨by omega, this.2⟩
                  · rw [if_neg hj]
                    exact ⟨fun _ _ _ _ h => by (cases h), fun hf e' he => by cases he; simp⟩
        · rw [if_neg h40]
          by_cases hsg : isSign b = true
          · rw [if_pos hsg]
            exact ⟨fun _ _ _ _ h => by (cases h), fun hf e' he => by cases he; simp⟩
          · rw [if_neg hsg]
            obtain ⟨l1, l2⟩ := leafA_ok (b := b) hlt
            cases hl : leafA p i b with
            | error e =>
              rw [hl] at l2
              simp only
              exact ⟨fun _ _ _ _ h => by (cases h), fun hf e' he => by cases he; exact l2 e rfl⟩
            | ok r =>
              obtain ⟨y, j⟩ := r
              rw [hl] at l1
              obtain ⟨c1, c2, c3, c4, c5⟩ := l1 y j rfl
              simp only
              by_cases h24 : 24 ≤ n
              · rw [if_pos h24]
                exact ⟨fun _ _ _ _ h => by (cases h), fun hf e' he => by cases he; simp⟩
              · rw [if_neg h24]
                refine ⟨fun x i' n' g' h => ?_, fun hf e he => by cases he⟩
                cases h
                exact ⟨⟨c1, by simp only [trM, szO, c3], fun k hk => by rw [c2] at hk; simp at hk, by omega, c5, Nat.le_refl _, hg, by omega⟩, fun d h => c4⟩

theorem parse_ok {p : List UInt8} : (∀ x g, parseP p = .ok (x, g) → WF x ∧ nds x ≤ 24) ∧ (∀ e, parseP p = .error e → e.1 ≠ 0) := by
  unfold parseP
  obtain ⟨a1, a2⟩ := pd_ok (p := p) (5 * p.length + 5) (.alt 0) 0 0 0 (by omega) (by omega) (by omega) (fun l h => by cases h) (fun d h => by cases h)
  cases h : pd p (5 * p.length + 5) (.alt 0) 0 0 0 with
  | error e =>
    rw [h] at a2
    simp only
    exact ⟨fun _ _ h => by (cases h), fun e' he => by cases he; exact a2 (by simp only [rkM]; omega) e rfl⟩
  | ok r =>
    obtain ⟨x, i, n, g⟩ := r
    rw [h] at a1
    obtain ⟨G, _⟩ := a1 x i n g rfl
    have hsz := G.sz
    have h24 := G.n24
    simp only [trM, szO] at hsz
    simp only
    split
    · exact ⟨fun _ _ h => by (cases h), fun e' he => by cases he; simp⟩
    · exact ⟨fun x g h => by cases h; exact ⟨G.wf, by omega⟩, fun e' he => by cases he⟩

/-- The stack machine's start. -/
def rs0 : RS := ⟨0, 0, 0, fresh 0 0, []⟩

theorem rrun_parse (p : List UInt8) : ∃ f, rrun p f rs0 = parseP p := by
  obtain ⟨_, _, _, _, ht⟩ := sim (p := p) (5 * p.length + 5)
  obtain ⟨t1, t2⟩ := ht 0 0 0 0 0 0 [] _ rfl rfl
  obtain ⟨a1, a2⟩ := pd_ok (p := p) (5 * p.length + 5) (.alt 0) 0 0 0 (by omega) (by omega) (by omega) (fun l h => by cases h) (fun d h => by cases h)
  unfold parseP
  cases h : pd p (5 * p.length + 5) (.alt 0) 0 0 0 with
  | error e =>
    rw [h] at a2 t2
    obtain ⟨k, hk⟩ := t2 e rfl (a2 (by simp only [rkM]; omega) e rfl)
    exact ⟨0 + k + 1, by rw [rrun_none rfl]; exact hk 0⟩
  | ok r =>
    obtain ⟨x, i, n, g⟩ := r
    rw [h] at t1
    obtain ⟨hj, k, hk⟩ := t1 x i n g rfl
    refine ⟨0 + k + 1, ?_⟩
    rw [rrun_none rfl]
    have := hk 0
    rw [show rs0 = ⟨0, 0, 0, fresh 0 0, []⟩ from rfl, this]
    unfold goA
    simp only
    rcases hj with hj | hj
    · rw [hj]
      have : ¬ i < p.length := by
        intro hlt
        rw [List.getElem?_eq_getElem hlt] at hj
        cases hj
      rw [if_neg this]
      rfl
    · rw [hj, if_pos (get_lt hj)]
      rfl

end Go.Proofs.Qxb6500567aGreat
