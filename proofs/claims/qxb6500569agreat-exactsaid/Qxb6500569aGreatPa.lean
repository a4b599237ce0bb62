/- Plain: terms as nodes. No Go in sight. -/
namespace Go.Proofs.Qxb6500569aGreat
set_option linter.unusedVariables false

/-- A node: 'h' empty: a variable, 'r' its own address (unbound) or what it is bound to; else a structure: letter and arity digit, four arguments. -/
structure Nd where
  h : List UInt8
  r : Nat
  a : List Nat

def ar (h : List UInt8) : Nat := match h with | [_, d] => d.toNat - 48 | _ => 0

def derefF : Nat → List Nd → Nat → Nat
  | 0, _, a => a
  | n + 1, hp, a => match hp[a]? with
    | some nd => if nd.h = [] ∧ nd.r ≠ a then derefF n hp nd.r else a
    | none => a

def deref (hp : List Nd) (a : Nat) : Nat := derefF (a + 2) hp a

/-- A heap that is sound. -/
structure WFH (hp : List Nd) : Prop where
  var : ∀ (a : Nat) (nd : Nd), hp[a]? = some nd → nd.h = [] → nd.r < hp.length ∧ (nd.r ≤ a ∨ ∃ m : Nd, hp[nd.r]? = some m ∧ m.h ≠ [])
  str : ∀ (a : Nat) (nd : Nd), hp[a]? = some nd → nd.h ≠ [] → (∃ f d : UInt8, nd.h = [f, d] ∧ 48 ≤ d.toNat ∧ d.toNat ≤ 52) ∧ nd.a.length = 4 ∧ ∀ (i x : Nat), nd.a[i]? = some x → i < ar nd.h → x < hp.length

theorem derefF_mono {hp : List Nd} (h : WFH hp) : ∀ (n a : Nat), a + 2 ≤ n → derefF n hp a = derefF (a + 2) hp a := by
  have key : ∀ (k a n m : Nat), a ≤ k → a + 2 ≤ n → a + 2 ≤ m → derefF n hp a = derefF m hp a := by
    intro k
    induction k with
    | zero =>
      intro a n m ha hn hm
      cases n with
      | zero => omega
      | succ n =>
      cases m with
      | zero => omega
      | succ m =>
      simp only [derefF]
      cases hx : hp[a]? with
      | none => rfl
      | some nd =>
        simp only
        by_cases hc : nd.h = [] ∧ nd.r ≠ a
        · rw [if_pos hc, if_pos hc]
          obtain ⟨h1, h2⟩ := h.var a nd hx hc.1
          rcases h2 with h2 | ⟨q, hq, hqh⟩
          · exact absurd (show nd.r = a by omega) hc.2
          · cases n with
            | zero => omega
            | succ n =>
            cases m with
            | zero => omega
            | succ m => simp only [derefF, hq]; rw [if_neg (by intro hh; exact hqh hh.1), if_neg (by intro hh; exact hqh hh.1)]
        · rw [if_neg hc, if_neg hc]
    | succ k ih =>
      intro a n m ha hn hm
      cases n with
      | zero => omega
      | succ n =>
      cases m with
      | zero => omega
      | succ m =>
      simp only [derefF]
      cases hx : hp[a]? with
      | none => rfl
      | some nd =>
        simp only
        by_cases hc : nd.h = [] ∧ nd.r ≠ a
        · rw [if_pos hc, if_pos hc]
          obtain ⟨h1, h2⟩ := h.var a nd hx hc.1
          rcases h2 with h2 | ⟨q, hq, hqh⟩
          · have : nd.r < a := by have := hc.2; omega
            exact ih nd.r n m (by omega) (by omega) (by omega)
          · cases n with
            | zero => omega
            | succ n =>
            cases m with
            | zero => omega
            | succ m => simp only [derefF, hq]; rw [if_neg (by intro hh; exact hqh hh.1), if_neg (by intro hh; exact hqh hh.1)]
        · rw [if_neg hc, if_neg hc]
  intro n a hn
  exact key a a n (a + 2) (Nat.le_refl _) hn (Nat.le_refl _)

/-- How far a variable's chain may still go. -/
def rank (hp : List Nd) (a : Nat) : Nat := match hp[a]? with
  | some nd => if nd.h = [] then a + 1 else 0
  | none => 0

theorem rank_lt {hp : List Nd} (h : WFH hp) {a : Nat} {nd : Nd} (hx : hp[a]? = some nd) (hv : nd.h = []) (hr : nd.r ≠ a) : rank hp nd.r < rank hp a := by
  obtain ⟨h1, h2⟩ := h.var a nd hx hv
  have ha : rank hp a = a + 1 := by simp [rank, hx, hv]
  rw [ha]
  rcases h2 with h2 | ⟨q, hq, hqh⟩
  · unfold rank
    split
    · split <;> omega
    · omega
  · simp [rank, hq, hqh]

theorem deref_eq {hp : List Nd} (h : WFH hp) {a : Nat} {nd : Nd} (hx : hp[a]? = some nd) : deref hp a = if nd.h = [] ∧ nd.r ≠ a then deref hp nd.r else a := by
  have hone : derefF (a + 2) hp a = if nd.h = [] ∧ nd.r ≠ a then derefF (a + 1) hp nd.r else a := by
    show derefF (a + 1 + 1) hp a = _
    rw [derefF]
    simp only [hx]
  unfold deref
  rw [hone]
  by_cases hc : nd.h = [] ∧ nd.r ≠ a
  · rw [if_pos hc, if_pos hc]
    obtain ⟨h1, h2⟩ := h.var a nd hx hc.1
    rcases h2 with h2 | ⟨q, hq, hqh⟩
    · exact derefF_mono h _ _ (by have := hc.2; omega)
    · have st : ∀ k, derefF (k + 1) hp nd.r = nd.r := by
        intro k
        rw [derefF]
        simp only [hq]
        rw [if_neg (by intro hh; exact hqh hh.1)]
      rw [st, st]
  · rw [if_neg hc, if_neg hc]

theorem deref_step {hp : List Nd} (h : WFH hp) {a : Nat} {nd : Nd} (hx : hp[a]? = some nd) (hv : nd.h = []) (hr : nd.r ≠ a) : deref hp a = deref hp nd.r := by
  rw [deref_eq h hx, if_pos ⟨hv, hr⟩]

theorem deref_stop {hp : List Nd} (h : WFH hp) {a : Nat} {nd : Nd} (hx : hp[a]? = some nd) (hn : nd.h ≠ [] ∨ nd.r = a) : deref hp a = a := by
  rw [deref_eq h hx, if_neg (by rintro ⟨h1, h2⟩; rcases hn with hn | hn; exact hn h1; exact h2 hn)]

/-- What a chain ends at. -/
theorem deref_spec {hp : List Nd} (h : WFH hp) {a : Nat} (ha : a < hp.length) : ∃ nd : Nd, hp[deref hp a]? = some nd ∧ (nd.h ≠ [] ∨ nd.r = deref hp a) := by
  have key : ∀ (k a : Nat), a < hp.length → rank hp a ≤ k → ∃ nd : Nd, hp[deref hp a]? = some nd ∧ (nd.h ≠ [] ∨ nd.r = deref hp a) := by
    intro k
    induction k with
    | zero =>
      intro a ha hk
      have hx := List.getElem?_eq_getElem ha
      by_cases hc : hp[a].h = [] ∧ hp[a].r ≠ a
      · have := rank_lt h hx hc.1 hc.2; omega
      · have hd := deref_stop h hx (by by_cases h1 : hp[a].h = []; exact .inr (by by_cases h2 : hp[a].r = a; exact h2; exact absurd ⟨h1, h2⟩ hc); exact .inl h1)
        rw [hd]
        exact ⟨_, hx, by by_cases h1 : hp[a].h = []; exact .inr (by by_cases h2 : hp[a].r = a; exact h2; exact absurd ⟨h1, h2⟩ hc); exact .inl h1⟩
    | succ k ih =>
      intro a ha hk
      have hx := List.getElem?_eq_getElem ha
      by_cases hc : hp[a].h = [] ∧ hp[a].r ≠ a
      · rw [deref_step h hx hc.1 hc.2]
        have := rank_lt h hx hc.1 hc.2
        exact ih _ (h.var a _ hx hc.1).1 (by omega)
      · have hd := deref_stop h hx (by by_cases h1 : hp[a].h = []; exact .inr (by by_cases h2 : hp[a].r = a; exact h2; exact absurd ⟨h1, h2⟩ hc); exact .inl h1)
        rw [hd]
        exact ⟨_, hx, by by_cases h1 : hp[a].h = []; exact .inr (by by_cases h2 : hp[a].r = a; exact h2; exact absurd ⟨h1, h2⟩ hc); exact .inl h1⟩
  exact key _ a ha (Nat.le_refl _)

theorem deref_lt {hp : List Nd} (h : WFH hp) {a : Nat} (ha : a < hp.length) : deref hp a < hp.length := by
  obtain ⟨nd, hx, _⟩ := deref_spec h ha
  exact (List.getElem?_eq_some_iff.1 hx).1

def hd (hp : List Nd) (a : Nat) : List UInt8 := match hp[deref hp a]? with | some nd => nd.h | none => []

/-- The i-th argument of the structure at the end of a's chain. -/
def argOf (hp : List Nd) (a i : Nat) : Option Nat := match hp[deref hp a]? with
  | some nd => if i < ar nd.h then nd.a[i]? else none
  | none => none

end Go.Proofs.Qxb6500569aGreat
