import Derived.Test.Qxb6500570aGreatPc
/- Plain: lawful arenas; what the machine lays is lawful. -/
namespace Go.Proofs.Qxb6500570aGreat
set_option linter.unusedVariables false
set_option linter.unusedSimpArgs false

/-- A lawful subtree (lk = false) at i, or k links that end at i (lk = true): it fills lo .. i. -/
def SgF (ar : List Nd) : Nat → Bool → Nat → Nat → Nat → Bool → Prop
  | 0, _, _, _, _, _ => False
  | f + 1, false, _, lo, i, arg => ∃ x, ar[i]? = some x ∧
      ((x.k = 1 ∧ 0 ≤ x.n ∧ x.n ≤ 999999999 ∧ lo = i) ∨ (x.k = 2 ∧ (x.n = 0 ∨ x.n = 1) ∧ lo = i) ∨ (x.k = 3 ∧ lo = i) ∨ (x.k = 5 ∧ lo = i) ∨ (x.k = 4 ∧ arg = true ∧ lo = i)
      ∨ (x.k = 6 ∧ 1 ≤ i ∧ x.a = (i : Int) - 1 ∧ SgF ar f false 0 lo (i - 1) false)
      ∨ (x.k = 7 ∧ 1 ≤ i ∧ x.b = (i : Int) - 1 ∧ ∃ o m : Nat, x.o = (o : Int) ∧ 1 ≤ o ∧ o ≤ 10 ∧ 1 ≤ m ∧ m < i ∧ x.a = (m : Int) - 1 ∧ SgF ar f false 0 m (i - 1) false ∧ SgF ar f false 0 lo (m - 1) false)
      ∨ (x.k = 8 ∧ 1 ≤ i ∧ x.a = (i : Int) - 1 ∧ ∃ fn n : Nat, x.o = (fn : Int) ∧ x.n = (n : Int) ∧ arity fn n = true ∧ SgF ar f true n lo (i - 1) (rangeOK fn)))
  | f + 1, true, k, lo, i, rg => ∃ x, ar[i]? = some x ∧ x.k = 9 ∧ 1 ≤ i ∧ x.a = (i : Int) - 1 ∧ ∃ m : Nat, m < i ∧ SgF ar f false 0 m (i - 1) rg ∧
      ((k = 1 ∧ x.b = -1 ∧ lo = m) ∨ (1 < k ∧ 1 ≤ m ∧ x.b = (m : Int) - 1 ∧ SgF ar f true (k - 1) lo (m - 1) rg))

theorem SgF.up {ar : List Nd} : ∀ (f : Nat) (lk : Bool) (k lo i : Nat) (arg : Bool), SgF ar f lk k lo i arg → SgF ar (f + 1) lk k lo i arg := by
  intro f
  induction f with
  | zero => intro lk k lo i arg h; exact h.elim
  | succ f ih =>
    intro lk k lo i arg h
    cases lk with
    | false =>
      obtain ⟨x, hx, h⟩ := h
      refine ⟨x, hx, ?_⟩
      rcases h with h | h | h | h | h | ⟨h1, h2, h3, h4⟩ | ⟨h1, h2, h3, o, m, h4, h5, h6, h7, h8, h9, h10, h11⟩ | ⟨h1, h2, h3, fn, n, h4, h5, h6, h7⟩
      · exact .inl h
      · exact .inr (.inl h)
      · exact .inr (.inr (.inl h))
      · exact .inr (.inr (.inr (.inl h)))
      · exact .inr (.inr (.inr (.inr (.inl h))))
      · exact .inr (.inr (.inr (.inr (.inr (.inl ⟨h1, h2, h3, ih _ _ _ _ _ h4⟩)))))
      · exact .inr (.inr (.inr (.inr (.inr (.inr (.inl ⟨h1, h2, h3, o, m, h4, h5, h6, h7, h8, h9, ih _ _ _ _ _ h10, ih _ _ _ _ _ h11⟩))))))
      · exact .inr (.inr (.inr (.inr (.inr (.inr (.inr ⟨h1, h2, h3, fn, n, h4, h5, h6, ih _ _ _ _ _ h7⟩))))))
    | true =>
      obtain ⟨x, hx, h1, h2, h3, m, h4, h5, h6⟩ := h
      refine ⟨x, hx, h1, h2, h3, m, h4, ih _ _ _ _ _ h5, ?_⟩
      rcases h6 with h6 | ⟨h6, h7, h8, h9⟩
      · exact .inl h6
      · exact .inr ⟨h6, h7, h8, ih _ _ _ _ _ h9⟩
theorem SgF.ups {ar : List Nd} {f g : Nat} {lk : Bool} {k lo i : Nat} {arg : Bool} (h : SgF ar f lk k lo i arg) (hg : f ≤ g) : SgF ar g lk k lo i arg := by
  induction hg with
  | refl => exact h
  | step _ ih => exact SgF.up _ _ _ _ _ _ ih

theorem SgF.app {ar B : List Nd} : ∀ (f : Nat) (lk : Bool) (k lo i : Nat) (arg : Bool), SgF ar f lk k lo i arg → SgF (ar ++ B) f lk k lo i arg := by
  have gx : ∀ {i : Nat} {x : Nd}, ar[i]? = some x → (ar ++ B)[i]? = some x := by
    intro i x h
    rw [List.getElem?_append_left ((List.getElem?_eq_some_iff.1 h).1)]
    exact h
  intro f
  induction f with
  | zero => intro lk k lo i arg h; exact h.elim
  | succ f ih =>
    intro lk k lo i arg h
    cases lk with
    | false =>
      obtain ⟨x, hx, h⟩ := h
      refine ⟨x, gx hx, ?_⟩
      rcases h with h | h | h | h | h | ⟨h1, h2, h3, h4⟩ | ⟨h1, h2, h3, o, m, h4, h5, h6, h7, h8, h9, h10, h11⟩ | ⟨h1, h2, h3, fn, n, h4, h5, h6, h7⟩
      · exact .inl h
      · exact .inr (.inl h)
      · exact .inr (.inr (.inl h))
      · exact .inr (.inr (.inr (.inl h)))
      · exact .inr (.inr (.inr (.inr (.inl h))))
      · exact .inr (.inr (.inr (.inr (.inr (.inl ⟨h1, h2, h3, ih _ _ _ _ _ h4⟩)))))
      · exact .inr (.inr (.inr (.inr (.inr (.inr (.inl ⟨h1, h2, h3, o, m, h4, h5, h6, h7, h8, h9, ih _ _ _ _ _ h10, ih _ _ _ _ _ h11⟩))))))
      · exact .inr (.inr (.inr (.inr (.inr (.inr (.inr ⟨h1, h2, h3, fn, n, h4, h5, h6, ih _ _ _ _ _ h7⟩))))))
    | true =>
      obtain ⟨x, hx, h1, h2, h3, m, h4, h5, h6⟩ := h
      refine ⟨x, gx hx, h1, h2, h3, m, h4, ih _ _ _ _ _ h5, ?_⟩
      rcases h6 with h6 | ⟨h6, h7, h8, h9⟩
      · exact .inl h6
      · exact .inr ⟨h6, h7, h8, ih _ _ _ _ _ h9⟩

theorem SgF.arg {ar : List Nd} {f k lo i : Nat} {b : Bool} (h : SgF ar f false k lo i false) : SgF ar f false k lo i b := by
  cases f with
  | zero => exact h.elim
  | succ f =>
    obtain ⟨x, hx, h⟩ := h
    refine ⟨x, hx, ?_⟩
    rcases h with h | h | h | h | h | h | h | h
    · exact .inl h
    · exact .inr (.inl h)
    · exact .inr (.inr (.inl h))
    · exact .inr (.inr (.inr (.inl h)))
    · exact absurd h.2.1 (by decide)
    · exact .inr (.inr (.inr (.inr (.inr (.inl h)))))
    · exact .inr (.inr (.inr (.inr (.inr (.inr (.inl h))))))
    · exact .inr (.inr (.inr (.inr (.inr (.inr (.inr h))))))
theorem SgF.nor {ar : List Nd} {f k lo i : Nat} {b : Bool} (h : SgF ar f false k lo i b) (hn : isRng ar i = false) : SgF ar f false k lo i false := by
  cases f with
  | zero => exact h.elim
  | succ f =>
    obtain ⟨x, hx, h⟩ := h
    refine ⟨x, hx, ?_⟩
    rcases h with h | h | h | h | h | h | h | h
    · exact .inl h
    · exact .inr (.inl h)
    · exact .inr (.inr (.inl h))
    · exact .inr (.inr (.inr (.inl h)))
    · unfold isRng at hn
      rw [hx] at hn
      exact absurd h.1 (by simpa using hn)
    · exact .inr (.inr (.inr (.inr (.inr (.inl h)))))
    · exact .inr (.inr (.inr (.inr (.inr (.inr (.inl h))))))
    · exact .inr (.inr (.inr (.inr (.inr (.inr (.inr h))))))
theorem SgF.le {ar : List Nd} : ∀ (f : Nat) (lk : Bool) (k lo i : Nat) (arg : Bool), SgF ar f lk k lo i arg → lo ≤ i ∧ i < ar.length := by
  intro f
  induction f with
  | zero => intro lk k lo i arg h; exact h.elim
  | succ f ih =>
    intro lk k lo i arg h
    cases lk with
    | false =>
      obtain ⟨x, hx, h⟩ := h
      have hl := (List.getElem?_eq_some_iff.1 hx).1
      rcases h with h | h | h | h | h | ⟨h1, h2, h3, h4⟩ | ⟨h1, h2, h3, o, m, h4, h5, h6, h7, h8, h9, h10, h11⟩ | ⟨h1, h2, h3, fn, n, h4, h5, h6, h7⟩
      · omega
      · omega
      · omega
      · omega
      · omega
      · have := ih _ _ _ _ _ h4; omega
      · have := ih _ _ _ _ _ h11; omega
      · have := ih _ _ _ _ _ h7; omega
    | true =>
      obtain ⟨x, hx, h1, h2, h3, m, h4, h5, h6⟩ := h
      have hl := (List.getElem?_eq_some_iff.1 hx).1
      rcases h6 with h6 | ⟨h6, h7, h8, h9⟩
      · omega
      · have := ih _ _ _ _ _ h9; omega

/-- A lawful subtree. -/
def Sg (ar : List Nd) (lo i : Nat) (arg : Bool) : Prop := ∃ f, SgF ar f false 0 lo i arg
/-- Lawful links. -/
def Sl (ar : List Nd) (k lo i : Nat) (rg : Bool) : Prop := ∃ f, SgF ar f true k lo i rg
theorem Sg.app {ar B : List Nd} {lo i : Nat} {arg : Bool} (h : Sg ar lo i arg) : Sg (ar ++ B) lo i arg := by obtain ⟨f, h⟩ := h; exact ⟨f, SgF.app _ _ _ _ _ _ h⟩
theorem Sl.app {ar B : List Nd} {k lo i : Nat} {rg : Bool} (h : Sl ar k lo i rg) : Sl (ar ++ B) k lo i rg := by obtain ⟨f, h⟩ := h; exact ⟨f, SgF.app _ _ _ _ _ _ h⟩
theorem Sg.arg {ar : List Nd} {lo i : Nat} {b : Bool} (h : Sg ar lo i false) : Sg ar lo i b := by obtain ⟨f, h⟩ := h; exact ⟨f, SgF.arg h⟩
theorem Sg.nor {ar : List Nd} {lo i : Nat} {b : Bool} (h : Sg ar lo i b) (hn : isRng ar i = false) : Sg ar lo i false := by obtain ⟨f, h⟩ := h; exact ⟨f, SgF.nor h hn⟩
theorem Sg.le {ar : List Nd} {lo i : Nat} {b : Bool} (h : Sg ar lo i b) : lo ≤ i ∧ i < ar.length := by obtain ⟨f, h⟩ := h; exact SgF.le _ _ _ _ _ _ h
theorem Sl.le {ar : List Nd} {k lo i : Nat} {b : Bool} (h : Sl ar k lo i b) : lo ≤ i ∧ i < ar.length := by obtain ⟨f, h⟩ := h; exact SgF.le _ _ _ _ _ _ h

theorem snoc_last (ar : List Nd) (x : Nd) : (ar ++ [x])[ar.length]? = some x := by simp

theorem Sg.num {ar : List Nd} {n : Nat} {arg : Bool} (h : n ≤ 999999999) : Sg (ar ++ [nLeaf 1 n]) ar.length ar.length arg := ⟨1, _, snoc_last _ _, .inl ⟨rfl, by show (0 : Int) ≤ (n : Int); omega, by show (n : Int) ≤ _; omega, rfl⟩⟩
theorem Sg.bool {ar : List Nd} {n : Nat} {arg : Bool} (h : n ≤ 1) : Sg (ar ++ [nLeaf 2 n]) ar.length ar.length arg := ⟨1, _, snoc_last _ _, .inr (.inl ⟨rfl, by show (n : Int) = 0 ∨ (n : Int) = 1; omega, rfl⟩)⟩
theorem Sg.bad {ar : List Nd} {n : Nat} {arg : Bool} : Sg (ar ++ [nLeaf 5 n]) ar.length ar.length arg := ⟨1, _, snoc_last _ _, .inr (.inr (.inr (.inl ⟨rfl, rfl⟩)))⟩
theorem Sg.ref {ar : List Nd} {r : Rf} {arg : Bool} : Sg (ar ++ [nRef r]) ar.length ar.length arg := ⟨1, _, snoc_last _ _, .inr (.inr (.inl ⟨rfl, rfl⟩))⟩
theorem Sg.rng {ar : List Nd} {r q : Rf} : Sg (ar ++ [nRng r q]) ar.length ar.length true := ⟨1, _, snoc_last _ _, .inr (.inr (.inr (.inr (.inl ⟨rfl, rfl, rfl⟩))))⟩
theorem Sg.neg {ar : List Nd} {lo v : Nat} {arg : Bool} (h : Sg ar lo v false) (hv : v + 1 = ar.length) : Sg (ar ++ [nNeg v]) lo ar.length arg := by
  obtain ⟨f, h⟩ := h
  refine ⟨f + 1, _, snoc_last _ _, .inr (.inr (.inr (.inr (.inr (.inl ⟨rfl, by omega, by show (v : Int) = _; omega, ?_⟩)))))⟩
  rw [show ar.length - 1 = v by omega]
  exact SgF.app _ _ _ _ _ _ h
theorem Sg.bin {ar : List Nd} {lo a m b o : Nat} {arg : Bool} (h1 : Sg ar lo a false) (h2 : Sg ar m b false) (ham : a + 1 = m) (hb : b + 1 = ar.length) (ho1 : 1 ≤ o) (ho2 : o ≤ 10) : Sg (ar ++ [nBin o a b]) lo ar.length arg := by
  have hm := h2.le
  obtain ⟨f, h1⟩ := h1
  obtain ⟨g, h2⟩ := h2
  refine ⟨f + g + 1, _, snoc_last _ _, .inr (.inr (.inr (.inr (.inr (.inr (.inl ⟨rfl, by omega, by show (b : Int) = _; omega, o, m, rfl, ho1, ho2, by omega, by omega, by show (a : Int) = _; omega, ?_, ?_⟩))))))⟩
  · rw [show ar.length - 1 = b by omega]
    exact SgF.app _ _ _ _ _ _ (h2.ups (by omega))
  · rw [show m - 1 = a by omega]
    exact SgF.app _ _ _ _ _ _ (h1.ups (by omega))
theorem Sg.call {ar : List Nd} {lo l n fn : Nat} {arg : Bool} (h : Sl ar n lo l (rangeOK fn)) (hl : l + 1 = ar.length) (ha : arity fn n = true) : Sg (ar ++ [nCall fn l n]) lo ar.length arg := by
  obtain ⟨f, h⟩ := h
  refine ⟨f + 1, _, snoc_last _ _, .inr (.inr (.inr (.inr (.inr (.inr (.inr ⟨rfl, by omega, by show (l : Int) = _; omega, fn, n, rfl, rfl, ha, ?_⟩))))))⟩
  rw [show ar.length - 1 = l by omega]
  exact SgF.app _ _ _ _ _ _ h
theorem Sl.one {ar : List Nd} {lo v : Nat} {rg : Bool} (h : Sg ar lo v rg) (hv : v + 1 = ar.length) : Sl (ar ++ [nArg v (-1)]) 1 lo ar.length rg := by
  have hl := h.le
  obtain ⟨f, h⟩ := h
  refine ⟨f + 1, _, snoc_last _ _, rfl, by omega, by show (v : Int) = _; omega, lo, by omega, ?_, .inl ⟨rfl, rfl, rfl⟩⟩
  rw [show ar.length - 1 = v by omega]
  exact SgF.app _ _ _ _ _ _ h
theorem Sl.more {ar : List Nd} {lo l m v k : Nat} {rg : Bool} (h1 : Sl ar k lo l rg) (hk : 1 ≤ k) (h2 : Sg ar m v rg) (hlm : l + 1 = m) (hv : v + 1 = ar.length) : Sl (ar ++ [nArg v l]) (k + 1) lo ar.length rg := by
  have hl := h2.le
  obtain ⟨f, h1⟩ := h1
  obtain ⟨g, h2⟩ := h2
  refine ⟨f + g + 1, _, snoc_last _ _, rfl, by omega, by show (v : Int) = _; omega, m, by omega, ?_, .inr ⟨by omega, by omega, by show (l : Int) = _; omega, ?_⟩⟩
  · rw [show ar.length - 1 = v by omega]
    exact SgF.app _ _ _ _ _ _ (h2.ups (by omega))
  · rw [show k + 1 - 1 = k by omega, show m - 1 = l by omega]
    exact SgF.app _ _ _ _ _ _ (h1.ups (by omega))

/-! ### The machine's stacks -/

/-- The marks and the operands below cover the places below hi. -/
def Stk (ar : List Nd) : List Mk → List Nat → Nat → Prop
  | [], ov, hi => ov = [] ∧ hi = 0
  | m :: os, ov, hi => (m.k = 1 ∧ m.n = 0 ∧ Stk ar os ov hi) ∨ (m.k = 3 ∧ m.n = 0 ∧ Stk ar os ov hi)
      ∨ (m.k = 2 ∧ m.n = 0 ∧ 1 ≤ m.o ∧ m.o ≤ 10 ∧ ∃ v ov' lo, ov = v :: ov' ∧ v + 1 = hi ∧ Sg ar lo v false ∧ Stk ar os ov' lo)
      ∨ (m.k = 4 ∧ 1 ≤ m.o ∧ m.o ≤ 10 ∧ ((m.n = 0 ∧ m.l = -1 ∧ Stk ar os ov hi) ∨ (1 ≤ m.n ∧ ∃ l lo : Nat, l + 1 = hi ∧ m.l = (l : Int) ∧ Sl ar m.n lo l (rangeOK m.o) ∧ Stk ar os ov lo)))
theorem Stk.app {ar B : List Nd} : ∀ {os : List Mk} {ov : List Nat} {hi : Nat}, Stk ar os ov hi → Stk (ar ++ B) os ov hi
  | [], _, _, h => h
  | m :: os, ov, hi, h => by
    rcases h with ⟨h1, h2, h3⟩ | ⟨h1, h2, h3⟩ | ⟨h1, h2, h3, h4, v, ov', lo, h5, h6, h7, h8⟩ | ⟨h1, h2, h3, h4⟩
    · exact .inl ⟨h1, h2, h3.app⟩
    · exact .inr (.inl ⟨h1, h2, h3.app⟩)
    · exact .inr (.inr (.inl ⟨h1, h2, h3, h4, v, ov', lo, h5, h6, h7.app, h8.app⟩))
    · refine .inr (.inr (.inr ⟨h1, h2, h3, ?_⟩))
      rcases h4 with ⟨h4, h5, h6⟩ | ⟨h4, l, lo, h5, h6, h7, h8⟩
      · exact .inl ⟨h4, h5, h6.app⟩
      · exact .inr ⟨h4, l, lo, h5, h6, h7.app, h8.app⟩

/-- The machine between two steps. -/
structure PI (st : PS) : Prop where
  l24 : st.ar.length ≤ 24
  no : st.hv = false → Stk st.ar st.os st.ov st.ar.length
  ye : st.hv = true → ∃ v ov' lo, st.ov = v :: ov' ∧ v + 1 = st.ar.length ∧ Sg st.ar lo v (rgOf st.os) ∧ Stk st.ar st.os ov' lo

/-- An operand on top. -/
structure PT (ar : List Nd) (ov : List Nat) (os : List Mk) : Prop where
  l24 : ar.length ≤ 24
  tp : ∃ v ov' lo, ov = v :: ov' ∧ v + 1 = ar.length ∧ Sg ar lo v (rgOf os) ∧ Stk ar os ov' lo

theorem addN_ok {ar ar' : List Nd} {x : Nd} (h : addN ar x = some ar') : ar' = ar ++ [x] ∧ ar.length < 24 := by
  unfold addN at h
  split at h
  · cases h; exact ⟨rfl, by assumption⟩
  · cases h
theorem rg_bin {m : Mk} {os : List Mk} (h : m.k ≠ 4) : rgOf (m :: os) = false := by simp [rgOf, h]

theorem join_ok {m : Mk} {ar : List Nd} {ov : List Nat} {os : List Mk} {x : List Nd × List Nat} (hm : m.k = 2) (h : PT ar ov (m :: os)) (hj : joinP m ar ov = some x) : PT x.1 x.2 os ∧ ∃ lo v ov', x.2 = v :: ov' ∧ v + 1 = x.1.length ∧ Sg x.1 lo v false ∧ Stk x.1 os ov' lo := by
  obtain ⟨h24, v, ov', lo, rfl, hv, hs, hk⟩ := h
  rw [rg_bin (by omega)] at hs
  rcases hk with ⟨h1, -⟩ | ⟨h1, -⟩ | ⟨-, -, h3, h4, a, ov2, lo2, rfl, h6, h7, h8⟩ | ⟨h1, -⟩
  · omega
  · omega
  · unfold joinP at hj
    cases ha : addN ar (nBin m.o a v) with
    | none => simp [ha] at hj
    | some ar' =>
      simp only [ha, Option.map_some, Option.some.injEq] at hj
      subst hj
      obtain ⟨rfl, hlt⟩ := addN_ok ha
      have hb : ∀ b, Sg (ar ++ [nBin m.o a v]) lo2 ar.length b := fun b => Sg.bin h7 hs (by omega) hv h3 h4
      exact ⟨⟨by simp; omega, _, _, _, rfl, by simp, hb _, h8.app⟩, _, _, _, rfl, by simp, hb _, h8.app⟩
  · omega
theorem settle_ok : ∀ {os : List Mk} {ar : List Nd} {ov : List Nat} {x : List Nd × List Nat × List Mk}, PT ar ov os → settle os ar ov = some x → PT x.1 x.2.1 x.2.2
  | [], ar, ov, x, h, hs => by simp only [settle, Option.some.injEq] at hs; subst hs; exact h
  | m :: os, ar, ov, x, h, hs => by
    unfold settle at hs
    split at hs
    · rename_i hm
      obtain ⟨h24, v, ov', lo, rfl, hv, hsg, hk⟩ := h
      rw [rg_bin (by omega)] at hsg
      simp only at hs
      cases ha : addN ar (nNeg v) with
      | none => simp [ha] at hs
      | some ar' =>
        simp only [ha] at hs
        obtain ⟨rfl, hlt⟩ := addN_ok ha
        have hk' : Stk ar os ov' lo := by
          rcases hk with ⟨h1, _, h3⟩ | ⟨h1, -⟩ | ⟨h1, -⟩ | ⟨h1, -⟩
          · exact h3
          · omega
          · omega
          · omega
        exact settle_ok ⟨by simp; omega, _, _, _, rfl, by simp, Sg.neg hsg hv, hk'.app⟩ hs
    · split at hs
      · rename_i hm hm2
        cases hj : joinP m ar ov with
        | none => simp [hj] at hs
        | some y =>
          simp only [hj, Option.map_some, Option.some.injEq] at hs
          subst hs
          exact (join_ok hm2.1 h hj).1
      · simp only [Option.some.injEq] at hs
        subst hs
        exact h
theorem settleS_ok {ts : List Tk} {ar : List Nd} {ov : List Nat} {os : List Mk} {st : PS} (h : PT ar ov os) (hs : settleS ts ar ov os = some st) : PI st := by
  unfold settleS at hs
  cases hx : settle os ar ov with
  | none => simp [hx] at hs
  | some x =>
    simp only [hx, Option.map_some, Option.some.injEq] at hs
    subst hs
    have := settle_ok h hx
    exact ⟨this.l24, fun h => (by cases h), fun _ => this.tp⟩
theorem wholeP_ok {x : Nd} {ts : List Tk} {ar : List Nd} {ov : List Nat} {os : List Mk} {st : PS} {lo : Nat} (hk : Stk ar os ov lo) (hx2 : Sg (ar ++ [x]) lo ar.length (rgOf os)) (hw : wholeP x ts ar ov os = some st) : PI st := by
  unfold wholeP at hw
  cases ha : addN ar x with
  | none => simp [ha] at hw
  | some ar' =>
    simp only [ha] at hw
    obtain ⟨rfl, hlt⟩ := addN_ok ha
    exact settleS_ok ⟨by simp; omega, _, _, _, rfl, by simp, hx2, hk.app⟩ hw

/-- The tokens that the scanner makes. -/
structure TkOK (t : Tk) : Prop where
  lf : t.k = 2 → (t.o = 1 ∧ t.n ≤ 999999999) ∨ (t.o = 2 ∧ t.n ≤ 1) ∨ t.o = 5
  fn : t.k = 5 → 1 ≤ t.n ∧ t.n ≤ 10
  op : t.k = 6 → 1 ≤ t.n ∧ t.n ≤ 10
theorem TkOK.end : TkOK tkEnd := ⟨fun h => (by cases h), fun h => (by cases h), fun h => (by cases h)⟩

theorem numF_lt : ∀ (d : List UInt8) (v : Nat), (∀ c ∈ d, dg c = true) → d.foldl (fun v c => v * 10 + dv c) v < (v + 1) * 10 ^ d.length
  | [], v, _ => by simp
  | c :: d, v, h => by
    have hc := h c (by simp)
    have hd : dv c ≤ 9 := by
      unfold dg at hc
      simp only [Bool.and_eq_true, decide_eq_true_eq] at hc
      unfold dv; omega
    have := numF_lt d (v * 10 + dv c) (fun x hx => h x (by simp [hx]))
    rw [List.foldl_cons, List.length_cons, Nat.pow_succ]
    calc _ < (v * 10 + dv c + 1) * 10 ^ d.length := this
      _ ≤ ((v + 1) * 10) * 10 ^ d.length := Nat.mul_le_mul_right _ (by omega)
      _ = _ := by rw [Nat.mul_assoc, Nat.mul_comm 10]
theorem numF_le {d : List UInt8} (h : ∀ c ∈ d, dg c = true) (hl : d.length ≤ 9) : numF d ≤ 999999999 := by
  have h1 := numF_lt d 0 h
  have h2 : 10 ^ d.length ≤ 10 ^ 9 := Nat.pow_le_pow_right (by omega) hl
  unfold numF
  omega
theorem fnOf_le (w : List UInt8) : fnOf w ≤ 10 := by
  unfold fnOf
  cases h : (List.range 10).findSome? (fun i => if fnm (i + 1) = w then some (i + 1) else none) with
  | none => simp
  | some x =>
    obtain ⟨i, hi, hx⟩ := List.exists_of_findSome?_eq_some h
    simp only [List.mem_range] at hi
    split at hx
    · cases hx; simp; omega
    · cases hx
theorem wordT_ok (w : List UInt8) : TkOK (wordT w) := by
  unfold wordT
  have := fnOf_le w
  split
  · exact ⟨fun h => (by cases h), fun h => (by cases h), fun h => (by cases h)⟩
  · split
    · exact ⟨fun _ => .inr (.inl ⟨rfl, by decide⟩), fun h => (by cases h), fun h => (by cases h)⟩
    · split
      · exact ⟨fun _ => .inr (.inl ⟨rfl, by decide⟩), fun h => (by cases h), fun h => (by cases h)⟩
      · split
        · exact ⟨fun h => (by cases h), fun h => (by cases h), fun h => (by cases h)⟩
        · exact ⟨fun h => (by cases h), fun _ => ⟨by show 1 ≤ fnOf w; omega, this⟩, fun h => (by cases h)⟩
theorem numT_ok {d : List UInt8} (h : ∀ c ∈ d, dg c = true) : TkOK (numT d) := by
  unfold numT
  split
  · exact ⟨fun h => (by cases h), fun h => (by cases h), fun h => (by cases h)⟩
  · exact ⟨fun _ => .inl ⟨rfl, numF_le h (by omega)⟩, fun h => (by cases h), fun h => (by cases h)⟩
theorem sgnT_ok (c d : UInt8) : TkOK (sgnT c d).1 := by
  unfold sgnT
  split
  · rename_i h
    rcases h with rfl | rfl | rfl | rfl <;> exact ⟨fun h => (by cases h), fun h => (by cases h), fun h => (by cases h)⟩
  · repeat' split
    all_goals first
      | exact ⟨fun h => (by cases h), fun h => (by cases h), fun _ => ⟨by decide, by decide⟩⟩
      | exact ⟨fun _ => .inr (.inr rfl), fun h => (by cases h), fun h => (by cases h)⟩
      | exact ⟨fun h => (by cases h), fun h => (by cases h), fun h => (by cases h)⟩
theorem tw_all {f : UInt8 → Bool} {u : List UInt8} : ∀ c ∈ u.takeWhile f, f c = true := by
  intro c hc
  induction u with
  | nil => simp at hc
  | cons x u ih =>
    rw [List.takeWhile_cons] at hc
    split at hc
    · rcases List.mem_cons.1 hc with rfl | h
      · assumption
      · exact ih h
    · simp at hc
theorem tkw_ok (u : List UInt8) : TkOK (tkw u).1 := by
  unfold tkw
  split
  · exact TkOK.end
  · split
    · exact numT_ok tw_all
    · split
      · exact wordT_ok _
      · exact sgnT_ok _ _
theorem toks_ok : ∀ (n : Nat) (u : List UInt8), u.length ≤ n → ∀ t ∈ toks u, TkOK t := by
  intro n
  induction n with
  | zero =>
    intro u h
    have : u = [] := List.length_eq_zero_iff.1 (by omega)
    subst this
    simp [toks_nil]
  | succ n ih =>
    intro u h
    cases u with
    | nil => simp [toks_nil]
    | cons c u =>
      simp only [List.length_cons] at h
      by_cases hc : c = 32
      · subst hc; rw [toks_blank]; exact ih u (by omega)
      · have hp := tkw_pos (c :: u)
        rw [toks_cons hc]
        intro t ht
        rcases List.mem_cons.1 ht with rfl | ht
        · exact tkw_ok _
        · exact ih _ (by rw [List.length_drop, List.length_cons]; omega) t ht
theorem hdT_ok {ts : List Tk} (h : ∀ t ∈ ts, TkOK t) : TkOK (hdT ts) := by
  cases ts with
  | nil => exact TkOK.end
  | cons t ts => exact h t (by simp)

end Go.Proofs.Qxb6500570aGreat
