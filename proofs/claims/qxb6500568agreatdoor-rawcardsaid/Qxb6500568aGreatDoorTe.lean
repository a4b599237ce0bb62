import Derived.Test.Qxb6500568aGreatDoorTa
import Derived.Test.Qxb6500568aGreatDoorSq
/- What the parser's check asks of the tokens and of the arena. -/
namespace Go.Proofs.Qxb6500568aGreatDoor
open Ieee
set_option linter.unusedVariables false
set_option linter.unusedSimpArgs false
set_option linter.unusedSectionVars false

/-! The tokens. -/
def TkL (hi : Nat) : Nat → List Tok → Prop
  | lo, [] => False
  | lo, t :: r => lo ≤ t.pl ∧ t.pl ≤ hi ∧ (t.e ≠ 0 ↔ t.k = 1) ∧ t.k ≤ 46 ∧ (if r = [] then t.k = 0 ∨ t.k = 1 else 2 ≤ t.k ∧ TkL hi (t.pl + 1) r)
theorem TkL.at {hi : Nat} : ∀ {l : List Tok} {lo i : Nat} {t : Tok}, TkL hi lo l → l[i]? = some t → (t.k ≤ 1 ↔ i + 1 = l.length) ∧ t.k ≤ 46 ∧ lo + i ≤ t.pl ∧ t.pl ≤ hi ∧ (t.e ≠ 0 ↔ t.k = 1) ∧ ∀ u, 0 < i → l[i - 1]? = some u → u.pl < t.pl
  | [], lo, i, t, h, hi' => by cases hi'
  | x :: r, lo, 0, t, h, hi' => by
    injection hi' with e
    subst e
    obtain ⟨h1, h2, h3, h4, h5⟩ := h
    refine ⟨?_, h4, by omega, h2, h3, fun u hu => by omega⟩
    rw [List.length_cons]
    split at h5
    · rename_i e; rw [e]; simp; omega
    · rename_i e
      have := List.length_pos_iff.2 e
      omega
  | x :: r, lo, i + 1, t, h, hi' => by
    obtain ⟨h1, h2, h3, h4, h5⟩ := h
    rw [List.getElem?_cons_succ] at hi'
    split at h5
    · rename_i e; rw [e] at hi'; cases hi'
    · obtain ⟨g1, g2, g3, g4, g5, g6⟩ := TkL.at h5.2 hi'
      refine ⟨by rw [List.length_cons, g1]; omega, g2, by omega, g4, g5, fun u _ hu => ?_⟩
      rw [Nat.add_sub_cancel] at hu
      cases i with
      | zero =>
        injection hu with e
        subst e
        omega
      | succ i => exact g6 u (Nat.succ_pos _) hu
theorem skip_pl : ∀ (cm : Bool) (s : Str) (p : Nat), p ≤ (skipL cm s p).2 ∧ (skipL cm s p).2 + (skipL cm s p).1.length = p + s.length
  | true, [], p => ⟨Nat.le_refl _, rfl⟩
  | false, [], p => ⟨Nat.le_refl _, rfl⟩
  | true, c :: r, p => by
    unfold skipL
    have h1 := skip_pl true r (p + 1)
    have h2 := skip_pl false r (p + 1)
    split
    · rw [List.length_cons]; omega
    · rw [List.length_cons]; omega
  | false, c :: r, p => by
    unfold skipL
    have h1 := skip_pl true r (p + 1)
    have h2 := skip_pl false r (p + 1)
    split
    · rw [List.length_cons]; omega
    · split
      · rw [List.length_cons]; omega
      · exact ⟨Nat.le_refl _, rfl⟩
theorem tw_le {α : Type} (p : α → Bool) : ∀ l : List α, (l.takeWhile p).length ≤ l.length
  | [] => Nat.le_refl _
  | x :: l => by
    rw [List.takeWhile_cons]
    split
    · rw [List.length_cons, List.length_cons]; have := tw_le p l; omega
    · simp
theorem posS_lt {w : Str} {l : List Str} {i : Nat} (h : posS w l = some i) : i < l.length := by
  obtain ⟨x, h1, -⟩ := posP_some h
  exact (List.getElem?_eq_some_iff.1 h1).1
def TA (t : Tok) (p n l : Nat) : Prop := t.pl = p ∧ (t.e ≠ 0 ↔ t.k = 1) ∧ t.k ≤ 46 ∧ 1 ≤ t.k ∧ (t.k ≠ 1 → 1 ≤ n ∧ n ≤ l)
theorem ta_bad {p n l e : Nat} (he : e ≠ 0) : TA ⟨1, p, [], 0, e⟩ p n l := ⟨rfl, ⟨fun _ => rfl, fun _ => he⟩, by show 1 ≤ 46; omega, Nat.le_refl _, fun q => absurd rfl q⟩
theorem ta_ok {k p n l x : Nat} {s : Str} (h1 : 2 ≤ k) (h2 : k ≤ 46) (h3 : 1 ≤ n) (h4 : n ≤ l) : TA ⟨k, p, s, x, 0⟩ p n l := ⟨rfl, ⟨fun q => absurd rfl q, fun q => by have q : k = 1 := q; omega⟩, h2, by show 1 ≤ k; omega, fun _ => ⟨h3, h4⟩⟩
/-- a token that opens at a byte. -/
theorem tokAt_at (c : UInt8) (r : Str) (p : Nat) : TA (tokAt c r p).1 p (tokAt c r p).2 (c :: r).length := by
  unfold tokAt
  dsimp only
  split
  · have hl := tw_le isWrd r
    show TA (if _ then _ else _) _ _ _
    split
    · have hk : ∀ o : Option Nat, (∀ i, o = some i → i < 19) → 2 ≤ (match o with | some i => 5 + i | none => 2) ∧ (match o with | some i => 5 + i | none => 2) ≤ 46 := fun o ho => by
        cases o with
        | none => exact ⟨Nat.le_refl _, by show 2 ≤ 46; omega⟩
        | some i =>
          have := ho i rfl
          exact ⟨by show 2 ≤ 5 + i; omega, by show 5 + i ≤ 46; omega⟩
      have hq := hk (posS (c :: r.takeWhile isWrd) kwL) (fun i hi => posS_lt hi)
      exact ta_ok hq.1 hq.2 (by show 1 ≤ (c :: r.takeWhile isWrd).length; rw [List.length_cons]; omega) (by show (c :: r.takeWhile isWrd).length ≤ _; rw [List.length_cons, List.length_cons]; omega)
    · exact ta_bad (by decide)
  · split
    · rename_i hd
      have hn : 1 ≤ numLen (c :: r) := by
        have h1 : 1 ≤ ((c :: r).takeWhile isDig).length := by rw [List.takeWhile_cons, if_pos hd, List.length_cons]; omega
        unfold numLen
        simp only
        generalize ((c :: r).takeWhile isDig).length = d at h1
        cases (c :: r).drop d with
        | nil => exact h1
        | cons x q =>
          simp only
          split
          · omega
          · split
            · omega
            · split
              · omega
              · exact h1
      have hl : ((c :: r).take (numLen (c :: r))).length = min (numLen (c :: r)) (c :: r).length := List.length_take
      have hc : 1 ≤ (c :: r).length := by rw [List.length_cons]; omega
      show TA (match parN _ with | some x => _ | none => _) _ _ _
      split
      · exact ta_ok (by omega) (by omega) (by show 1 ≤ ((c :: r).take (numLen (c :: r))).length; rw [hl]; omega) (by show ((c :: r).take (numLen (c :: r))).length ≤ _; rw [hl]; omega)
      · exact ta_bad (by decide)
    · split
      · show TA (if _ then _ else _) _ _ _
        split
        · rename_i h
          refine ta_ok (by omega) (by omega) (by show 1 ≤ _ + 2; omega) ?_
          have h1 : (r.takeWhile fun d => decide (d ≠ 34) && decide (d ≠ 10)).length < r.length := by
            apply Classical.byContradiction
            intro hn
            rw [List.drop_eq_nil_of_le (by omega)] at h
            exact absurd h.1 (by simp)
          show _ + 2 ≤ _
          rw [List.length_cons]
          omega
        · exact ta_bad (by decide)
      · have hw : ∀ w : Str, w = (match r with | d :: _ => if twoC c d = true then [c, d] else [c] | [] => [c]) → 1 ≤ w.length ∧ w.length ≤ (c :: r).length := fun w e => by
          cases r with
          | nil => subst e; exact ⟨Nat.le_refl _, Nat.le_refl _⟩
          | cons d q =>
            subst e
            simp only
            split
            · exact ⟨by show 1 ≤ 2; omega, by simp⟩
            · exact ⟨Nat.le_refl _, by simp⟩
        have hq := hw _ rfl
        show TA (match posS _ sgL with | some i => _ | none => _) _ _ _
        split
        · rename_i i hi
          have := posS_lt hi
          have h23 : sgL.length = 23 := rfl
          exact ta_ok (by omega) (by omega) hq.1 hq.2
        · exact ta_bad (by decide)
theorem TkL.weak {hi lo lo' : Nat} {l : List Tok} (h : lo ≤ lo') (k : TkL hi lo' l) : TkL hi lo l := by
  cases l with
  | nil => exact k
  | cons t r => exact ⟨Nat.le_trans h k.1, k.2⟩
theorem toksF_l {hi : Nat} : ∀ (n : Nat) (s : Str) (p : Nat), s.length < n → p + s.length ≤ hi → TkL hi p (toksF n s p)
  | 0, s, p, h, _ => by omega
  | n + 1, s, p, h, hh => by
    have hs := skip_pl false s p
    unfold toksF
    generalize skipL false s p = z at hs ⊢
    rcases z with ⟨_ | ⟨c, r⟩, q⟩
    · have h1 : p ≤ q := hs.1
      have h2 : q + 0 = p + s.length := hs.2
      exact ⟨h1, by show q ≤ hi; omega, ⟨fun q => absurd rfl q, fun q => by cases q⟩, by show 0 ≤ 46; omega, by rw [if_pos rfl]; exact .inl rfl⟩
    · simp only at hs ⊢
      obtain ⟨h1, h2, h3, h4, h5⟩ := tokAt_at c r q
      have hl := hs.2
      rw [List.length_cons] at hl
      split
      · rename_i hk
        exact ⟨by rw [h1]; exact hs.1, by rw [h1]; omega, h2, h3, by rw [if_pos rfl]; exact .inr hk⟩
      · rename_i hk
        obtain ⟨g1, g2⟩ := h5 hk
        rw [List.length_cons] at g2
        have ih := toksF_l (hi := hi) n ((c :: r).drop (tokAt c r q).2) (q + (tokAt c r q).2) (by rw [List.length_drop, List.length_cons]; omega) (by rw [List.length_drop, List.length_cons]; omega)
        have hne : toksF n ((c :: r).drop (tokAt c r q).2) (q + (tokAt c r q).2) ≠ [] := fun e => by rw [e] at ih; exact ih
        refine ⟨by rw [h1]; exact hs.1, by rw [h1]; omega, h2, h3, ?_⟩
        rw [if_neg hne, h1]
        refine ⟨by omega, ?_⟩
        exact TkL.weak (by omega) ih
theorem toks_l {s : Str} (h : s.length ≤ 2048) : TkL 2048 0 (toks s) := toksF_l _ s 0 (Nat.lt_succ_self _) (by omega)

/-! The nodes' links. -/
def Lk (b e : Nat) (l : List Nd) : Prop := ∀ (i : Nat) (x : Nd), l[i]? = some x → (x.A < b + i ∧ x.B < b + i ∧ x.C < b + i) ∧ (x.Nx = 0 ∨ (b + i < x.Nx ∧ x.Nx < e))
theorem Lk.nil {b e : Nat} : Lk b e [] := fun i x h => by cases h
theorem Lk.app {b e : Nat} {l m : List Nd} (h : Lk b e l) (k : Lk (b + l.length) e m) : Lk b e (l ++ m) := fun i x hi => by
  by_cases q : i < l.length
  · rw [List.getElem?_append_left q] at hi; exact h i x hi
  · rw [List.getElem?_append_right (by omega)] at hi
    have := k _ x hi
    rw [show b + l.length + (i - l.length) = b + i by omega] at this
    exact this
theorem Lk.one {b e : Nat} {x : Nd} (h : x.A < b ∧ x.B < b ∧ x.C < b) (k : x.Nx = 0 ∨ (b < x.Nx ∧ x.Nx < e)) : Lk b e [x] := fun i y hi => by
  cases i with
  | zero => injection hi with q; subst q; exact ⟨h, k⟩
  | succ i => cases hi
theorem Lk.snoc {b e : Nat} {l : List Nd} {x : Nd} (h : Lk b e l) (k : x.A < b + l.length ∧ x.B < b + l.length ∧ x.C < b + l.length) (hx : x.Nx = 0) : Lk b e (l ++ [x]) := h.app (.one k (.inl hx))
theorem Lk.nx {b e n : Nat} {l : List Nd} (h : Lk b e l) (hn : n = 0 ∨ (b + l.length ≤ n ∧ n < e)) : Lk b e (nxL l n) := fun i y hi => by
  unfold nxL at hi
  rw [List.getElem?_modify] at hi
  rcases hq : l[i]? with _ | z
  · rw [hq] at hi; simp at hi
  · rw [hq] at hi
    have hz := h i z hq
    have hl := (List.getElem?_eq_some_iff.1 hq).1
    simp at hi
    subst hi
    split
    · refine ⟨hz.1, ?_⟩
      show n = 0 ∨ (_ < n ∧ n < e)
      omega
    · exact hz
structure PEk (t : Tr) : Prop where
  len : ∀ b, (lay t b).length = ndT t
  pos : 1 ≤ ndT t
  rr : ∀ b, rt t b = b + ndT t - 1
  ok : ∀ b e, 1 ≤ b → b + ndT t ≤ e → Lk b e (lay t b)
structure PLk (t : Tr) : Prop where
  len : ∀ b, (lay t b).length = ndT t
  rr : ∀ b, 1 ≤ b → rt t b = 0 ∨ (b ≤ rt t b ∧ rt t b < b + ndT t)
  ok : ∀ b e, 1 ≤ b → b + ndT t ≤ e → Lk b e (lay t b)
theorem PEk.l {t : Tr} (h : PEk t) : PLk t := ⟨h.len, fun b hb => by have := h.pos; rw [h.rr]; omega, h.ok⟩
theorem PLk.lt {t : Tr} (h : PLk t) {b : Nat} (hb : 1 ≤ b) : rt t b < b + ndT t := by rcases h.rr b hb with q | q <;> omega
theorem layN_lk : ∀ {ps : List Str} {b e : Nat}, 1 ≤ b → b + ps.length ≤ e → Lk b e (layN ps b)
  | [], b, e, hb, h => .nil
  | p :: l, b, e, hb, h => by
    rw [List.length_cons] at h
    have ih := layN_lk (ps := l) (b := b + 1) (e := e) (by omega) (by omega)
    refine Lk.app (l := [_]) (.one ⟨hb, hb, hb⟩ ?_) ih
    show (if l = [] then 0 else b + 1) = 0 ∨ (b < (if l = [] then 0 else b + 1) ∧ (if l = [] then 0 else b + 1) < e)
    split
    · exact .inl rfl
    · rename_i hl
      have := List.length_pos_iff.2 hl
      right; omega
theorem layF_lk {k : Nat} {ps : List Str} {x : Tr} {b e : Nat} (hx : PLk x) (hb : 1 ≤ b) (h : b + ps.length + ndT x + 1 ≤ e) : Lk b e (layF k ps x (fun b => lay x b) b) ∧ (layF k ps x (fun b => lay x b) b).length = ps.length + ndT x + 1 := by
  have h1 := hx.lt (b := b + ps.length) (by omega)
  have e1 : (layN ps b ++ lay x (b + ps.length)).length = ps.length + ndT x := by rw [List.length_append, layN_len, hx.len]
  refine ⟨((layN_lk hb (by omega)).app (by rw [layN_len]; exact hx.ok _ _ (by omega) (by omega))).snoc ?_ rfl, ?_⟩
  · rw [e1]
    refine ⟨?_, by show rt x (b + ps.length) < _; omega, by show 0 < _; omega⟩
    show (if ps = [] then 0 else b) < b + (ps.length + ndT x)
    split
    · omega
    · rename_i hp
      have := List.length_pos_iff.2 hp
      omega
  · show (layN ps b ++ lay x (b + ps.length) ++ [_]).length = _
    rw [List.length_append, e1]; rfl
section
variable {t x y z w : Tr}
theorem pk0 {u : Nd} (h1 : ndT t = 1) (h2 : ∀ b, rt t b = b + ndT t - 1) (h3 : ∀ b, lay t b = [u]) (h4 : u.A = 0 ∧ u.B = 0 ∧ u.C = 0) (h5 : u.Nx = 0) : PEk t :=
  ⟨fun b => by rw [h3, h1]; rfl, by omega, h2, fun b e hb he => by rw [h3]; exact .one ⟨by omega, by omega, by omega⟩ (.inl h5)⟩
theorem pk1 {f : Nat → Nd} (hx : PLk x) (h1 : ndT t = 1 + ndT x) (h2 : ∀ b, rt t b = b + ndT t - 1) (h3 : ∀ b, lay t b = lay x b ++ [f (rt x b)]) (h4 : ∀ a, (f a).A = a ∧ (f a).B = 0 ∧ (f a).C = 0) (h5 : ∀ a, (f a).Nx = 0) : PEk t :=
  ⟨fun b => by rw [h3, h1, List.length_append, hx.len]; show ndT x + 1 = _; omega, by omega, h2, fun b e hb he => by
    have := hx.lt hb
    rw [h3]
    refine (hx.ok b e hb (by omega)).snoc ?_ (h5 _)
    rw [hx.len, (h4 _).1, (h4 _).2.1, (h4 _).2.2]; omega⟩
theorem two_lk {f : Nat → Nat → Nd} {b e : Nat} (hx : PLk x) (hy : PLk y) (hb : 1 ≤ b) (he : b + ndT x + ndT y + 1 ≤ e) (h4 : ∀ a d, a < b + ndT x + ndT y → d < b + ndT x + ndT y → (f a d).A < b + ndT x + ndT y ∧ (f a d).B < b + ndT x + ndT y ∧ (f a d).C < b + ndT x + ndT y) (h5 : ∀ a d, (f a d).Nx = 0) :
    Lk b e (lay x b ++ lay y (b + ndT x) ++ [f (rt x b) (rt y (b + ndT x))]) ∧ (lay x b ++ lay y (b + ndT x) ++ [f (rt x b) (rt y (b + ndT x))]).length = ndT x + ndT y + 1 := by
  have l1 := hx.lt hb
  have l2 := hy.lt (b := b + ndT x) (by omega)
  have e1 : (lay x b ++ lay y (b + ndT x)).length = ndT x + ndT y := by rw [List.length_append, hx.len, hy.len]
  refine ⟨((hx.ok b e hb (by omega)).app (by rw [hx.len]; exact hy.ok _ e (by omega) (by omega))).snoc ?_ (h5 _ _), by rw [List.length_append, e1]; rfl⟩
  rw [e1, ← Nat.add_assoc]
  exact h4 _ _ (by omega) (by omega)
theorem pk2 {f : Nat → Nat → Nd} (hx : PLk x) (hy : PLk y) (h1 : ndT t = 1 + ndT x + ndT y) (h2 : ∀ b, rt t b = b + ndT t - 1) (h3 : ∀ b, lay t b = lay x b ++ lay y (b + ndT x) ++ [f (rt x b) (rt y (b + ndT x))]) (h4 : ∀ a d, (f a d).A = a ∧ (f a d).B = d ∧ (f a d).C = 0) (h5 : ∀ a d, (f a d).Nx = 0) : PEk t :=
  ⟨fun b => by rw [h3, h1, List.length_append, List.length_append, hx.len, hy.len]; show ndT x + ndT y + 1 = _; omega, by omega, h2, fun b e hb he => by
    rw [h3]
    exact (two_lk hx hy hb (by omega) (fun a d q1 q2 => by rw [(h4 a d).1, (h4 a d).2.1, (h4 a d).2.2]; omega) h5).1⟩
theorem pk_cons (hx : PEk x) (hy : PLk y) (h1 : ndT t = 0 + ndT x + ndT y) (h2 : ∀ b, rt t b = b + ndT x - 1) (h3 : ∀ b, lay t b = nxL (lay x b) (rt y (b + ndT x)) ++ lay y (b + ndT x)) : PLk t :=
  ⟨fun b => by rw [h3, h1, List.length_append, nxL_len, hx.len, hy.len]; omega, fun b hb => by have := hx.pos; rw [h2]; omega, fun b e hb he => by
    rw [h3]
    have l2 := hy.rr (b + ndT x) (by omega)
    refine ((hx.ok b e hb (by omega)).nx ?_).app (by rw [nxL_len, hx.len]; exact hy.ok _ e (by omega) (by omega))
    rw [hx.len]; omega⟩
theorem nm2_lk {s t : Str} {b e : Nat} (hb : 1 ≤ b) (he : b + 2 ≤ e) : Lk b e [⟨17, 0, 0, 0, b + 1, 0, s⟩, ⟨17, 0, 0, 0, 0, 0, t⟩] :=
  Lk.app (l := [_]) (.one ⟨hb, hb, hb⟩ (.inr ⟨Nat.lt_succ_self _, by show b + 1 < e; omega⟩)) (.one ⟨Nat.succ_pos _, Nat.succ_pos _, Nat.succ_pos _⟩ (.inl rfl))
theorem pk_tri : TrI PEk PLk PEk PLk where
  lit := fun k hk => pk0 rfl (fun b => rfl) (fun b => rfl) ⟨rfl, rfl, rfl⟩ rfl
  num := fun k => pk0 rfl (fun b => rfl) (fun b => rfl) ⟨rfl, rfl, rfl⟩ rfl
  str := fun k => pk0 rfl (fun b => rfl) (fun b => rfl) ⟨rfl, rfl, rfl⟩ rfl
  name := fun k => pk0 rfl (fun b => rfl) (fun b => rfl) ⟨rfl, rfl, rfl⟩ rfl
  index := fun x y hx hy => pk2 (f := fun a d => ⟨18, a, d, 0, 0, 0, []⟩) hx.l hy.l rfl (fun b => rfl) (fun b => rfl) (fun a d => ⟨rfl, rfl, rfl⟩) (fun a d => rfl)
  call := fun x y hx hy => pk2 (f := fun a d => ⟨19, a, d, 0, 0, 0, []⟩) hx.l hy rfl (fun b => rfl) (fun b => rfl) (fun a d => ⟨rfl, rfl, rfl⟩) (fun a d => rfl)
  func := fun n ps x hx => ⟨fun b => by
      show (layF n ps x (fun b => lay x b) b).length = 1 + ps.length + ndT x
      show (layN ps b ++ lay x (b + ps.length) ++ [_]).length = _
      rw [List.length_append, List.length_append, layN_len, hx.len]; show ps.length + ndT x + 1 = _; omega, by show 1 ≤ 1 + ps.length + ndT x; omega, fun b => rfl, fun b e hb he => by
      have he : b + (1 + ps.length + ndT x) ≤ e := he
      exact (layF_lk hx hb (by omega)).1⟩
  table := fun x hx => pk1 (f := fun a => ⟨21, a, 0, 0, 0, 0, []⟩) hx rfl (fun b => rfl) (fun b => rfl) (fun a => ⟨rfl, rfl, rfl⟩) (fun a => rfl)
  bin := fun k x y hx hy => pk2 (f := fun a d => ⟨22, a, d, 0, 0, k, []⟩) hx.l hy.l rfl (fun b => rfl) (fun b => rfl) (fun a d => ⟨rfl, rfl, rfl⟩) (fun a d => rfl)
  un := fun k x hx => pk1 (f := fun a => ⟨23, a, 0, 0, 0, k, []⟩) hx.l rfl (fun b => rfl) (fun b => rfl) (fun a => ⟨rfl, rfl, rfl⟩) (fun a => rfl)
  land := fun x y hx hy => pk2 (f := fun a d => ⟨24, a, d, 0, 0, 0, []⟩) hx.l hy.l rfl (fun b => rfl) (fun b => rfl) (fun a d => ⟨rfl, rfl, rfl⟩) (fun a d => rfl)
  lor := fun x y hx hy => pk2 (f := fun a d => ⟨25, a, d, 0, 0, 0, []⟩) hx.l hy.l rfl (fun b => rfl) (fun b => rfl) (fun a d => ⟨rfl, rfl, rfl⟩) (fun a d => rfl)
  enil := ⟨fun b => rfl, fun b hb => .inl rfl, fun b e hb he => .nil⟩
  econs := fun x y hx hy => pk_cons hx hy rfl (fun b => rfl) (fun b => rfl)
  loc := fun s => pk0 rfl (fun b => rfl) (fun b => rfl) ⟨rfl, rfl, rfl⟩ rfl
  locV := fun s x hx => pk1 (f := fun a => ⟨1, a, 0, 0, 0, 0, s⟩) hx.l rfl (fun b => rfl) (fun b => rfl) (fun a => ⟨rfl, rfl, rfl⟩) (fun a => rfl)
  loc2 := fun s t x y hx hy => by
    have h3 : ∀ b, lay (St.loc2 s t x y) b = [⟨17, 0, 0, 0, b + 1, 0, s⟩, ⟨17, 0, 0, 0, 0, 0, t⟩] ++ (lay x (b + 2) ++ lay y (b + 2 + ndT x) ++ [⟨19, rt x (b + 2), rt y (b + 2 + ndT x), 0, 0, 0, []⟩]) ++ [⟨2, b, b + 2 + ndT x + ndT y, 0, 0, 0, []⟩] := fun b => rfl
    have hn : ndT (St.loc2 s t x y) = 4 + ndT x + ndT y := rfl
    refine ⟨fun b => ?_, by rw [hn]; omega, fun b => rfl, fun b e hb he => ?_⟩
    · rw [h3, hn]
      simp only [List.length_append, hx.len, hy.len, List.length_cons, List.length_nil]; omega
    · rw [hn] at he
      obtain ⟨k1, k2⟩ := two_lk (f := fun a d => ⟨19, a, d, 0, 0, 0, []⟩) (b := b + 2) (e := e) hx.l hy (by omega) (by omega) (fun a d q1 q2 => ⟨q1, q2, by show 0 < _; omega⟩) (fun a d => rfl)
      rw [h3]
      refine ((nm2_lk hb (by omega)).app k1).snoc ?_ rfl
      rw [List.length_append, k2]
      refine ⟨?_, ?_, ?_⟩
      · show b < b + (2 + _); omega
      · show b + 2 + ndT x + ndT y < b + (2 + _); omega
      · show 0 < b + (2 + _); omega
  locFn := fun s n ps x hx => by
    have h3 : ∀ b, lay (St.locFn s n ps x) b = layF n ps x (fun b => lay x b) b ++ [⟨3, b + ps.length + ndT x, 0, 0, 0, 0, s⟩] := fun b => rfl
    have hn : ndT (St.locFn s n ps x) = 2 + ps.length + ndT x := rfl
    refine ⟨fun b => ?_, by rw [hn]; omega, fun b => rfl, fun b e hb he => ?_⟩
    · rw [h3, hn, List.length_append]
      show (layN ps b ++ lay x (b + ps.length) ++ [_]).length + 1 = _
      rw [List.length_append, List.length_append, layN_len, hx.len]; show ps.length + ndT x + 1 + 1 = _; omega
    · rw [hn] at he
      obtain ⟨k1, k2⟩ := layF_lk (k := n) (ps := ps) (e := e) hx hb (by omega)
      rw [h3]
      refine k1.snoc ?_ rfl
      rw [k2]
      refine ⟨?_, ?_, ?_⟩
      · show b + ps.length + ndT x < _; omega
      · show 0 < _; omega
      · show 0 < _; omega
  setN := fun s x hx => by
    have h3 : ∀ b, lay (St.setN s x) b = [⟨17, 0, 0, 0, 0, 0, s⟩] ++ lay x (b + 1) ++ [⟨4, b, rt x (b + 1), 0, 0, 0, []⟩] := fun b => rfl
    have hn : ndT (St.setN s x) = 2 + ndT x := rfl
    refine ⟨fun b => ?_, by rw [hn]; omega, fun b => rfl, fun b e hb he => ?_⟩
    · rw [h3, hn]
      simp only [List.length_append, hx.len, List.length_cons, List.length_nil]; omega
    · rw [hn] at he
      have l1 := hx.l.lt (b := b + 1) (by omega)
      rw [h3]
      refine ((Lk.one ⟨hb, hb, hb⟩ (.inl rfl)).app (hx.ok (b + 1) e (by omega) (by omega))).snoc ?_ rfl
      rw [List.length_append, hx.len]
      refine ⟨?_, ?_, ?_⟩
      · show b < b + (1 + _); have := hx.pos; omega
      · show rt x (b + 1) < b + (1 + _); omega
      · show 0 < b + (1 + _); omega
  setI := fun x y z hx hy hz => by
    have h3 : ∀ b, lay (St.setI x y z) b = (lay x b ++ lay y (b + ndT x) ++ [⟨18, rt x b, rt y (b + ndT x), 0, 0, 0, []⟩]) ++ lay z (b + ndT x + ndT y + 1) ++ [⟨4, b + ndT x + ndT y, rt z (b + ndT x + ndT y + 1), 0, 0, 0, []⟩] := fun b => rfl
    have hn : ndT (St.setI x y z) = 2 + ndT x + ndT y + ndT z := rfl
    refine ⟨fun b => ?_, by rw [hn]; omega, fun b => rfl, fun b e hb he => ?_⟩
    · rw [h3, hn]
      simp only [List.length_append, hx.len, hy.len, hz.len, List.length_cons, List.length_nil]; omega
    · rw [hn] at he
      obtain ⟨k1, k2⟩ := two_lk (f := fun a d => ⟨18, a, d, 0, 0, 0, []⟩) (e := e) hx.l hy.l hb (by omega) (fun a d q1 q2 => ⟨q1, q2, by show 0 < _; omega⟩) (fun a d => rfl)
      have l1 := hz.l.lt (b := b + ndT x + ndT y + 1) (by omega)
      rw [h3]
      refine (k1.app (by rw [k2, show b + (ndT x + ndT y + 1) = b + ndT x + ndT y + 1 by omega]; exact hz.ok _ e (by omega) (by omega))).snoc ?_ rfl
      rw [List.length_append, k2, hz.len]
      refine ⟨?_, ?_, ?_⟩
      · show b + ndT x + ndT y < _; omega
      · show rt z (b + ndT x + ndT y + 1) < _; omega
      · show 0 < _; omega
  scall := fun x y hx hy => by
    have h3 : ∀ b, lay (St.call x y) b = (lay x b ++ lay y (b + ndT x) ++ [⟨19, rt x b, rt y (b + ndT x), 0, 0, 0, []⟩]) ++ [⟨5, b + ndT x + ndT y, 0, 0, 0, 0, []⟩] := fun b => rfl
    have hn : ndT (St.call x y) = 2 + ndT x + ndT y := rfl
    refine ⟨fun b => ?_, by rw [hn]; omega, fun b => rfl, fun b e hb he => ?_⟩
    · rw [h3, hn]
      simp only [List.length_append, hx.len, hy.len, List.length_cons, List.length_nil]; omega
    · rw [hn] at he
      obtain ⟨k1, k2⟩ := two_lk (f := fun a d => ⟨19, a, d, 0, 0, 0, []⟩) (e := e) hx.l hy hb (by omega) (fun a d q1 q2 => ⟨q1, q2, by show 0 < _; omega⟩) (fun a d => rfl)
      rw [h3]
      refine k1.snoc ?_ rfl
      rw [k2]
      refine ⟨?_, ?_, ?_⟩
      · show b + ndT x + ndT y < _; omega
      · show 0 < _; omega
      · show 0 < _; omega
  iff := fun x y z hx hy hz => by
    have h3 : ∀ b, lay (St.iff x y z) b = lay x b ++ lay y (b + ndT x) ++ lay z (b + ndT x + ndT y) ++ [⟨6, rt x b, rt y (b + ndT x), rt z (b + ndT x + ndT y), 0, 0, []⟩] := fun b => rfl
    have hn : ndT (St.iff x y z) = 1 + ndT x + ndT y + ndT z := rfl
    refine ⟨fun b => ?_, by rw [hn]; omega, fun b => rfl, fun b e hb he => ?_⟩
    · rw [h3, hn]
      simp only [List.length_append, hx.len, hy.len, hz.len, List.length_cons, List.length_nil]; omega
    · rw [hn] at he
      have l1 := hx.l.lt hb
      have l2 := hy.lt (b := b + ndT x) (by omega)
      have l3 := hz.lt (b := b + ndT x + ndT y) (by omega)
      have e1 : (lay x b ++ lay y (b + ndT x)).length = ndT x + ndT y := by rw [List.length_append, hx.len, hy.len]
      rw [h3]
      refine (((hx.ok b e hb (by omega)).app (by rw [hx.len]; exact hy.ok _ e (by omega) (by omega))).app (by rw [e1, ← Nat.add_assoc]; exact hz.ok _ e (by omega) (by omega))).snoc ?_ rfl
      rw [List.length_append, e1, hz.len]
      refine ⟨?_, ?_, ?_⟩
      · show rt x b < _; omega
      · show rt y (b + ndT x) < _; omega
      · show rt z (b + ndT x + ndT y) < _; omega
  whl := fun x y hx hy => pk2 (f := fun a d => ⟨7, a, d, 0, 0, 0, []⟩) hx.l hy rfl (fun b => rfl) (fun b => rfl) (fun a d => ⟨rfl, rfl, rfl⟩) (fun a d => rfl)
  for2 := fun s x y z hx hy hz => by
    have h3 : ∀ b, lay (St.for2 s x y z) b = nxL (lay x b) (rt y (b + ndT x)) ++ lay y (b + ndT x) ++ lay z (b + ndT x + ndT y) ++ [⟨8, rt x b, rt z (b + ndT x + ndT y), 0, 0, 0, s⟩] := fun b => rfl
    have hn : ndT (St.for2 s x y z) = 1 + ndT x + ndT y + ndT z := rfl
    refine ⟨fun b => ?_, by rw [hn]; omega, fun b => rfl, fun b e hb he => ?_⟩
    · rw [h3, hn]
      simp only [List.length_append, nxL_len, hx.len, hy.len, hz.len, List.length_cons, List.length_nil]; omega
    · rw [hn] at he
      have l1 := hx.l.lt hb
      have p2 := hy.pos
      have r2 := hy.rr (b + ndT x)
      have l3 := hz.lt (b := b + ndT x + ndT y) (by omega)
      have e1 : (nxL (lay x b) (rt y (b + ndT x)) ++ lay y (b + ndT x)).length = ndT x + ndT y := by rw [List.length_append, nxL_len, hx.len, hy.len]
      rw [h3]
      refine ((((hx.ok b e hb (by omega)).nx (by rw [hx.len]; omega)).app (by rw [nxL_len, hx.len]; exact hy.ok _ e (by omega) (by omega))).app (by rw [e1, ← Nat.add_assoc]; exact hz.ok _ e (by omega) (by omega))).snoc ?_ rfl
      rw [List.length_append, e1, hz.len]
      refine ⟨?_, ?_, ?_⟩
      · show rt x b < _; omega
      · show rt z (b + ndT x + ndT y) < _; omega
      · show 0 < _; omega
  for3 := fun s x y w z hx hy hw hz => by
    have h3 : ∀ b, lay (St.for3 s x y w z) b = nxL (lay x b) (rt y (b + ndT x)) ++ nxL (lay y (b + ndT x)) (rt w (b + ndT x + ndT y)) ++ lay w (b + ndT x + ndT y) ++ lay z (b + ndT x + ndT y + ndT w) ++ [⟨8, rt x b, rt z (b + ndT x + ndT y + ndT w), 0, 0, 0, s⟩] := fun b => rfl
    have hn : ndT (St.for3 s x y w z) = 1 + ndT x + ndT y + ndT w + ndT z := rfl
    refine ⟨fun b => ?_, by rw [hn]; omega, fun b => rfl, fun b e hb he => ?_⟩
    · rw [h3, hn]
      simp only [List.length_append, nxL_len, hx.len, hy.len, hw.len, hz.len, List.length_cons, List.length_nil]; omega
    · rw [hn] at he
      have l1 := hx.l.lt hb
      have p2 := hy.pos
      have r2 := hy.rr (b + ndT x)
      have p3 := hw.pos
      have r3 := hw.rr (b + ndT x + ndT y)
      have l3 := hz.lt (b := b + ndT x + ndT y + ndT w) (by omega)
      have e1 : (nxL (lay x b) (rt y (b + ndT x)) ++ nxL (lay y (b + ndT x)) (rt w (b + ndT x + ndT y))).length = ndT x + ndT y := by rw [List.length_append, nxL_len, nxL_len, hx.len, hy.len]
      have e2 : (nxL (lay x b) (rt y (b + ndT x)) ++ nxL (lay y (b + ndT x)) (rt w (b + ndT x + ndT y)) ++ lay w (b + ndT x + ndT y)).length = ndT x + ndT y + ndT w := by rw [List.length_append, e1, hw.len]
      rw [h3]
      refine (((((hx.ok b e hb (by omega)).nx (by rw [hx.len]; omega)).app (by rw [nxL_len, hx.len]; exact (hy.ok _ e (by omega) (by omega)).nx (by rw [hy.len]; omega))).app (by rw [e1, ← Nat.add_assoc]; exact hw.ok _ e (by omega) (by omega))).app (by rw [e2, ← Nat.add_assoc, ← Nat.add_assoc]; exact hz.ok _ e (by omega) (by omega))).snoc ?_ rfl
      rw [List.length_append, e2, hz.len]
      refine ⟨?_, ?_, ?_⟩
      · show rt x b < _; omega
      · show rt z (b + ndT x + ndT y + ndT w) < _; omega
      · show 0 < _; omega
  forIn := fun s t x y hx hy => by
    have h3 : ∀ b, lay (St.forIn s t x y) b = [⟨17, 0, 0, 0, b + 1, 0, s⟩, ⟨17, 0, 0, 0, 0, 0, t⟩] ++ (lay x (b + 2) ++ lay y (b + 2 + ndT x) ++ [⟨9, b, rt x (b + 2), rt y (b + 2 + ndT x), 0, 0, []⟩]) := fun b => rfl
    have hn : ndT (St.forIn s t x y) = 3 + ndT x + ndT y := rfl
    refine ⟨fun b => ?_, by rw [hn]; omega, fun b => rfl, fun b e hb he => ?_⟩
    · rw [h3, hn]
      simp only [List.length_append, hx.len, hy.len, List.length_cons, List.length_nil]; omega
    · rw [hn] at he
      obtain ⟨k1, k2⟩ := two_lk (f := fun a d => ⟨9, b, a, d, 0, 0, []⟩) (b := b + 2) (e := e) hx.l hy (by omega) (by omega) (fun a d q1 q2 => ⟨by show b < _; omega, q1, q2⟩) (fun a d => rfl)
      rw [h3]
      exact (nm2_lk hb (by omega)).app k1
  ret0 := pk0 rfl (fun b => rfl) (fun b => rfl) ⟨rfl, rfl, rfl⟩ rfl
  ret1 := fun x hx => pk1 (f := fun a => ⟨10, a, 0, 0, 0, 0, []⟩) hx.l rfl (fun b => rfl) (fun b => rfl) (fun a => ⟨rfl, rfl, rfl⟩) (fun a => rfl)
  ret2 := fun x y hx hy => pk2 (f := fun a d => ⟨10, a, d, 0, 0, 0, []⟩) hx.l hy.l rfl (fun b => rfl) (fun b => rfl) (fun a d => ⟨rfl, rfl, rfl⟩) (fun a d => rfl)
  brk := pk0 rfl (fun b => rfl) (fun b => rfl) ⟨rfl, rfl, rfl⟩ rfl
  snil := ⟨fun b => rfl, fun b hb => .inl rfl, fun b e hb he => .nil⟩
  scons := fun x y hx hy => pk_cons hx hy rfl (fun b => rfl) (fun b => rfl)
end
/-- the arena's links. -/
theorem arena_lk {t : Tr} {k i : Nat} {x : Nd} (hT : TrOK t k) (hi : (arena t)[i]? = some x) : (i = 0 ∧ x = Nd.zero) ∨ (1 ≤ i ∧ (x.A < i ∧ x.B < i ∧ x.C < i) ∧ (x.Nx = 0 ∨ (i < x.Nx ∧ x.Nx < ndT t + 1))) := by
  have h := (pk_tri.sl (arena_is hT)).ok 1 (1 + ndT t) (Nat.le_refl _) (Nat.le_refl _)
  cases i with
  | zero =>
    left
    injection hi with e
    exact ⟨rfl, e.symm⟩
  | succ i =>
    right
    have := h i x hi
    rw [show 1 + i = i + 1 by omega, show 1 + ndT t = ndT t + 1 by omega] at this
    exact ⟨by omega, this⟩
end Go.Proofs.Qxb6500568aGreatDoor
