import Derived.Test.Qxb6500570aGreatPe
/- Plain: every node that the parser lays holds just what its kind names; references within their bounds. -/
namespace Go.Proofs.Qxb6500570aGreat
set_option linter.unusedVariables false
set_option linter.unusedSimpArgs false

def RfOK (r : Rf) : Prop := 0 ≤ r.c ∧ r.c ≤ 25 ∧ 0 ≤ r.r ∧ r.r ≤ 98
theorem RfOK.z : RfOK zR := ⟨by decide, by decide, by decide, by decide⟩
/-- A node with all that its kind does not name put to naught. -/
def nmF (x : Nd) : Nd :=
  if x.k = 1 ∨ x.k = 2 then ⟨x.k, 0, -1, -1, x.n, zR, zR⟩
  else if x.k = 3 then ⟨x.k, 0, -1, -1, 0, x.p, zR⟩
  else if x.k = 4 then ⟨x.k, 0, -1, -1, 0, x.p, x.q⟩
  else if x.k = 6 then ⟨x.k, 0, x.a, -1, 0, zR, zR⟩
  else if x.k = 7 then ⟨x.k, x.o, x.a, x.b, 0, zR, zR⟩
  else if x.k = 8 then ⟨x.k, x.o, x.a, -1, x.n, zR, zR⟩
  else if x.k = 9 then ⟨x.k, 0, x.a, x.b, 0, zR, zR⟩
  else ⟨x.k, 0, -1, -1, 0, zR, zR⟩
def NmOK (x : Nd) : Prop := RfOK x.p ∧ RfOK x.q ∧ nmF x = x
def AOK (ar : List Nd) : Prop := ∀ x ∈ ar, NmOK x
def TkR (t : Tk) : Prop := RfOK t.r ∧ (t.k = 2 → t.o = 1 ∨ t.o = 2 ∨ (t.o = 5 ∧ t.n = 0))

theorem refB_ok {ac : Bool} {w : List UInt8} {r : Rf} (h : refB ac w = some r) : RfOK r := by
  unfold refB at h
  split at h
  · cases h
  · split at h
    · rename_i hl
      have hcp : 65 ≤ (‹UInt8› : UInt8).toNat ∧ (‹UInt8› : UInt8).toNat ≤ 90 := by
        unfold cp at hl; simpa using hl
      split at h
      · split at h
        · rename_i hd
          cases h
          unfold d1 at hd
          simp only [Bool.and_eq_true, decide_eq_true_eq] at hd
          refine ⟨?_, ?_, ?_, ?_⟩ <;> simp only [dv] <;> omega
        · cases h
      · split at h
        · split at h
          · rename_i hd
            cases h
            unfold d1 at hd
            simp only [Bool.and_eq_true, decide_eq_true_eq] at hd
            refine ⟨?_, ?_, ?_, ?_⟩ <;> simp only [dv] <;> omega
          · cases h
        · split at h
          · rename_i hd
            cases h
            unfold d1 dg at hd
            simp only [Bool.and_eq_true, decide_eq_true_eq] at hd
            refine ⟨?_, ?_, ?_, ?_⟩ <;> simp only [dv] <;> omega
          · cases h
      · split at h
        · rename_i hd
          cases h
          unfold d1 dg at hd
          simp only [Bool.and_eq_true, decide_eq_true_eq] at hd
          refine ⟨?_, ?_, ?_, ?_⟩ <;> simp only [dv] <;> omega
        · cases h
      · cases h
    · cases h
theorem refOf_ok {w : List UInt8} {r : Rf} (h : refOf w = some r) : RfOK r := by
  unfold refOf at h
  split at h
  · cases h
  · split at h <;> exact refB_ok h
theorem wordT_r (w : List UInt8) : TkR (wordT w) := by
  unfold wordT
  split
  · rename_i r h
    exact ⟨refOf_ok h, fun h => (by cases h)⟩
  · split
    · exact ⟨RfOK.z, fun _ => .inr (.inl rfl)⟩
    · split
      · exact ⟨RfOK.z, fun _ => .inr (.inl rfl)⟩
      · split
        · exact ⟨RfOK.z, fun h => (by cases h)⟩
        · exact ⟨RfOK.z, fun h => (by cases h)⟩
theorem numT_r (d : List UInt8) : TkR (numT d) := by
  unfold numT
  split
  · exact ⟨RfOK.z, fun h => (by cases h)⟩
  · exact ⟨RfOK.z, fun _ => .inl rfl⟩
theorem sgnT_r (c d : UInt8) : TkR (sgnT c d).1 := by
  unfold sgnT
  split
  · rename_i h
    refine ⟨RfOK.z, fun h2 => ?_⟩
    have h2' : c.toNat = 2 := h2
    rcases h with h | h | h | h <;> (subst h; exact absurd h2' (by decide))
  · repeat' split
    all_goals first
      | exact ⟨RfOK.z, fun _ => .inr (.inr ⟨rfl, rfl⟩)⟩
      | exact ⟨RfOK.z, fun h => (by cases h)⟩
theorem tkw_r (u : List UInt8) : TkR (tkw u).1 := by
  unfold tkw
  split
  · exact ⟨RfOK.z, fun h => (by cases h)⟩
  · split
    · exact numT_r _
    · split
      · exact wordT_r _
      · exact sgnT_r _ _
theorem toksF_r : ∀ (f : Nat) (u : List UInt8), ∀ t ∈ toksF f u, TkR t
  | 0, _, t, h => by simp [toksF] at h
  | _ + 1, [], t, h => by simp [toksF] at h
  | f + 1, c :: u, t, h => by
    unfold toksF at h
    split at h
    · exact toksF_r f u t h
    · rcases List.mem_cons.1 h with h | h
      · rw [h]; exact tkw_r _
      · exact toksF_r f _ t h
theorem hdT_r {ts : List Tk} (h : ∀ t ∈ ts, TkR t) : TkR (hdT ts) := by
  cases ts with
  | nil => exact ⟨RfOK.z, fun h => (by cases h)⟩
  | cons t ts => exact h t (by simp)

theorem nm_leaf {k n : Nat} (h : k = 1 ∨ k = 2 ∨ (k = 5 ∧ n = 0)) : NmOK (nLeaf k n) := by
  refine ⟨RfOK.z, RfOK.z, ?_⟩
  rcases h with rfl | rfl | ⟨rfl, rfl⟩ <;> simp [nmF]
theorem nm_ref {r : Rf} (h : RfOK r) : NmOK (nRef r) := ⟨h, RfOK.z, rfl⟩
theorem nm_rng {r q : Rf} (h : RfOK r) (h2 : RfOK q) : NmOK (nRng r q) := ⟨h, h2, rfl⟩
theorem nm_neg (a : Nat) : NmOK (nNeg a) := ⟨RfOK.z, RfOK.z, rfl⟩
theorem nm_bin (o a b : Nat) : NmOK (nBin o a b) := ⟨RfOK.z, RfOK.z, rfl⟩
theorem nm_call (f : Nat) (a : Int) (n : Nat) : NmOK (nCall f a n) := ⟨RfOK.z, RfOK.z, rfl⟩
theorem nm_arg (a : Nat) (b : Int) : NmOK (nArg a b) := ⟨RfOK.z, RfOK.z, rfl⟩
theorem addN_a {ar ar' : List Nd} {x : Nd} (h : AOK ar) (hx : NmOK x) (e : addN ar x = some ar') : AOK ar' := by
  unfold addN at e
  split at e
  · cases e
    intro y hy
    rcases List.mem_append.1 hy with q | q
    · exact h y q
    · rw [List.mem_singleton.1 q]; exact hx
  · cases e
theorem joinP_a {m : Mk} {ar : List Nd} {ov : List Nat} {x : List Nd × List Nat} (h : AOK ar) (e : joinP m ar ov = some x) : AOK x.1 := by
  unfold joinP at e
  split at e
  · rename_i b a ov'
    cases hq : addN ar (nBin m.o a b) with
    | none => rw [hq] at e; cases e
    | some ar' => rw [hq] at e; cases e; exact addN_a h (nm_bin _ _ _) hq
  · cases e
theorem settle_a : ∀ {os : List Mk} {ar : List Nd} {ov : List Nat} {x : List Nd × List Nat × List Mk}, AOK ar → settle os ar ov = some x → AOK x.1
  | [], ar, ov, x, h, e => by cases e; exact h
  | m :: os, ar, ov, x, h, e => by
    unfold settle at e
    split at e
    · split at e
      · rename_i v ov'
        cases hq : addN ar (nNeg v) with
        | none => rw [hq] at e; cases e
        | some ar' => rw [hq] at e; exact settle_a (addN_a h (nm_neg _) hq) e
      · cases e
    · split at e
      · cases hq : joinP m ar ov with
        | none => rw [hq] at e; cases e
        | some y => rw [hq] at e; cases e; exact joinP_a h hq
      · cases e; exact h
theorem settleS_a {ts : List Tk} {ar : List Nd} {ov : List Nat} {os : List Mk} {st : PS} (h : AOK ar) (e : settleS ts ar ov os = some st) : AOK st.ar := by
  unfold settleS at e
  cases hq : settle os ar ov with
  | none => rw [hq] at e; cases e
  | some x => rw [hq] at e; cases e; exact settle_a h hq
theorem wholeP_a {x : Nd} {ts : List Tk} {ar : List Nd} {ov : List Nat} {os : List Mk} {st : PS} (h : AOK ar) (hx : NmOK x) (e : wholeP x ts ar ov os = some st) : AOK st.ar := by
  unfold wholeP at e
  split at e
  · rename_i ar' hq; exact settleS_a (addN_a h hx hq) e
  · cases e
def arO (x : PS ⊕ List Nd) : List Nd := match x with
  | .inl st => st.ar
  | .inr ar => ar
theorem shutP_a {m : Mk} {ts : List Tk} {ar : List Nd} {ov : List Nat} {os : List Mk} {x : PS ⊕ List Nd} (h : AOK ar) (e : shutP m ts ar ov os = some x) : AOK (arO x) := by
  unfold shutP at e
  split at e
  · split at e
    · cases hq : settleS ts.tail ar ov os with
      | none => rw [hq] at e; cases e
      | some st => rw [hq] at e; cases e; exact settleS_a h hq
    · split at e
      · cases hq : wholeP (nCall m.o m.l m.n) ts.tail ar ov os with
        | none => rw [hq] at e; cases e
        | some st => rw [hq] at e; cases e; exact wholeP_a h (nm_call _ _ _) hq
      · cases e
  · cases e
theorem closeP_a {ts : List Tk} {ar : List Nd} {ov : List Nat} {os : List Mk} {x : PS ⊕ List Nd} (h : AOK ar) (e : closeP ts ar ov os = some x) : AOK (arO x) := by
  unfold closeP at e
  split at e
  · split at e
    · cases e; exact h
    · cases e
  · split at e
    · split at e
      · split at e
        · rename_i ar' hq
          have h' := addN_a h (nm_arg _ _) hq
          split at e
          · cases e; exact h'
          · exact shutP_a h' e
        · cases e
      · cases e
    · exact shutP_a h e
theorem after2_a {s : Nat} {ts : List Tk} {ar : List Nd} {ov : List Nat} {os : List Mk} {x : PS ⊕ List Nd} (h : AOK ar) (e : after2 s ts ar ov os = some x) : AOK (arO x) := by
  unfold after2 at e
  split at e
  · exact closeP_a h e
  · split at e
    · split at e
      · cases e
      · cases e; exact h
    · cases e
theorem after1_a {s : Nat} {ts : List Tk} {ar : List Nd} {ov : List Nat} {os : List Mk} {x : PS ⊕ List Nd} (h : AOK ar) (e : after1 s ts ar ov os = some x) : AOK (arO x) := by
  unfold after1 at e
  split at e
  · split at e
    · split at e
      · rename_i y hq; exact after2_a (joinP_a h hq) e
      · cases e
    · exact after2_a h e
  · exact after2_a h e
theorem after0_a {s : Nat} {ts : List Tk} {ar : List Nd} {ov : List Nat} {os : List Mk} {x : PS ⊕ List Nd} (h : AOK ar) (e : after0 s ts ar ov os = some x) : AOK (arO x) := by
  unfold after0 at e
  split at e
  · split at e
    · split at e
      · rename_i y hq; exact after1_a (joinP_a h hq) e
      · cases e
    · exact after1_a h e
  · exact after1_a h e
theorem refP_a {r : Rf} {ts : List Tk} {ar : List Nd} {ov : List Nat} {os : List Mk} {st : PS} (h : AOK ar) (hr : RfOK r) (ht : ∀ t ∈ ts, TkR t) (e : refP r ts ar ov os = some st) : AOK st.ar := by
  unfold refP at e
  split at e
  · cases e
  · split at e
    · split at e
      · exact wholeP_a h (nm_rng hr (hdT_r (fun t q => ht t (List.mem_of_mem_tail q))).1) e
      · cases e
    · exact wholeP_a h (nm_ref hr) e
theorem atomP_a {ts : List Tk} {ar : List Nd} {ov : List Nat} {os : List Mk} {st : PS} (h : AOK ar) (ht : ∀ t ∈ ts, TkR t) (e : atomP ts ar ov os = some st) : AOK st.ar := by
  unfold atomP at e
  split at e
  · rename_i hk; exact wholeP_a h (nm_leaf ((hdT_r ht).2 hk)) e
  · split at e
    · exact refP_a h (hdT_r ht).1 (fun t q => ht t (List.mem_of_mem_tail q)) e
    · split at e
      · split at e
        · cases e; exact h
        · cases e
      · split at e
        · cases e; exact h
        · split at e
          · cases e; exact h
          · cases e
theorem stepM_a {st : PS} {x : PS ⊕ List Nd} (h : AOK st.ar) (ht : ∀ t ∈ st.ts, TkR t) (e : stepM st = some x) : AOK (arO x) := by
  unfold stepM at e
  split at e
  · exact after0_a h e
  · cases hq : atomP st.ts st.ar st.ov st.os with
    | none => rw [hq] at e; cases e
    | some y => rw [hq] at e; cases e; exact atomP_a h ht hq
theorem R_a : ∀ (n : Nat) (st : PS), st.ts.length ≤ n → AOK st.ar → (∀ t ∈ st.ts, TkR t) → ∀ ar, R st = some ar → AOK ar := by
  intro n
  induction n with
  | zero =>
    intro st hn hp ht ar h
    rw [R_eq] at h
    cases hs : stepM st with
    | none => simp [hs, RO'] at h
    | some x =>
      have := stepM_a hp ht hs
      cases x with
      | inl st' => have := stepM_ts hs; omega
      | inr a => simp only [hs, RO', Option.some.injEq] at h; subst h; exact this
  | succ n ih =>
    intro st hn hp ht ar h
    rw [R_eq] at h
    cases hs : stepM st with
    | none => simp [hs, RO'] at h
    | some x =>
      have hok := stepM_a hp ht hs
      cases x with
      | inl st' =>
        simp only [hs, RO'] at h
        have h1 := stepM_ts hs
        obtain ⟨k, hk⟩ := stepM_tl hs
        exact ih st' (by omega) hok (fun t h' => ht t (by rw [hk] at h'; exact List.mem_of_mem_drop h')) ar h
      | inr a => simp only [hs, RO', Option.some.injEq] at h; subst h; exact hok
theorem parse_nm {s : List UInt8} {ar : List Nd} (h : parseP s = some ar) : AOK ar :=
  R_a _ ⟨toks s, [], [], [], false⟩ (Nat.le_refl _) (fun x hx => (by cases hx)) (fun t ht => toksF_r _ _ t ht) ar h

end Go.Proofs.Qxb6500570aGreat
