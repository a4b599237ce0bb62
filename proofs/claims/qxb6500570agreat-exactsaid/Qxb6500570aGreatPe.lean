import Derived.Test.Qxb6500570aGreatPd
/- Plain: every arena that a text parses to is lawful. -/
namespace Go.Proofs.Qxb6500570aGreat
set_option linter.unusedVariables false
set_option linter.unusedSimpArgs false

theorem arity0 (f : Nat) : arity f 0 = false := by
  unfold arity
  repeat' split
  all_goals simp

theorem PT.pop3 {m : Mk} {ar : List Nd} {ov : List Nat} {os : List Mk} (hm : m.k = 3) (h : PT ar ov (m :: os)) : PT ar ov os := by
  obtain ⟨h24, v, ov', lo, rfl, hv, hs, hk⟩ := h
  rw [rg_bin (by omega)] at hs
  rcases hk with ⟨h1, -⟩ | ⟨h1, _, h3⟩ | ⟨h1, -⟩ | ⟨h1, -⟩
  · omega
  · exact ⟨h24, v, ov', lo, rfl, hv, hs.arg, h3⟩
  · omega
  · omega

/-- A done result. -/
def DoneOK (ar : List Nd) : Prop := 1 ≤ ar.length ∧ ar.length ≤ 24 ∧ Sg ar 0 (ar.length - 1) false
def StOK (x : PS ⊕ List Nd) : Prop := match x with
  | .inl st => PI st
  | .inr ar => DoneOK ar

theorem shut_ok {m : Mk} {ts : List Tk} {ar : List Nd} {ov : List Nat} {os : List Mk} {x : PS ⊕ List Nd}
    (h3 : m.k = 3 → PT ar ov os) (h4 : m.k ≠ 3 → arity m.o m.n = true → ∃ l lo : Nat, m.l = (l : Int) ∧ l + 1 = ar.length ∧ Sl ar m.n lo l (rangeOK m.o) ∧ Stk ar os ov lo) (hx : shutP m ts ar ov os = some x) : StOK x := by
  unfold shutP at hx
  split at hx
  · split at hx
    · rename_i hk
      cases hs : settleS ts.tail ar ov os with
      | none => simp [hs] at hx
      | some st =>
        simp only [hs, Option.map_some, Option.some.injEq] at hx
        subst hx
        exact settleS_ok (h3 hk) hs
    · rename_i hk
      split at hx
      · rename_i ha
        obtain ⟨l, lo, hl, hl1, hsl, hst⟩ := h4 hk ha
        cases hs : wholeP (nCall m.o m.l m.n) ts.tail ar ov os with
        | none => simp [hs] at hx
        | some st =>
          simp only [hs, Option.map_some, Option.some.injEq] at hx
          subst hx
          refine wholeP_ok hst ?_ hs
          rw [hl]
          exact Sg.call hsl hl1 ha
      · cases hx
  · cases hx

theorem close_ok {ts : List Tk} {ar : List Nd} {ov : List Nat} {os : List Mk} {x : PS ⊕ List Nd} (h : PT ar ov os) (hx : closeP ts ar ov os = some x) : StOK x := by
  unfold closeP at hx
  split at hx
  · split at hx
    · cases hx
      obtain ⟨h24, v, ov', lo, rfl, hv, hs, hk⟩ := h
      obtain ⟨rfl, rfl⟩ := hk
      refine ⟨by omega, h24, ?_⟩
      rw [show ar.length - 1 = v by omega]
      exact hs
    · cases hx
  · rename_i m os'
    split at hx
    · rename_i hm
      obtain ⟨h24, v, ov', lo, rfl, hv, hs, hk⟩ := h
      have hrg : rgOf (m :: os') = rangeOK m.o := by simp [rgOf, hm]
      rw [hrg] at hs
      simp only at hx
      cases ha : addN ar (nArg v m.l) with
      | none => simp [ha] at hx
      | some ar' =>
        simp only [ha] at hx
        obtain ⟨rfl, hlt⟩ := addN_ok ha
        obtain ⟨lo2, ho1, ho2, hsl, hst⟩ : ∃ lo2, 1 ≤ m.o ∧ m.o ≤ 10 ∧ Sl (ar ++ [nArg v m.l]) (m.n + 1) lo2 ar.length (rangeOK m.o) ∧ Stk ar os' ov' lo2 := by
          rcases hk with ⟨h1, -⟩ | ⟨h1, -⟩ | ⟨h1, -⟩ | ⟨-, h2, h3, h4⟩
          · omega
          · omega
          · omega
          · rcases h4 with ⟨h4, h5, h6⟩ | ⟨h4, l, lo', h5, h6, h7, h8⟩
            · rw [h4, h5]; exact ⟨lo, h2, h3, Sl.one hs hv, h6⟩
            · rw [h6]; exact ⟨lo', h2, h3, Sl.more h7 h4 hs h5 hv, h8⟩
        split at hx
        · cases hx
          refine ⟨by simp; omega, fun _ => .inr (.inr (.inr ⟨rfl, ho1, ho2, .inr ⟨by show 1 ≤ m.n + 1; omega, ar.length, lo2, by simp, rfl, hsl, hst.app⟩⟩)), fun h => (by cases h)⟩
        · refine shut_ok (fun h => (by cases h)) (fun _ _ => ⟨ar.length, lo2, rfl, by simp, hsl, hst.app⟩) hx
    · rename_i hm
      refine shut_ok (fun h3 => h.pop3 h3) (fun h3 ha => ?_) hx
      obtain ⟨h24, v, ov', lo, rfl, hv, hs, hk⟩ := h
      have hn : m.n = 0 := by
        rcases hk with ⟨_, h2, _⟩ | ⟨_, h2, _⟩ | ⟨_, h2, _⟩ | ⟨h1, -⟩
        · exact h2
        · exact h2
        · exact h2
        · exact absurd h1 hm
      rw [hn, arity0] at ha
      cases ha
theorem after2_ok {s : Nat} {ts : List Tk} {ar : List Nd} {ov : List Nat} {os : List Mk} {x : PS ⊕ List Nd} (h : PT ar ov os) (ht : s ≠ 0 → 1 ≤ (hdT ts).n ∧ (hdT ts).n ≤ 10) (hx : after2 s ts ar ov os = some x) : StOK x := by
  unfold after2 at hx
  split at hx
  · exact close_ok h hx
  · rename_i hs0
    obtain ⟨h24, v, ov', lo, rfl, hv, hs, hk⟩ := h
    simp only at hx
    split at hx
    · cases hx
    · rename_i hr
      cases hx
      have ht' := ht hs0
      exact ⟨h24, fun _ => .inr (.inr (.inl ⟨rfl, rfl, ht'.1, ht'.2, v, ov', lo, rfl, hv, hs.nor (by simpa using hr), hk⟩)), fun h => (by cases h)⟩
theorem topS_k {m : Mk} {os : List Mk} (h : topS (m :: os) ≠ 0) : m.k = 2 := by
  unfold topS at h
  simp only at h
  split at h
  · assumption
  · exact absurd rfl h
theorem after1_ok {s : Nat} {ts : List Tk} {ar : List Nd} {ov : List Nat} {os : List Mk} {x : PS ⊕ List Nd} (h : PT ar ov os) (ht : s ≠ 0 → 1 ≤ (hdT ts).n ∧ (hdT ts).n ≤ 10) (hx : after1 s ts ar ov os = some x) : StOK x := by
  unfold after1 at hx
  split at hx
  · split at hx
    · rename_i m os' hc
      cases hj : joinP m ar ov with
      | none => simp [hj] at hx
      | some y =>
        simp only [hj] at hx
        exact after2_ok (join_ok (topS_k (fun e => by rw [e] at hc; omega)) h hj).1 (fun h => absurd rfl h) hx
    · exact after2_ok h ht hx
  · exact after2_ok h ht hx
theorem after0_ok {s : Nat} {ts : List Tk} {ar : List Nd} {ov : List Nat} {os : List Mk} {x : PS ⊕ List Nd} (h : PT ar ov os) (ht : s ≠ 0 → 1 ≤ (hdT ts).n ∧ (hdT ts).n ≤ 10) (hx : after0 s ts ar ov os = some x) : StOK x := by
  unfold after0 at hx
  split at hx
  · split at hx
    · rename_i m os' hc
      cases hj : joinP m ar ov with
      | none => simp [hj] at hx
      | some y =>
        simp only [hj] at hx
        exact after1_ok (join_ok (topS_k (fun e => by rw [e] at hc; omega)) h hj).1 ht hx
    · exact after1_ok h ht hx
  · exact after1_ok h ht hx

theorem refP_ok {r : Rf} {ts : List Tk} {ar : List Nd} {ov : List Nat} {os : List Mk} {st : PS} (hk : Stk ar os ov ar.length) (h : refP r ts ar ov os = some st) : PI st := by
  unfold refP at h
  split at h
  · cases h
  · split at h
    · split at h
      · rename_i hr
        refine wholeP_ok hk ?_ h
        rw [hr.2]
        exact Sg.rng
      · cases h
    · exact wholeP_ok hk Sg.ref h
theorem atomP_ok {ts : List Tk} {ar : List Nd} {ov : List Nat} {os : List Mk} {st : PS} (h24 : ar.length ≤ 24) (hk : Stk ar os ov ar.length) (ht : TkOK (hdT ts)) (h : atomP ts ar ov os = some st) : PI st := by
  unfold atomP at h
  split at h
  · rename_i h2
    refine wholeP_ok hk ?_ h
    rcases ht.lf h2 with ⟨ho, hn⟩ | ⟨ho, hn⟩ | ho
    · rw [ho]; exact Sg.num hn
    · rw [ho]; exact Sg.bool hn
    · rw [ho]; exact Sg.bad
  · split at h
    · exact refP_ok hk h
    · split at h
      · rename_i h5
        split at h
        · cases h
          have := ht.fn h5
          exact ⟨h24, fun _ => .inr (.inr (.inr ⟨rfl, this.1, this.2, .inl ⟨rfl, rfl, hk⟩⟩)), fun h => (by cases h)⟩
        · cases h
      · split at h
        · cases h
          exact ⟨h24, fun _ => .inr (.inl ⟨rfl, rfl, hk⟩), fun h => (by cases h)⟩
        · split at h
          · cases h
            exact ⟨h24, fun _ => .inl ⟨rfl, rfl, hk⟩, fun h => (by cases h)⟩
          · cases h
theorem stepM_ok {st : PS} {x : PS ⊕ List Nd} (h : PI st) (ht : TkOK (hdT st.ts)) (hx : stepM st = some x) : StOK x := by
  unfold stepM at hx
  split at hx
  · rename_i hv
    refine after0_ok ⟨h.l24, h.ye hv⟩ (fun hs => ?_) hx
    unfold tkS at hs
    split at hs
    · rename_i h6; exact ht.op h6
    · exact absurd rfl hs
  · rename_i hv
    cases ha : atomP st.ts st.ar st.ov st.os with
    | none => simp [ha] at hx
    | some st' =>
      simp only [ha, Option.map_some, Option.some.injEq] at hx
      subst hx
      exact atomP_ok h.l24 (h.no (by simpa using hv)) ht ha

/-- What is left of the tokens is a tail of them. -/
theorem hd_tail {ts : List Tk} (h : ∀ t ∈ ts, TkOK t) : ∀ t ∈ ts.tail, TkOK t := fun t ht => h t (List.mem_of_mem_tail ht)
def Tl (st : PS) (ts : List Tk) : Prop := ∃ k, st.ts = ts.drop k
theorem Tl.tail1 (ts : List Tk) : ∃ k, ts.tail = ts.drop k := ⟨1, by simp⟩
theorem settleS_tl {ts : List Tk} {ar : List Nd} {ov : List Nat} {os : List Mk} {st : PS} (h : settleS ts ar ov os = some st) : st.ts = ts := (settleS_ts h).1
theorem wholeP_tl {x : Nd} {ts : List Tk} {ar : List Nd} {ov : List Nat} {os : List Mk} {st : PS} (h : wholeP x ts ar ov os = some st) : st.ts = ts := (wholeP_ts h).1
theorem shut_tl {m : Mk} {ts : List Tk} {ar : List Nd} {ov : List Nat} {os : List Mk} {st : PS} (h : shutP m ts ar ov os = some (.inl st)) : Tl st ts := by
  unfold shutP at h
  split at h
  · split at h
    · cases hs : settleS ts.tail ar ov os with
      | none => simp [hs] at h
      | some x => simp only [hs, Option.map_some, Option.some.injEq, Sum.inl.injEq] at h; subst h; unfold Tl; rw [settleS_tl hs]; exact Tl.tail1 ts
    · split at h
      · cases hs : wholeP (nCall m.o m.l m.n) ts.tail ar ov os with
        | none => simp [hs] at h
        | some x => simp only [hs, Option.map_some, Option.some.injEq, Sum.inl.injEq] at h; subst h; unfold Tl; rw [wholeP_tl hs]; exact Tl.tail1 ts
      · cases h
  · cases h
theorem close_tl {ts : List Tk} {ar : List Nd} {ov : List Nat} {os : List Mk} {st : PS} (h : closeP ts ar ov os = some (.inl st)) : Tl st ts := by
  unfold closeP at h
  split at h
  · split at h <;> cases h
  · split at h
    · split at h
      · split at h
        · split at h
          · cases h; exact Tl.tail1 ts
          · exact shut_tl h
        · cases h
      · cases h
    · exact shut_tl h
theorem after2_tl {s : Nat} {ts : List Tk} {ar : List Nd} {ov : List Nat} {os : List Mk} {st : PS} (h : after2 s ts ar ov os = some (.inl st)) : Tl st ts := by
  unfold after2 at h
  split at h
  · exact close_tl h
  · split at h
    · split at h
      · cases h
      · cases h; exact Tl.tail1 ts
    · cases h
theorem after1_tl {s : Nat} {ts : List Tk} {ar : List Nd} {ov : List Nat} {os : List Mk} {st : PS} (h : after1 s ts ar ov os = some (.inl st)) : Tl st ts := by
  unfold after1 at h
  split at h
  · split at h
    · split at h
      · exact after2_tl h
      · cases h
    · exact after2_tl h
  · exact after2_tl h
theorem after0_tl {s : Nat} {ts : List Tk} {ar : List Nd} {ov : List Nat} {os : List Mk} {st : PS} (h : after0 s ts ar ov os = some (.inl st)) : Tl st ts := by
  unfold after0 at h
  split at h
  · split at h
    · split at h
      · exact after1_tl h
      · cases h
    · exact after1_tl h
  · exact after1_tl h
theorem dropT (ts : List Tk) : ts.tail.tail = ts.drop 2 ∧ ts.tail.tail.tail = ts.drop 3 := by
  constructor <;> simp [List.drop_drop, ← List.drop_one]
theorem refP_tl {r : Rf} {ts : List Tk} {ar : List Nd} {ov : List Nat} {os : List Mk} {st : PS} (h : refP r ts ar ov os = some st) : Tl st ts := by
  unfold refP at h
  split at h
  · cases h
  · split at h
    · split at h
      · unfold Tl; rw [wholeP_tl h]; exact ⟨2, (dropT ts).1⟩
      · cases h
    · unfold Tl; rw [wholeP_tl h]; exact ⟨0, by simp⟩
theorem atomP_tl {ts : List Tk} {ar : List Nd} {ov : List Nat} {os : List Mk} {st : PS} (h : atomP ts ar ov os = some st) : Tl st ts := by
  unfold atomP at h
  split at h
  · unfold Tl; rw [wholeP_tl h]; exact Tl.tail1 ts
  · split at h
    · obtain ⟨k, hk⟩ := refP_tl h
      exact ⟨k + 1, by rw [hk, ← List.drop_one, List.drop_drop, Nat.add_comm]⟩
    · split at h
      · split at h
        · cases h; exact ⟨2, (dropT ts).1⟩
        · cases h
      · split at h
        · cases h; exact Tl.tail1 ts
        · split at h
          · cases h; exact Tl.tail1 ts
          · cases h
theorem stepM_tl {st st' : PS} (h : stepM st = some (.inl st')) : Tl st' st.ts := by
  unfold stepM at h
  split at h
  · exact after0_tl h
  · cases ha : atomP st.ts st.ar st.ov st.os with
    | none => simp [ha] at h
    | some x => simp only [ha, Option.map_some, Option.some.injEq, Sum.inl.injEq] at h; subst h; exact atomP_tl ha

theorem R_ok : ∀ (n : Nat) (st : PS), st.ts.length ≤ n → PI st → (∀ t ∈ st.ts, TkOK t) → ∀ ar, R st = some ar → DoneOK ar := by
  intro n
  induction n with
  | zero =>
    intro st hn hp ht ar h
    rw [R_eq] at h
    cases hs : stepM st with
    | none => simp [hs, RO'] at h
    | some x =>
      have := stepM_ok hp (hdT_ok ht) hs
      cases x with
      | inl st' => have := stepM_ts hs; omega
      | inr a => simp only [hs, RO', Option.some.injEq] at h; subst h; exact this
  | succ n ih =>
    intro st hn hp ht ar h
    rw [R_eq] at h
    cases hs : stepM st with
    | none => simp [hs, RO'] at h
    | some x =>
      have hok := stepM_ok hp (hdT_ok ht) hs
      cases x with
      | inl st' =>
        simp only [hs, RO'] at h
        have h1 := stepM_ts hs
        obtain ⟨k, hk⟩ := stepM_tl hs
        exact ih st' (by omega) hok (fun t h' => ht t (by rw [hk] at h'; exact List.mem_of_mem_drop h')) ar h
      | inr a => simp only [hs, RO', Option.some.injEq] at h; subst h; exact hok
theorem parse_ok {s : List UInt8} {ar : List Nd} (h : parseP s = some ar) : DoneOK ar :=
  R_ok _ ⟨toks s, [], [], [], false⟩ (Nat.le_refl _) ⟨Nat.zero_le _, fun _ => ⟨rfl, rfl⟩, fun h => (by cases h)⟩ (toks_ok _ _ (Nat.le_refl _)) ar h

end Go.Proofs.Qxb6500570aGreat
