import Derived.Test.Qxb6500568aGreatDoorSa
namespace Go.Proofs.Qxb6500568aGreatDoor
open Ieee
set_option linter.unusedVariables false
set_option linter.unusedSimpArgs false
set_option linter.unusedSectionVars false

/-! The grammar's function answers with enough fuel, and more fuel changes nothing. -/

def LeP (o o' : PR) : Prop := ∀ r, o = some r → o' = some r
theorem LeP.refl (o : PR) : LeP o o := fun r h => h
theorem LeP.bd {o o' : PR} {f f' : Tr → PS → PR} (h : LeP o o') (k : ∀ t s, LeP (f t s) (f' t s)) : LeP (bdP o f) (bdP o' f') := fun r hr => by
  rcases o with _ | e | ⟨t, s⟩
  · cases hr
  · rw [h _ rfl]; exact hr
  · rw [h _ rfl]; exact k t s r hr
theorem LeP.ite {c : Prop} [Decidable c] {a b a' b' : PR} (h : c → LeP a a') (k : ¬ c → LeP b b') : LeP (if c then a else b) (if c then a' else b') := by
  by_cases hc : c
  · rw [if_pos hc, if_pos hc]; exact h hc
  · rw [if_neg hc, if_neg hc]; exact k hc
theorem LeP.exp {k : Nat} {s : PS} {f f' : PS → PR} (h : ∀ s, LeP (f s) (f' s)) : LeP (expP k s f) (expP k s f') := LeP.ite (fun _ => h _) fun _ => .refl _
theorem LeP.name {k : Nat} {s : PS} {f f' : Str → PS → PR} (h : ∀ n s, LeP (f n s) (f' n s)) : LeP (nameP k s f) (nameP k s f') := LeP.ite (fun _ => .refl _) fun _ => LeP.ite (fun _ => .refl _) fun _ => h _ _
def LeR (f g : Rec) : Prop := ∀ m lv r n x s, LeP (f m lv r n x s) (g m lv r n x s)

section
variable {f g : Rec} (h : LeR f g)
theorem le_prim {lv : Nat} {s : PS} (h : LeR f g) : LeP (pPrim f lv s) (pPrim g lv s) :=
  .ite (fun _ => .refl _) fun _ => .ite (fun _ => .refl _) fun _ => .ite (fun _ => .refl _) fun _ => .ite (fun _ => .refl _) fun _ => .ite (fun _ => .refl _) fun _ => .ite (fun _ => .refl _) fun _ =>
  .ite (fun _ => .bd (h _ _ _ _ _ _) fun t s => .refl _) fun _ => .ite (fun _ => .ite (fun _ => .refl _) fun _ => h _ _ _ _ _ _) fun _ => .ite (fun _ => .bd (h _ _ _ _ _ _) fun t s => .refl _) fun _ => .refl _
theorem le_local {lv : Nat} {s : PS} (h : LeR f g) : LeP (pLocal f lv s) (pLocal g lv s) :=
  .ite (fun _ => .ite (fun _ => .refl _) fun _ => .name fun n s => .bd (h _ _ _ _ _ _) fun t s => .refl _) fun _ => .name fun n s =>
  .ite (fun _ => .name fun n s => .exp fun s => .bd (h _ _ _ _ _ _) fun t s => .refl _) fun _ => .ite (fun _ => .bd (h _ _ _ _ _ _) fun t s => .refl _) fun _ => .refl _
theorem le_for {lv : Nat} {s : PS} (h : LeR f g) : LeP (pFor f lv s) (pFor g lv s) :=
  .name fun n s => .ite (fun _ => .name fun n s => .exp fun s => .bd (h _ _ _ _ _ _) fun t s => .bd (h _ _ _ _ _ _) fun t s => .refl _) fun _ =>
  .exp fun s => .bd (h _ _ _ _ _ _) fun t s => .exp fun s => .bd (h _ _ _ _ _ _) fun t s => .ite (fun _ => .bd (h _ _ _ _ _ _) fun t s => .bd (h _ _ _ _ _ _) fun t s => .refl _) fun _ => .bd (h _ _ _ _ _ _) fun t s => .refl _
theorem le_ret {lv : Nat} {s : PS} (h : LeR f g) : LeP (pRet f lv s) (pRet g lv s) :=
  .ite (fun _ => .refl _) fun _ => .bd (h _ _ _ _ _ _) fun t s => .ite (fun _ => .bd (h _ _ _ _ _ _) fun t s => .refl _) fun _ => .refl _
theorem le_step (h : LeR f g) : LeR (stepP f) (stepP g) := fun m lv r n x s =>
  .ite (fun _ => .bd (h _ _ _ _ _ _) fun t s => h _ _ _ _ _ _) fun _ =>
  .ite (fun _ => .ite (fun _ => .bd (.ite (fun _ => h _ _ _ _ _ _) fun _ => h _ _ _ _ _ _) fun t s => h _ _ _ _ _ _) fun _ => .refl _) fun _ =>
  .ite (fun _ => .ite (fun _ => .refl _) fun _ => .ite (fun _ => .bd (h _ _ _ _ _ _) fun t s => .refl _) fun _ => .ite (fun _ => .bd (h _ _ _ _ _ _) fun t s => .refl _) fun _ => .ite (fun _ => .bd (h _ _ _ _ _ _) fun t s => .refl _) fun _ => h _ _ _ _ _ _) fun _ =>
  .ite (fun _ => .ite (fun _ => .refl _) fun _ => .bd (le_prim h) fun t s => h _ _ _ _ _ _) fun _ =>
  .ite (fun _ => .ite (fun _ => .name fun n s => h _ _ _ _ _ _) fun _ => .ite (fun _ => .bd (h _ _ _ _ _ _) fun t s => .exp fun s => h _ _ _ _ _ _) fun _ => .ite (fun _ => .bd (h _ _ _ _ _ _) fun t s => h _ _ _ _ _ _) fun _ => .refl _) fun _ =>
  .ite (fun _ => .ite (fun _ => .refl _) fun _ => .ite (fun _ => .exp fun s => .ite (fun _ => .refl _) fun _ => .bd (h _ _ _ _ _ _) fun t s => .bd (h _ _ _ _ _ _) fun t s => .refl _) fun _ => .ite (fun _ => .refl _) fun _ => .bd (h _ _ _ _ _ _) fun t s => .bd (h _ _ _ _ _ _) fun t s => .refl _) fun _ =>
  .ite (fun _ => .ite (fun _ => .refl _) fun _ => .bd (h _ _ _ _ _ _) fun t s => .refl _) fun _ =>
  .ite (fun _ => .ite (fun _ => .refl _) fun _ => .ite (fun _ => .refl _) fun _ => .bd (h _ _ _ _ _ _) fun t s => .bd (h _ _ _ _ _ _) fun t s => .refl _) fun _ =>
  .ite (fun _ => .ite (fun _ => le_local h) fun _ => .ite (fun _ => h _ _ _ _ _ _) fun _ => .ite (fun _ => le_for h) fun _ => .ite (fun _ => .bd (h _ _ _ _ _ _) fun t s => .bd (h _ _ _ _ _ _) fun t s => .refl _) fun _ => .ite (fun _ => .refl _) fun _ => .ite (fun _ => le_ret h) fun _ =>
    .bd (h _ _ _ _ _ _) fun t s => .ite (fun _ => .ite (fun _ => .bd (h _ _ _ _ _ _) fun t s => .refl _) fun _ => .ite (fun _ => .bd (h _ _ _ _ _ _) fun t s => .refl _) fun _ => .refl _) fun _ => .refl _) fun _ =>
  .ite (fun _ => .bd (h _ _ _ _ _ _) fun t s => .exp fun s => .bd (h _ _ _ _ _ _) fun t s => .ite (fun _ => .bd (h _ _ _ _ _ _) fun t s => .refl _) fun _ => .ite (fun _ => .bd (h _ _ _ _ _ _) fun t s => .refl _) fun _ => .refl _) fun _ =>
  .ite (fun _ => .exp fun s => .bd (h _ _ _ _ _ _) fun t s => .refl _) fun _ =>
  .ite (fun _ => .ite (fun _ => .refl _) fun _ => .ite (fun _ => .exp fun s => .ite (fun _ => .refl _) fun _ => .name fun n s => h _ _ _ _ _ _) fun _ => .ite (fun _ => .refl _) fun _ => .name fun n s => h _ _ _ _ _ _) fun _ =>
  .exp fun s => .bd (h _ _ _ _ _ _) fun t s => .bd (h _ _ _ _ _ _) fun t s => .refl _
end
theorem par_le : ∀ f, LeR (parP f) (parP (f + 1))
  | 0 => fun m lv r n x s r h => by cases h
  | f + 1 => le_step (par_le f)
theorem par_mono {f g : Nat} (h : f ≤ g) : LeR (parP f) (parP g) := by
  induction h with
  | refl => exact fun m lv r n x s => .refl _
  | step _ ih => exact fun m lv r n x s q hq => par_le _ m lv r n x s q (ih m lv r n x s q hq)

/-! enough fuel -/
def PS.len (s : PS) : Nat := s.tk.length
/-- there is an answer; behind a tree at most B tokens are left, and e have gone. -/
def Ans1 (e B : Nat) (o : PR) : Prop := (∃ q, o = some (.inl q)) ∨ ∃ t s, o = some (.inr (t, s)) ∧ s.len + e ≤ B
theorem Ans1.fail {c B e : Nat} {s : PS} : Ans1 c B (failP e s) := .inl ⟨_, rfl⟩
theorem Ans1.ok {c B : Nat} {t : Tr} {s : PS} (h : s.len + c ≤ B) : Ans1 c B (okP t s) := .inr ⟨t, s, rfl, h⟩
theorem Ans1.bd {c d B C : Nat} {o : PR} {f : Tr → PS → PR} (h : Ans1 c B o) (k : ∀ t s, s.len + c ≤ B → Ans1 d C (f t s)) : Ans1 d C (bdP o f) := by
  rcases h with ⟨e, rfl⟩ | ⟨t, s, rfl, hs⟩
  · exact .inl ⟨e, rfl⟩
  · exact k t s hs
theorem Ans1.ite {d B : Nat} {c : Prop} [Decidable c] {a b : PR} (h : c → Ans1 d B a) (k : ¬ c → Ans1 d B b) : Ans1 d B (if c then a else b) := by
  by_cases hc : c
  · rw [if_pos hc]; exact h hc
  · rw [if_neg hc]; exact k hc
theorem Ans1.le {c d B C : Nat} {o : PR} (h : Ans1 c B o) (hl : ∀ n, n + c ≤ B → n + d ≤ C) : Ans1 d C o := by
  rcases h with ⟨e, rfl⟩ | ⟨t, s, rfl, hs⟩
  · exact .inl ⟨e, rfl⟩
  · exact .inr ⟨t, s, rfl, hl _ hs⟩
theorem adv_len {s : PS} (h : s.k ≠ 0) : s.adv.len + 1 = s.len := by
  unfold PS.adv PS.len
  unfold PS.k PS.cur at h
  rcases hq : s.tk with _ | ⟨t, r⟩
  · rw [hq] at h; exact absurd rfl h
  · simp
theorem adv_k {s : PS} {k : Nat} (h : s.k = k) (hk : k ≠ 0) : s.adv.len + 1 = s.len := adv_len (by rw [h]; exact hk)
theorem Ans1.exp {d B k : Nat} {s : PS} {f : PS → PR} (hk : k ≠ 0) (h : ∀ s', s'.len + 1 = s.len → Ans1 d B (f s')) : Ans1 d B (expP k s f) :=
  .ite (fun e => h _ (adv_k e hk)) fun _ => .fail
theorem Ans1.name {d B k : Nat} {s : PS} {f : Str → PS → PR} (h : ∀ n s', s'.len + 1 = s.len → Ans1 d B (f n s')) : Ans1 d B (nameP k s f) :=
  .ite (fun _ => .fail) fun e => .ite (fun _ => .fail) fun _ => h _ _ (adv_len (by omega))
/-- how much fuel a mode takes at one token; does a tree of it take a token. -/
def wM (m : Nat) : Nat := if m = 3 then 1 else if m = 2 then 2 else if m = 0 then 3 else if m = 5 then 4 else if m = 8 then 2 else if m = 7 then 3 else if m = 6 then 4 else 1
def eatM (m : Nat) : Nat := if m = 1 ∨ m = 4 ∨ m = 6 ∨ m = 7 then 0 else 1
def Tot (f : Nat) : Prop := ∀ m lv r n x s, (m = 5 → r ≠ 0) → (m = 9 → 1 ≤ s.len) → 5 * s.len + wM m ≤ f → Ans1 (eatM m) s.len (parP f m lv r n x s)
section
variable {f : Nat}
theorem tot_prim {lv : Nat} {s : PS} (T : Tot f) (h : 5 * s.len ≤ f) : Ans1 1 s.len (pPrim (parP f) lv s) := by
  have i0 : ∀ {lv r n x} {s : PS}, 5 * s.len + 3 ≤ f → Ans1 1 s.len (parP f 0 lv r n x s) := fun h => T 0 _ _ _ _ _ (fun e => absurd e (by decide)) (fun e => absurd e (by decide)) h
  have i5 : ∀ {lv r n x} {s : PS}, r ≠ 0 → 5 * s.len + 4 ≤ f → Ans1 1 s.len (parP f 5 lv r n x s) := fun hr h => T 5 _ _ _ _ _ (fun _ => hr) (fun e => absurd e (by decide)) h
  have i12 : ∀ {lv r n x} {s : PS}, 5 * s.len + 1 ≤ f → Ans1 1 s.len (parP f 12 lv r n x s) := fun h => T 12 _ _ _ _ _ (fun e => absurd e (by decide)) (fun e => absurd e (by decide)) h
  have ok : ∀ {k t}, s.k = k → k ≠ 0 → Ans1 1 s.len (okP t s.adv) := fun e hk => .ok (by have := adv_k e hk; omega)
  refine .ite (fun e => ok e (by decide)) fun _ => .ite (fun e => ok e (by decide)) fun _ => .ite (fun e => ok e (by decide)) fun _ => .ite (fun e => ok e (by decide)) fun _ => .ite (fun e => ok e (by decide)) fun _ => .ite (fun e => ok e (by decide)) fun _ =>
    .ite (fun e => ?_) fun _ => .ite (fun e => .ite (fun _ => .fail) fun _ => ?_) fun _ => .ite (fun e => ?_) fun _ => .fail
  · have := adv_k e (by decide)
    exact .bd (i0 (by omega)) fun t s1 h1 => .exp (by decide) fun s2 h2 => .ok (by omega)
  · have := adv_k e (by decide)
    exact (i12 (by omega)).le fun n hn => by omega
  · have := adv_k e (by decide)
    exact .bd (i5 (by decide) (by omega)) fun t s1 h1 => .ok (by omega)
theorem tot_local {lv : Nat} {s : PS} (T : Tot f) (h : 5 * s.len + 5 ≤ f) : Ans1 1 s.len (pLocal (parP f) lv s) := by
  have i0 : ∀ {lv r n x} {s : PS}, 5 * s.len + 3 ≤ f → Ans1 1 s.len (parP f 0 lv r n x s) := fun h => T 0 _ _ _ _ _ (fun e => absurd e (by decide)) (fun e => absurd e (by decide)) h
  have i12 : ∀ {lv r n x} {s : PS}, 5 * s.len + 1 ≤ f → Ans1 1 s.len (parP f 12 lv r n x s) := fun h => T 12 _ _ _ _ _ (fun e => absurd e (by decide)) (fun e => absurd e (by decide)) h
  refine .ite (fun e => .ite (fun _ => .fail) fun _ => .name fun nm s1 h1 => ?_) fun _ => .name fun nm s1 h1 => .ite (fun e => .name fun nm2 s2 h2 => .exp (by decide) fun s3 h3 => ?_) fun _ => .ite (fun e => ?_) fun _ => .ok (by show s1.len + 1 ≤ _; omega)
  · have := adv_k e (by decide)
    have h2 : ({ s1 with al := s1.al + 1 } : PS).len = s1.len := rfl
    exact .bd (i12 (by omega)) fun t s2 h3 => .ok (by omega)
  · have := adv_k e (by decide)
    exact .bd (i0 (by omega)) fun v s4 h4 => .ite (fun _ => .ok (by show s4.len + 1 ≤ _; omega)) fun _ => .fail
  · have := adv_k e (by decide)
    exact .bd (i0 (by omega)) fun v s4 h4 => .ok (by show s4.len + 1 ≤ _; omega)
theorem tot_for {lv : Nat} {s : PS} (T : Tot f) (h : 5 * s.len + 5 ≤ f) : Ans1 1 s.len (pFor (parP f) lv s) := by
  have i0 : ∀ {lv r n x} {s : PS}, 5 * s.len + 3 ≤ f → Ans1 1 s.len (parP f 0 lv r n x s) := fun h => T 0 _ _ _ _ _ (fun e => absurd e (by decide)) (fun e => absurd e (by decide)) h
  have i10 : ∀ {lv r n x} {s : PS}, 5 * s.len + 1 ≤ f → Ans1 1 s.len (parP f 10 lv r n x s) := fun h => T 10 _ _ _ _ _ (fun e => absurd e (by decide)) (fun e => absurd e (by decide)) h
  refine .name fun nm s1 h1 => .ite (fun e => .name fun nm2 s2 h2 => .exp (by decide) fun s3 h3 => ?_) fun _ => .exp (by decide) fun s2 h2 => .bd (i0 (by omega)) fun t s3 h3 => .exp (by decide) fun s4 h4 => .bd (i0 (by omega)) fun t s5 h5 => .ite (fun e => ?_) fun _ => ?_
  · have := adv_k e (by decide)
    exact .bd (i0 (by omega)) fun t s4 h4 => .bd (i10 (by omega)) fun t s5 h5 => .ok (by omega)
  · have := adv_k e (by decide)
    exact .bd (i0 (by omega)) fun t s6 h6 => .bd (i10 (by omega)) fun t s7 h7 => .ok (by omega)
  · exact .bd (i10 (by omega)) fun t s7 h7 => .ok (by omega)
theorem tot_ret {lv : Nat} {s : PS} (T : Tot f) (h : 5 * s.len + 5 ≤ f) : Ans1 0 s.len (pRet (parP f) lv s) := by
  have i0 : ∀ {lv r n x} {s : PS}, 5 * s.len + 3 ≤ f → Ans1 1 s.len (parP f 0 lv r n x s) := fun h => T 0 _ _ _ _ _ (fun e => absurd e (by decide)) (fun e => absurd e (by decide)) h
  refine .ite (fun _ => .ok (Nat.le_refl _)) fun _ => .bd (i0 (by omega)) fun t s1 h1 => .ite (fun e => ?_) fun _ => .ok (by omega)
  have := adv_k e (by decide)
  exact .bd (i0 (by omega)) fun t s2 h2 => .ok (by omega)
theorem tot_step (T : Tot f) : Tot (f + 1) := fun m lv r n x s hr5 hl9 h => by
  have i0 : ∀ {lv r n x} {s : PS}, 5 * s.len + 3 ≤ f → Ans1 1 s.len (parP f 0 lv r n x s) := fun h => T 0 _ _ _ _ _ (fun e => absurd e (by decide)) (fun e => absurd e (by decide)) h
  have i1 : ∀ {lv r n x} {s : PS}, 5 * s.len + 1 ≤ f → Ans1 0 s.len (parP f 1 lv r n x s) := fun h => T 1 _ _ _ _ _ (fun e => absurd e (by decide)) (fun e => absurd e (by decide)) h
  have i2 : ∀ {lv r n x} {s : PS}, 5 * s.len + 2 ≤ f → Ans1 1 s.len (parP f 2 lv r n x s) := fun h => T 2 _ _ _ _ _ (fun e => absurd e (by decide)) (fun e => absurd e (by decide)) h
  have i3 : ∀ {lv r n x} {s : PS}, 5 * s.len + 1 ≤ f → Ans1 1 s.len (parP f 3 lv r n x s) := fun h => T 3 _ _ _ _ _ (fun e => absurd e (by decide)) (fun e => absurd e (by decide)) h
  have i4 : ∀ {lv r n x} {s : PS}, 5 * s.len + 1 ≤ f → Ans1 0 s.len (parP f 4 lv r n x s) := fun h => T 4 _ _ _ _ _ (fun e => absurd e (by decide)) (fun e => absurd e (by decide)) h
  have i5 : ∀ {lv r n x} {s : PS}, r ≠ 0 → 5 * s.len + 4 ≤ f → Ans1 1 s.len (parP f 5 lv r n x s) := fun hr h => T 5 _ _ _ _ _ (fun _ => hr) (fun e => absurd e (by decide)) h
  have i6 : ∀ {lv r n x} {s : PS}, 5 * s.len + 4 ≤ f → Ans1 0 s.len (parP f 6 lv r n x s) := fun h => T 6 _ _ _ _ _ (fun e => absurd e (by decide)) (fun e => absurd e (by decide)) h
  have i7 : ∀ {lv r n x} {s : PS}, 5 * s.len + 3 ≤ f → Ans1 0 s.len (parP f 7 lv r n x s) := fun h => T 7 _ _ _ _ _ (fun e => absurd e (by decide)) (fun e => absurd e (by decide)) h
  have i8 : ∀ {lv r n x} {s : PS}, 5 * s.len + 2 ≤ f → Ans1 1 s.len (parP f 8 lv r n x s) := fun h => T 8 _ _ _ _ _ (fun e => absurd e (by decide)) (fun e => absurd e (by decide)) h
  have i9 : ∀ {lv r n x} {s : PS}, 1 ≤ s.len → 5 * s.len + 1 ≤ f → Ans1 1 s.len (parP f 9 lv r n x s) := fun hl h => T 9 _ _ _ _ _ (fun e => absurd e (by decide)) (fun _ => hl) h
  have i10 : ∀ {lv r n x} {s : PS}, 5 * s.len + 1 ≤ f → Ans1 1 s.len (parP f 10 lv r n x s) := fun h => T 10 _ _ _ _ _ (fun e => absurd e (by decide)) (fun e => absurd e (by decide)) h
  have i11 : ∀ {lv r n x} {s : PS}, 5 * s.len + 1 ≤ f → Ans1 1 s.len (parP f 11 lv r n x s) := fun h => T 11 _ _ _ _ _ (fun e => absurd e (by decide)) (fun e => absurd e (by decide)) h
  show Ans1 (eatM m) s.len (stepP (parP f) m lv r n x s)
  refine .ite (fun e => ?_) fun n0 => .ite (fun e => ?_) fun n1 => .ite (fun e => ?_) fun n2 => .ite (fun e => ?_) fun n3 => .ite (fun e => ?_) fun n4 => .ite (fun e => ?_) fun n5 => .ite (fun e => ?_) fun n6 => .ite (fun e => ?_) fun n7 => .ite (fun e => ?_) fun n8 => .ite (fun e => ?_) fun n9 => .ite (fun e => ?_) fun n10 => .ite (fun e => ?_) fun n11 => ?_
  · subst e
    have h : 5 * s.len + 3 ≤ f + 1 := h
    exact .bd (i2 (by omega)) fun t s1 h1 => (i1 (by omega)).le fun n hn => by show n + 1 ≤ _; omega
  · subst e
    have h : 5 * s.len + 1 ≤ f + 1 := h
    refine .ite (fun e => ?_) fun _ => .ok (Nat.le_refl _)
    have hk : s.k ≠ 0 := fun q => by rw [q] at e; exact absurd e.1 (by decide)
    have := adv_len hk
    exact .bd (c := 1) (B := s.adv.len) (.ite (fun _ => i0 (by omega)) fun _ => i0 (by omega)) fun t s1 h1 => (i1 (by omega)).le fun n hn => by show n + 0 ≤ _; omega
  · subst e
    have h : 5 * s.len + 2 ≤ f + 1 := h
    have go : ∀ {k u}, s.k = k → k ≠ 0 → Ans1 1 s.len (bdP (parP f 2 (lv + 1) 0 0 dumT s.adv) fun x s => okP (Ex.un u x) s) := fun e hk => by
      have := adv_k e hk
      exact .bd (i2 (by omega)) fun t s1 h1 => .ok (by omega)
    exact .ite (fun _ => .fail) fun _ => .ite (fun e => go e (by decide)) fun _ => .ite (fun e => go e (by decide)) fun _ => .ite (fun e => go e (by decide)) fun _ => i3 (by omega)
  · subst e
    have h : 5 * s.len + 1 ≤ f + 1 := h
    refine .ite (fun _ => .fail) fun _ => .bd (tot_prim T (by omega)) fun t s1 h1 => (i4 (by omega)).le fun n hn => by show n + 1 ≤ _; omega
  · subst e
    have h : 5 * s.len + 1 ≤ f + 1 := h
    refine .ite (fun e => .name fun nm s1 h1 => ?_) fun _ => .ite (fun e => ?_) fun _ => .ite (fun e => ?_) fun _ => .ok (Nat.le_refl _)
    · have := adv_k e (by decide)
      exact (i4 (by omega)).le fun n hn => by show n + 0 ≤ _; omega
    · have := adv_k e (by decide)
      exact .bd (i0 (by omega)) fun t s1 h1 => .exp (by decide) fun s2 h2 => (i4 (by omega)).le fun n hn => by show n + 0 ≤ _; omega
    · have := adv_k e (by decide)
      exact .bd (i5 (by decide) (by omega)) fun t s1 h1 => (i4 (by omega)).le fun n hn => by show n + 0 ≤ _; omega
  · subst e
    have h : 5 * s.len + 4 ≤ f + 1 := h
    have hr := hr5 rfl
    have go : ∀ s1 : PS, s1.len ≤ s.len → Ans1 1 s.len (if r = 40 ∧ n = 3 then failP 19 s1 else bdP (parP f 0 lv 1 0 dumT s1) fun x s => bdP (parP f 5 lv r (n + 1) dumT s) fun l s => okP (ExL.cons x l) s) := fun s1 h1 =>
      .ite (fun _ => .fail) fun _ => .bd (i0 (by omega)) fun t s2 h2 => .bd (i5 hr (by omega)) fun t s3 h3 => .ok (by omega)
    exact .ite (fun e => .ok (by have := adv_k e hr; show s.adv.len + 1 ≤ _; omega)) fun _ => .ite (fun _ => .exp (by decide) fun s1 h1 => go s1 (by omega)) fun _ => go s (Nat.le_refl _)
  · subst e
    have h : 5 * s.len + 4 ≤ f + 1 := h
    exact .ite (fun _ => .fail) fun _ => .bd (i7 (by omega)) fun t s1 h1 => .ok h1
  · subst e
    have h : 5 * s.len + 3 ≤ f + 1 := h
    exact .ite (fun _ => .ok (Nat.le_refl _)) fun _ => .ite (fun _ => .fail) fun _ => .bd (i8 (by omega)) fun t s1 h1 => .bd (i7 (by omega)) fun t s2 h2 => .ok (by show s2.len + 0 ≤ _; omega)
  · subst e
    have h : 5 * s.len + 2 ≤ f + 1 := h
    refine .ite (fun e => ?_) fun _ => .ite (fun e => i9 (by have := adv_k e (by decide); omega) (by omega)) fun _ => .ite (fun e => ?_) fun _ => .ite (fun e => ?_) fun _ => .ite (fun e => .ite (fun _ => .fail) fun _ => ?_) fun _ => .ite (fun e => ?_) fun _ => .bd (i3 (by omega)) fun x s1 h1 => .ite (fun e => ?_) fun _ => .ite (fun _ => .ok h1) fun _ => .fail
    · have := adv_k e (by decide)
      exact (tot_local T (by omega)).le fun n hn => by show n + 1 ≤ _; omega
    · have := adv_k e (by decide)
      exact (tot_for T (by omega)).le fun n hn => by show n + 1 ≤ _; omega
    · have := adv_k e (by decide)
      exact .bd (i0 (by omega)) fun t s1 h1 => .bd (i10 (by omega)) fun t s2 h2 => .ok (by show s2.len + 1 ≤ _; omega)
    · have := adv_k e (by decide)
      exact .ok (by show s.adv.len + 1 ≤ _; omega)
    · have := adv_k e (by decide)
      exact (tot_ret T (by omega)).le fun n hn => by show n + 1 ≤ _; omega
    · have := adv_k e (by decide)
      exact .ite (fun _ => .bd (i0 (by omega)) fun t s2 h2 => .ok (by show s2.len + 1 ≤ _; omega)) fun _ => .ite (fun _ => .bd (i0 (by omega)) fun t s2 h2 => .ok (by show s2.len + 1 ≤ _; omega)) fun _ => .fail
  · subst e
    have h : 5 * s.len + 1 ≤ f + 1 := h
    have hl := hl9 rfl
    have hadv : s.adv.len + 1 = s.len := by
      unfold PS.len at hl
      unfold PS.adv PS.len
      rcases hq : s.tk with _ | ⟨t, r⟩
      · rw [hq] at hl; simp at hl
      · simp
    refine .bd (i0 (by omega)) fun t s1 h1 => .exp (by decide) fun s2 h2 => .bd (i6 (by omega)) fun t s3 h3 => .ite (fun e => .bd (i9 (by have := adv_k e (by decide); omega) (by omega)) fun t s4 h4 => .ok (by show s4.len + 1 ≤ _; omega)) fun _ => .ite (fun e => ?_) fun _ => .exp (by decide) fun s4 h4 => .ok (by show s4.len + 1 ≤ _; omega)
    have := adv_k e (by decide)
    exact .bd (i6 (by omega)) fun t s4 h4 => .exp (by decide) fun s5 h5 => .ok (by show s5.len + 1 ≤ _; omega)
  · subst e
    have h : 5 * s.len + 1 ≤ f + 1 := h
    refine .exp (by decide) fun s1 h1 => ?_
    have h2 : ({ s1 with al := s1.al + r, lo := s1.lo + 1 } : PS).len = s1.len := rfl
    exact .bd (i6 (by omega)) fun t s3 h3 => .exp (by decide) fun s4 h4 => .ok (by show s4.len + 1 ≤ _; omega)
  · subst e
    have h : 5 * s.len + 1 ≤ f + 1 := h
    have go : ∀ s1 : PS, s1.len ≤ s.len → Ans1 1 s.len (if n = 3 then failP 19 s1 else nameP 0 s1 fun nm s => parP f 11 0 0 (n + 1) { x with ps := x.ps ++ [nm] } s) := fun s1 h1 =>
      .ite (fun _ => .fail) fun _ => .name fun nm s2 h2 => (i11 (by omega)).le fun n hn => by show n + 1 ≤ _; omega
    exact .ite (fun e => .ok (by have := adv_k e (by decide); show s.adv.len + 1 ≤ _; omega)) fun _ => .ite (fun _ => .exp (by decide) fun s1 h1 => go s1 (by omega)) fun _ => go s (Nat.le_refl _)
  · have he : eatM m = 1 := by unfold eatM; rw [if_neg]; omega
    have hw : 1 ≤ wM m := by
      unfold wM
      repeat' split
      all_goals omega
    rw [he]
    refine .exp (by decide) fun s1 h1 => ?_
    have h2 : ({ s1 with fu := s1.fu + 1 } : PS).len = s1.len := rfl
    refine .bd (i11 (by omega)) fun t s2 h3 => ?_
    have h4 : ({ s2 with al := t.ps.length, lo := 0 } : PS).len = s2.len := rfl
    exact .bd (i6 (by omega)) fun t s3 h5 => .exp (by decide) fun s4 h6 => .ok (by show s4.len + 1 ≤ _; omega)
theorem tot_all : ∀ f, Tot f
  | 0 => fun m lv r n x s _ _ h => by
    have : 1 ≤ wM m := by
      unfold wM
      repeat' split
      all_goals omega
    omega
  | f + 1 => tot_step (tot_all f)
end

end Go.Proofs.Qxb6500568aGreatDoor
