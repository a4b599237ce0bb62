import Derived.Test.Qxb6500568aGreatDoorSp
/- What a text is: a tree or an error. -/
namespace Go.Proofs.Qxb6500568aGreatDoor
open Ieee
set_option linter.unusedVariables false
set_option linter.unusedSimpArgs false
set_option linter.unusedSectionVars false

/-- Bad tokens have an error. -/
def TkE (l : List Tok) : Prop := ∀ t ∈ l, t.k = 1 → t.e ≠ 0
theorem TkE.adv {s : PS} (h : TkE s.tk) : TkE s.adv.tk := fun t ht => h t (List.mem_of_mem_tail ht)
def OkE (o : PR) : Prop := (∀ e p, o = some (.inl (e, p)) → e ≠ 0) ∧ ∀ t s, o = some (.inr (t, s)) → TkE s.tk
section
variable {s : PS}
theorem OkE.none : OkE none := ⟨fun e p h => (by cases h), fun t s h => (by cases h)⟩
theorem OkE.fail {c : Nat} (hc : c ≠ 0) (h : TkE s.tk) : OkE (failP c s) := by
  constructor
  · intro e p q
    unfold failP at q
    injection q with q
    injection q with q
    injection q with q _
    rw [← q]
    split
    · rename_i hk
      exact h _ (cur_mem (by rw [hk]; decide)) hk
    · exact hc
  · intro t s q
    unfold failP at q
    injection q with q
    cases q
theorem OkE.ok {t : Tr} (h : TkE s.tk) : OkE (okP t s) := by
  constructor
  · intro e p q
    unfold okP at q
    injection q with q
    cases q
  · intro t' s' q
    unfold okP at q
    injection q with q
    injection q with q
    injection q with _ q
    rw [← q]
    exact h
theorem OkE.bd {o : PR} {f : Tr → PS → PR} (h : OkE o) (k : ∀ t s, TkE s.tk → OkE (f t s)) : OkE (bdP o f) := by
  rcases o with _ | ⟨e, p⟩ | ⟨t, s⟩
  · exact .none
  · constructor
    · intro e' p' q
      injection q with q
      injection q with q
      injection q with q _
      rw [← q]
      exact h.1 e p rfl
    · intro t s q
      injection q with q
      cases q
  · exact k t s (h.2 t s rfl)
theorem OkE.ite {c : Prop} [Decidable c] {a b : PR} (h : OkE a) (k : OkE b) : OkE (if c then a else b) := by
  by_cases hc : c
  · rw [if_pos hc]; exact h
  · rw [if_neg hc]; exact k
theorem OkE.exp {k : Nat} {f : PS → PR} (hs : TkE s.tk) (h : OkE (f s.adv)) : OkE (expP k s f) := OkE.ite h (.fail (by decide) hs)
theorem OkE.name {k : Nat} {f : Str → PS → PR} (hs : TkE s.tk) (h : ∀ n, OkE (f n s.adv)) : OkE (nameP k s f) := OkE.ite (.fail (by decide) hs) (OkE.ite (.fail (by decide) hs) (h _))
def IE (f : Rec) : Prop := ∀ (m lv r n : Nat) (x : Tr) (s : PS), TkE s.tk → OkE (f m lv r n x s)
variable {f : Rec} {lv r n : Nat} {x : Tr}
theorem ie_prim (I : IE f) (h : TkE s.tk) : OkE (pPrim f lv s) :=
  .ite (.ok h.adv) (.ite (.ok h.adv) (.ite (.ok h.adv) (.ite (.ok h.adv) (.ite (.ok h.adv) (.ite (.ok h.adv) (.ite (.bd (I _ _ _ _ _ _ h.adv) fun t s h => .exp h (.ok h.adv)) (.ite (.ite (.fail (by decide) h) (I _ _ _ _ _ _ h.adv)) (.ite (.bd (I _ _ _ _ _ _ h.adv) fun t s h => .ok h) (.fail (by decide) h)))))))))
theorem ie_local (I : IE f) (h : TkE s.tk) : OkE (pLocal f lv s) :=
  .ite (.ite (.fail (by decide) h) (.name h.adv fun n => .bd (I _ _ _ _ _ _ h.adv.adv) fun t s h => .ok h)) (.name h fun n =>
    .ite (.name h.adv.adv fun n => .exp h.adv.adv.adv (.bd (I _ _ _ _ _ _ h.adv.adv.adv.adv) fun t s h => .ite (.ok h) (.fail (by decide) h))) (.ite (.bd (I _ _ _ _ _ _ h.adv.adv) fun t s h => .ok h) (.ok h.adv)))
theorem ie_for (I : IE f) (h : TkE s.tk) : OkE (pFor f lv s) :=
  .name h fun n => .ite (.name h.adv.adv fun n => .exp h.adv.adv.adv (.bd (I _ _ _ _ _ _ h.adv.adv.adv.adv) fun t s h => .bd (I _ _ _ _ _ _ h) fun t s h => .ok h))
    (.exp h.adv (.bd (I _ _ _ _ _ _ h.adv.adv) fun t s h => .exp h (.bd (I _ _ _ _ _ _ h.adv) fun t s h => .ite (.bd (I _ _ _ _ _ _ h.adv) fun t s h => .bd (I _ _ _ _ _ _ h) fun t s h => .ok h) (.bd (I _ _ _ _ _ _ h) fun t s h => .ok h))))
theorem ie_ret (I : IE f) (h : TkE s.tk) : OkE (pRet f lv s) :=
  .ite (.ok h) (.bd (I _ _ _ _ _ _ h) fun t s h => .ite (.bd (I _ _ _ _ _ _ h.adv) fun t s h => .ok h) (.ok h))
theorem ie_list (I : IE f) (h : TkE s.tk) : OkE (pList f lv r n s) := by
  have go : ∀ s : PS, TkE s.tk → OkE (if r = 40 ∧ n = 3 then failP 19 s else bdP (f 0 lv 1 0 dumT s) fun x s => bdP (f 5 lv r (n + 1) dumT s) fun l s => okP (ExL.cons x l) s) := fun s h => .ite (.fail (by decide) h) (.bd (I _ _ _ _ _ _ h) fun t s h => .bd (I _ _ _ _ _ _ h) fun t s h => .ok h)
  exact .ite (.ok h.adv) (.ite (.exp h (go _ h.adv)) (go _ h))
theorem ie_pars (I : IE f) (h : TkE s.tk) : OkE (pPars f n x s) := by
  have go : ∀ s : PS, TkE s.tk → OkE (if n = 3 then failP 19 s else nameP 0 s fun nm s => f 11 0 0 (n + 1) { x with ps := x.ps ++ [nm] } s) := fun s h => .ite (.fail (by decide) h) (.name h fun n => I _ _ _ _ _ _ h.adv)
  exact .ite (.ok h.adv) (.ite (.exp h (go _ h.adv)) (go _ h))
theorem ie_step (I : IE f) : IE (stepP f) := fun m lv r n x s h =>
  .ite (.bd (I _ _ _ _ _ _ h) fun t s h => I _ _ _ _ _ _ h) (
  .ite (.ite (.bd (.ite (I _ _ _ _ _ _ h.adv) (I _ _ _ _ _ _ h.adv)) fun t s h => I _ _ _ _ _ _ h) (.ok h)) (
  .ite (.ite (.fail (by decide) h) (.ite (.bd (I _ _ _ _ _ _ h.adv) fun t s h => .ok h) (.ite (.bd (I _ _ _ _ _ _ h.adv) fun t s h => .ok h) (.ite (.bd (I _ _ _ _ _ _ h.adv) fun t s h => .ok h) (I _ _ _ _ _ _ h))))) (
  .ite (.ite (.fail (by decide) h) (.bd (ie_prim I h) fun t s h => I _ _ _ _ _ _ h)) (
  .ite (.ite (.name h.adv fun n => I _ _ _ _ _ _ h.adv.adv) (.ite (.bd (I _ _ _ _ _ _ h.adv) fun t s h => .exp h (I _ _ _ _ _ _ h.adv)) (.ite (.bd (I _ _ _ _ _ _ h.adv) fun t s h => I _ _ _ _ _ _ h) (.ok h)))) (
  .ite (ie_list I h) (
  .ite (.ite (.fail (by decide) h) (.bd (I _ _ _ _ _ _ h) fun t s h => .ok h)) (
  .ite (.ite (.ok h) (.ite (.fail (by decide) h) (.bd (I _ _ _ _ _ _ h) fun t s h => .bd (I _ _ _ _ _ _ h) fun t s h => .ok h))) (
  .ite (.ite (ie_local I h.adv) (.ite (I _ _ _ _ _ _ h) (.ite (ie_for I h.adv) (.ite (.bd (I _ _ _ _ _ _ h.adv) fun t s h => .bd (I _ _ _ _ _ _ h) fun t s h => .ok h) (.ite (.ite (.fail (by decide) h) (.ok h.adv)) (.ite (ie_ret I h.adv)
      (.bd (I _ _ _ _ _ _ h) fun t s h => .ite (.ite (.bd (I _ _ _ _ _ _ h.adv) fun t s h => .ok h) (.ite (.bd (I _ _ _ _ _ _ h.adv) fun t s h => .ok h) (.fail (by decide) h))) (.ite (.ok h) (.fail (by decide) h))))))))) (
  .ite (.bd (I _ _ _ _ _ _ h.adv) fun t s h => .exp h (.bd (I _ _ _ _ _ _ h.adv) fun t s h => .ite (.bd (I _ _ _ _ _ _ h) fun t s h => .ok h) (.ite (.bd (I _ _ _ _ _ _ h.adv) fun t s h => .exp h (.ok h.adv)) (.exp h (.ok h.adv))))) (
  .ite (.exp h (.bd (I _ _ _ _ _ _ h.adv) fun t s h => .exp h (.ok h.adv))) (
  .ite (ie_pars I h) (
  .exp h (.bd (I _ _ _ _ _ _ h.adv) fun t s h => .bd (I _ _ _ _ _ _ h) fun t s h => .exp h (.ok h.adv))))))))))))))
end
theorem ie_all : ∀ f : Nat, IE (parP f)
  | 0 => fun _ _ _ _ _ _ _ => .none
  | f + 1 => ie_step (ie_all f)
theorem chunk_err {f : Nat} {tk : List Tok} (h : TkE tk) : OkE (chunkP f tk) := .bd (ie_all f _ _ _ _ _ _ h) fun t s h => .ite (.ok h) (.fail (by decide) h)
theorem tokAt_err (c : UInt8) (r : Str) (p : Nat) : (tokAt c r p).1.k = 1 → (tokAt c r p).1.e ≠ 0 := by
  unfold tokAt
  dsimp only
  split
  · split
    · intro h
      have hk : ∀ o : Option Nat, (match o with | some i => 5 + i | none => 2) ≠ 1 := fun o => by
        rcases o with _ | i
        · decide
        · show 5 + i ≠ 1; omega
      exact absurd h (hk _)
    · intro _; show (14 : Nat) ≠ 0; decide
  · split
    · split
      · intro h; cases h
      · intro _; show (2 : Nat) ≠ 0; decide
    · split
      · split
        · intro h; cases h
        · intro _; show (14 : Nat) ≠ 0; decide
      · split
        · intro h; have h : 24 + _ = 1 := h; omega
        · intro _; show (13 : Nat) ≠ 0; decide
theorem toksF_err : ∀ (n : Nat) (s : Str) (p : Nat), TkE (toksF n s p)
  | 0, s, p => fun t ht => by cases ht
  | n + 1, s, p => by
    unfold toksF
    rcases skipL false s p with ⟨_ | ⟨c, r⟩, q⟩
    · intro t ht
      rw [List.mem_singleton.1 ht]
      intro h; cases h
    · dsimp only
      split
      · intro t ht
        rw [List.mem_singleton.1 ht]
        exact tokAt_err c r q
      · intro t ht
        rcases List.mem_cons.1 ht with rfl | ht
        · exact tokAt_err c r q
        · exact toksF_err n _ _ t ht
theorem toksF_len : ∀ (n : Nat) (s : Str) (p : Nat), (toksF n s p).length ≤ n
  | 0, s, p => Nat.le_refl _
  | n + 1, s, p => by
    unfold toksF
    rcases skipL false s p with ⟨_ | ⟨c, r⟩, q⟩
    · show 1 ≤ n + 1; omega
    · dsimp only
      split
      · show 1 ≤ n + 1; omega
      · rw [List.length_cons]; have := toksF_len n ((c :: r).drop (tokAt c r q).2) (q + (tokAt c r q).2); omega
theorem toks_len (s : Str) : (toks s).length ≤ s.length + 1 := toksF_len _ _ _
/-- The grammar's answer. -/
def prsO (s : Str) : PO := (chunkP (5 * (toks s).length + 100) (toks s)).getD (.inl (0, 0))
theorem prs_eq (s : Str) : chunkP (5 * (toks s).length + 100) (toks s) = some (prsO s) := by
  have := tot_all (5 * (toks s).length + 100) 6 1 0 0 dumT ⟨toks s, 0, 0, 0⟩ (fun e => absurd e (by decide)) (fun e => absurd e (by decide)) (by show 5 * (toks s).length + wM 6 ≤ _; unfold wM; simp)
  unfold prsO
  cases h : chunkP (5 * (toks s).length + 100) (toks s) with
  | some R => rfl
  | none =>
    exfalso
    unfold chunkP at h
    rcases this with ⟨e, h1⟩ | ⟨t, s1, h1, _⟩
    · rw [h1] at h; cases h
    · rw [h1] at h
      have h : (if s1.k = 0 then okP t s1 else failP 15 s1) = none := h
      split at h <;> cases h
/-- The answer of Parse: an error and its place, or the tree and the number of its literals. -/
def prsV (s : Str) : (Nat × Nat) ⊕ (Tr × Nat) := if 2048 < s.length then .inl (1, 0) else match prsO s with
  | .inl e => .inl e
  | .inr (t, s') => if 300 < ndT t then .inl (17, s.length) else .inr (t, s'.fu)
end Go.Proofs.Qxb6500568aGreatDoor
