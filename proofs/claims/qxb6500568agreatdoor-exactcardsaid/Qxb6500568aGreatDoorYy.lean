import Derived.Test.Qxb6500568aGreatDoorYx
/- The interpreter: laws for Run. -/
namespace Go.Proofs.Qxb6500568aGreatDoor
open Ieee
set_option linter.unusedVariables false
set_option linter.unusedSimpArgs false
set_option linter.unusedSectionVars false

theorem MTV.retag {w : World} {ow ow' : Nat → Nat} {np : Value} {tb : Nat} {T : List Tb} (h : MTV w ow np tb T) (hE : ∀ b, b < w.heap.size → mtag (ow b) → ow' b = ow b) : MTV w ow' np tb T := by
  obtain ⟨V, rows, h1, h2, h3⟩ := h.ex
  have hl := h.len
  have hO : ∀ {tag : Nat} {v : Value} {e k n : Nat} {xs : List Value}, mtag tag → OwT w ow tag v e k n xs → OwT w ow' tag v e k n xs := fun {tag v e k n xs} q o => ⟨o.o, fun b hb => by
    have := o.t b hb
    rw [hE b (o.o.lt hb) (by rw [this]; exact q)]
    exact this⟩
  refine ⟨⟨V, rows, h1, hO (.inr (.inl rfl)) h2, fun i t hi => ?_⟩, by rw [hE tb h1.lt (.inl h.tag)]; exact h.tag, h.len, h.np1, h.ok⟩
  obtain ⟨v, q1, q2⟩ := h3 i t hi
  have := (List.getElem?_eq_some_iff.1 hi).1
  exact ⟨v, q1, hO (by unfold mtag; omega) q2⟩
/-- the tables' tags alone. -/
def btg (w : World) (ow : Nat → Nat) : Nat → Nat := fun b => if b < w.heap.size ∧ (ow b = 40 ∨ ow b = 41 ∨ (100 ≤ ow b ∧ ow b < 112)) then ow b else 66
theorem btg_m {w : World} {ow : Nat → Nat} {b : Nat} (hb : b < w.heap.size) (h : mtag (ow b)) : btg w ow b = ow b := if_pos ⟨hb, h⟩
theorem btg_n {w : World} {ow : Nat → Nat} {b : Nat} (h : ¬ mtag (ow b)) : btg w ow b = 66 := if_neg fun q => h q.2
theorem btg_df {w : World} {ow : Nat → Nat} {b : Nat} (h : w.heap.size ≤ b) : btg w ow b = 66 := if_neg fun q => by have := q.1; omega
theorem btg_cm {w : World} {ow : Nat → Nat} {b : Nat} (h : cmT (btg w ow b)) : mtag (ow b) := by
  unfold btg at h
  split at h
  · rename_i q; exact q.2
  · unfold cmT mtag at h; omega
theorem MTV.btg {w : World} {ow : Nat → Nat} {np : Value} {tb : Nat} {T : List Tb} (h : MTV w ow np tb T) : MTV w (Go.Proofs.Qxb6500568aGreatDoor.btg w ow) np tb T := h.retag fun b hb q => btg_m hb q

/-- the first i functions of the language. -/
def gl (i : Nat) : Tb := (List.range i).map fun b => (vStr (biName (b + 1)), vBi (b + 1))
theorem gl_set : ∀ i, i < 11 → tSet (gl i) (vStr (biName (i + 1))) (vBi (i + 1)) = (0, gl (i + 1))
  | 0, _ => by rfl
  | 1, _ => by rfl
  | 2, _ => by rfl
  | 3, _ => by rfl
  | 4, _ => by rfl
  | 5, _ => by rfl
  | 6, _ => by rfl
  | 7, _ => by rfl
  | 8, _ => by rfl
  | 9, _ => by rfl
  | 10, _ => by rfl
  | n + 11, h => absurd h (by omega)
theorem bi_ok {c t h i : Nat} (hi : i < 11) : VV c t h (vBi (i + 1)) := by
  refine ⟨?_, ?_, fun q => absurd q (show ¬ (6 : Nat) = 5 by decide), fun q => absurd q (show ¬ (6 : Nat) = 7 by decide), fun q => absurd q (show ¬ (6 : Nat) = 4 by decide), fun q => absurd q (show ¬ (6 : Nat) = 2 by decide)⟩
  · simp [wfV, vBi]; omega
  · show i + 1 < _; omega
theorem bn_len : ∀ i, i < 11 → (biName (i + 1)).length ≤ 40 := by decide
theorem gl_ok : ∀ i, i ≤ 11 → TOK (gl i) ∧ ∀ q ∈ gl i, VV 0 0 0 q.1 ∧ VV 0 0 0 q.2
  | 0, _ => ⟨TOK.nil, fun q hq => by cases hq⟩
  | i + 1, h => by
    obtain ⟨h1, h2⟩ := gl_ok i (by omega)
    have := tSet_ok h1 h2 (ok_str (bn_len i (by omega))) (bi_ok (c := 0) (t := 0) (h := 0) (i := i) (by omega))
    rw [gl_set i (by omega)] at this
    exact this
section
variable {G : Arena} {root : Nat} {s : IS}
theorem IW.small (h : IW G root s) : ∀ x ∈ s.ths, x.tasks.length ≤ 16100 ∧ x.vals.length ≤ 16100 := by
  obtain ⟨T, k, P, hT⟩ := h
  intro x hx
  obtain ⟨i, hi⟩ := List.getElem?_of_mem hx
  by_cases e : i = s.cur
  · subst e
    rw [th_at P.cl] at hi
    cases hi
    rw [P.t, P.v]
    exact hT.small P.d8
  · exact (P.b.ot i x e hi).small
theorem itN_tabs : ∀ (n : Nat) (s : IS), s.tabs.length ≤ (itN G root n s).tabs.length
  | 0, s => Nat.le_refl _
  | n + 1, s => by
    rw [itN_succ]
    split
    · exact Nat.le_refl _
    · exact Nat.le_trans (istep_tabs s) (itN_tabs n _)
theorem itN_last : ∀ (n : Nat) (s : IS), (itN G root n s).done ≠ true → itN G root (n + 1) s = istep G root (itN G root n s) := fun n s h => by
  rw [← itN_add n 1, itN_succ, if_neg h]; rfl
end
/-- the interpreter's answer. -/
def IAns (G : Arena) (root fuel : Nat) (A : Ans) : Prop := ∃ n, (itN G root n (istart G root fuel)).done = true ∧ (itN G root n (istart G root fuel)).ans = A
theorem all_ia {t : Tr} {k : Nat} (h : TrOK t k) (h3 : ndT t ≤ 300) {fuel : Nat} (hf : fuel < 9223372036854775808) (n : Nat) : IAd (arena t) (rt t 1) (itN (arena t) (rt t 1) n (istart (arena t) (rt t 1) fuel)) := by
  have hG : IsSL (arena t) (rt t 1) t := arena_is h
  have hl : 0 < (arena t).length := Nat.succ_pos _
  have h0 : (nd (arena t) 0).A = 0 := rfl
  obtain ⟨n1, n2⟩ := h.nd
  obtain ⟨f1, f2⟩ := prog_fnd hG h.w h0 n1 n2
  obtain ⟨ρ, S⟩ := start_sim f1 f2 fuel
  exact it_all hl (arena_ok h) n S (start_iok fuel) (start_iw h hl hG h0 h3 hf)
section
variable {G : Arena} {root : Nat} {np : Value} {tb rb : Nat} {nv : Value} {w : World} {ow : Nat → Nat}
def iS0 (fuel : Nat) : IS := ⟨[], [(0, 0)], [⟨4, 0, 0, [], []⟩], [], 0, fuel, 0, [], glob, false, ⟨0, 0, 0, [], []⟩⟩
theorem RM.start {cv hv a0 a1 a2 a3 a4 : Value} {bt fuel : Nat} (hB : Blk w.heap rb (rnc np tb nv root cv hv a0 a1 a2 a3 a4 (iS0 fuel)) 112) (h70 : ow rb = 70) (hcv : OwT w ow 71 cv 122 2 1 (clc [] (0, 0))) (hhv : OwT w ow 72 hv 123 1 1 [ptr bt])
    (hth : Blk w.heap bt [i64c 4, i64c 0, i64c 0, .slice none 0 0, .slice none 0 0] 126) (h75 : ow bt = 75) (hM : MTV w ow np tb glob) (hN : ∃ Gp, OwT w ow 67 nv 148 8 G.length (rws ndc Gp) ∧ Gp.map Prod.fst = G) (hdf : ∀ b, w.heap.size ≤ b → ow b = 66) (hfu : fuel < 9223372036854775808) : RM G root np tb rb nv w ow [] [bt] 0 (iS0 fuel) := by
  refine ⟨⟨cv, hv, a0, a1, a2, a3, a4, hB, ?_, hhv, fun j c hj => by simp [iS0] at hj⟩, h70, fun i x hx => ?_, rfl, (by show 1 ≤ 5; omega), fun k z hz => by simp [iS0] at hz, rfl, fun k z hz => by simp [iS0] at hz, fun x hx t ht => ?_, fun c hc => ?_, hM, hN, hdf, (by show 0 < 1; omega), Nat.zero_le _, fun x hx => ?_, hfu⟩
  · show OwT w ow 71 cv 122 2 1 (rws (clc []) [(0, 0)])
    rw [rws_one]; exact hcv
  · cases i with
    | zero =>
      have hx : some (⟨4, 0, 0, [], []⟩ : ITh) = some x := hx
      cases hx
      exact ⟨bt, _, _, rfl, hth, h75, OwT.nil _ _ _ _ _, OwT.nil _ _ _ _ _⟩
    | succ i => simp [iS0] at hx
  · have hx : x ∈ [(⟨4, 0, 0, [], []⟩ : ITh)] := hx
    rw [List.mem_singleton] at hx
    subst hx
    cases ht
  · have hc : c ∈ [((0 : Nat), (0 : Nat))] := hc
    rw [List.mem_singleton] at hc
    subst hc
    exact Nat.le_refl _
  · have hx : x ∈ [(⟨4, 0, 0, [], []⟩ : ITh)] := hx
    rw [List.mem_singleton] at hx
    subst hx
    exact ⟨Nat.le_refl _, Nat.le_refl _⟩
end
end Go.Proofs.Qxb6500568aGreatDoor
