import Derived.Test.Qxb6500568aGreatDoorZm
import Derived.Test.Qxb6500568aGreatDoorNs
/- The compiler: what holds at every piece of a tree. -/
namespace Go.Proofs.Qxb6500568aGreatDoor
open Ieee
set_option linter.unusedVariables false
set_option linter.unusedSimpArgs false
set_option linter.unusedSectionVars false

/-- each literal's parent. -/
def PaT (pa : Nat → Nat) : Tr → Nat → Prop
  | ⟨c, n, _, _, _, [a]⟩ => fun j => if c = 6 ∨ c = 17 then pa n = j ∧ PaT pa a n else PaT pa a j
  | ⟨_, _, _, _, _, [a, b]⟩ => fun j => PaT pa a j ∧ PaT pa b j
  | ⟨_, _, _, _, _, [a, b, d]⟩ => fun j => PaT pa a j ∧ PaT pa b j ∧ PaT pa d j
  | ⟨_, _, _, _, _, [a, b, d, e]⟩ => fun j => PaT pa a j ∧ PaT pa b j ∧ PaT pa d j ∧ PaT pa e j
  | _ => fun _ => True
/-- the state of the function at hand: N the literals to come, B the bytes that are left. -/
structure FX (E : ZEnv) (S : Fns) (f : ZAct) (q : List ZAct) (N : List Nat) (B : Nat) : Prop where
  ch : ChOK S f.j (chn q)
  fit : Fit S f.j (chn q) N
  bd : BD S f.j (chn q)
  L : f.L.length ≤ 12
  cp : ChP E (f :: q)
  tt : tot S + 3 * f.code.length + B ≤ 31000
  lq : 3 * f.lps.length + B ≤ 40000
  lb : ∀ x ∈ f.lps, x.1 ≤ 12 ∧ x.2.length ≤ f.code.length ∧ ∀ p ∈ x.2, p < f.code.length
  g0 : 0 < E.G.length ∧ (nd E.G 0).K = 0
def lpB (l : List (Nat × List Nat)) : Nat := (l.headD (0, [])).1
/-- the places of the holes. -/
def hp : Nat → Cod → List Nat
  | _, [] => []
  | a, i :: c => if i = (21, 65535) then a :: hp (a + 1) c else hp (a + 1) c
def addB (l : List (Nat × List Nat)) (p : List Nat) : List (Nat × List Nat) := match l with
  | [] => []
  | x :: r => (x.1, x.2 ++ p) :: r
theorem hp_app : ∀ (a : Nat) (c d : Cod), hp a (c ++ d) = hp a c ++ hp (a + c.length) d
  | a, [], d => by simp [hp]
  | a, i :: c, d => by
    have e1 : ∀ x : Cod, hp a (i :: x) = if i = (21, 65535) then a :: hp (a + 1) x else hp (a + 1) x := fun x => rfl
    rw [List.cons_append, e1, e1, hp_app (a + 1) c d, List.length_cons, show a + 1 + c.length = a + (c.length + 1) by omega]
    split <;> rfl
theorem hp_none : ∀ {a : Nat} {c : Cod}, OpsOK c → hp a c = []
  | a, [], _ => rfl
  | a, i :: c, h => by
    unfold hp
    rw [if_neg (fun e => by have := (h i List.mem_cons_self).2; rw [e] at this; exact absurd this (by decide)), hp_none (fun y hy => h y (List.mem_cons_of_mem _ hy))]
theorem hp_len : ∀ (a : Nat) (c : Cod), (hp a c).length ≤ c.length
  | a, [] => Nat.le_refl _
  | a, i :: c => by
    unfold hp
    have := hp_len (a + 1) c
    split
    · rw [List.length_cons, List.length_cons]; omega
    · rw [List.length_cons]; omega
theorem hp_lt : ∀ {a : Nat} {c : Cod} {p : Nat}, p ∈ hp a c → a ≤ p ∧ p < a + c.length
  | a, [], p, h => by cases h
  | a, i :: c, p, h => by
    unfold hp at h
    rw [List.length_cons]
    split at h
    · rcases List.mem_cons.1 h with rfl | h
      · omega
      · have := hp_lt h; omega
    · have := hp_lt h; omega
theorem addB_nil (l : List (Nat × List Nat)) : addB l [] = l := by
  cases l with
  | nil => rfl
  | cons x r => show (x.1, x.2 ++ []) :: r = _; rw [List.append_nil]
theorem addB_app (l : List (Nat × List Nat)) (p r : List Nat) : addB (addB l p) r = addB l (p ++ r) := by
  cases l with
  | nil => rfl
  | cons x t => show (x.1, x.2 ++ p ++ r) :: t = (x.1, x.2 ++ (p ++ r)) :: t; rw [List.append_assoc]
theorem addB_B (l : List (Nat × List Nat)) (p : List Nat) : lpB (addB l p) = lpB l := by cases l <;> rfl
theorem addB_len (l : List (Nat × List Nat)) (p : List Nat) : (addB l p).length = l.length := by cases l <;> rfl
section
variable {E : ZEnv} {S S' : Fns} {f f' : ZAct} {q : List ZAct} {N M : List Nat} {B B' : Nat}
theorem FX.le (h : FX E S f q N B) (hB : B' ≤ B) : FX E S f q N B' := ⟨h.ch, h.fit, h.bd, h.L, h.cp, by have := h.tt; omega, by have := h.lq; omega, h.lb, h.g0⟩
theorem FX.left (h : FX E S f q (N ++ M) B) : FX E S f q N B := ⟨h.ch, h.fit.left, h.bd, h.L, h.cp, h.tt, h.lq, h.lb, h.g0⟩
theorem FX.nil (h : FX E S f q N B) : FX E S f q [] B := ⟨h.ch, h.fit.nil, h.bd, h.L, h.cp, h.tt, h.lq, h.lb, h.g0⟩
theorem FX.clen (h : FX E S f q N B) : 3 * f.code.length ≤ 31000 := by have := h.tt; omega
theorem FX.jl (h : FX E S f q N B) : f.j < S.length := h.fit.ltj
theorem ChP.re {g : ZAct} (h : ChP E (f :: q)) (hj : g.j = f.j) : ChP E (g :: q) := by
  cases q with
  | nil => show g.j = 0; rw [hj]; exact h
  | cons p r => show g.j ≠ 0 ∧ E.pa g.j = p.j ∧ _; rw [hj]; exact h
theorem FX.emit (h : FX E S f q N B) {is : Cod} (hB : 3 * is.length + B' ≤ B) : FX E S { f with code := f.code ++ is } q N B' :=
  ⟨h.ch, h.fit, h.bd, h.L, h.cp.re rfl, by have := h.tt; simp only [List.length_append]; omega, by have := h.lq; simp only; omega, fun x hx => by
    obtain ⟨h1, h2, h3⟩ := h.lb x hx
    simp only [List.length_append]
    exact ⟨h1, by omega, fun p hp => by have := h3 p hp; omega⟩, h.g0⟩
/-- a piece of a tree behind it. -/
theorem FX.step {t : Tr} {s e md base : Nat} {lp : Bool} (h : FX E S f q (numsT t ++ N) (100 * ndT t + B)) (hb : BdC t s e lp) (hw : W t lp f.L.length) (hbs : base ≤ 12) (hmd : md + ndT t ≤ 60000) (he : e ≤ B) (hB : B' + e ≤ B + s) {L' : List Str} (hL' : L'.length ≤ 12) {lps' : List (Nat × List Nat)} (hlp : 3 * lps'.length + B' ≤ 40000)
    (hlb : ∀ x ∈ lps', x.1 ≤ 12 ∧ x.2.length ≤ f.code.length + ln (cmp t md (chn (f :: q)) base f.code.length S) ∧ ∀ p ∈ x.2, p < f.code.length + ln (cmp t md (chn (f :: q)) base f.code.length S)) :
    FX E (cmp t md (chn (f :: q)) base f.code.length S).2 ⟨f.j, L', f.code ++ (cmp t md (chn (f :: q)) base f.code.length S).1 65535, lps'⟩ q N B' := by
  have hm := mo_all t md f.j f.L (chn q) base f.code.length S h.ch h.fit.left
  have hbc := hb md f.j f.L (chn q) base f.code.length S h.ch h.fit.left h.bd hw h.L hbs hmd (by have := h.tt; omega)
  have e1 : chn (f :: q) = (f.j, f.L) :: chn q := rfl
  rw [← e1] at hm hbc
  have hln := hm.ln 65535
  refine ⟨hm.mo.ch, h.fit.right.mo hm.mo, hbc.bd, hL', h.cp.re rfl, ?_, hlp, fun x hx => ?_, h.g0⟩
  · have := hbc.tl
    have := h.tt
    simp only [List.length_append, hln]
    omega
  · obtain ⟨h1, h2, h3⟩ := hlb x hx
    simp only [List.length_append, hln]
    exact ⟨h1, h2, h3⟩
end
end Go.Proofs.Qxb6500568aGreatDoor
