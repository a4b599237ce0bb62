import Derived.Test.Qxb6500568aGreatDoorMj
namespace Go.Proofs.Qxb6500568aGreatDoor
open Ieee
set_option linter.unusedVariables false
set_option linter.unusedSimpArgs false
set_option linter.unusedSectionVars false

/-! Fuel never grows; a step takes weight. -/

section
variable {G : Arena} {root : Nat} {s : IS} {f : Nat}

/-- the fuel of the run is at most f. -/
def FlE (f : Nat) (s : IS) : Prop := s.fuel ≤ f
theorem FlE.ite {p : Prop} [Decidable p] {x y : IS} (hx : p → FlE f x) (hy : ¬ p → FlE f y) : FlE f (if p then x else y) := by
  by_cases h : p
  · rw [if_pos h]; exact hx h
  · rw [if_neg h]; exact hy h
theorem FlE.setT (h : FlE f s) (t : ITh) : FlE f (s.setT t) := h
theorem FlE.push (h : FlE f s) (v : PV) : FlE f (ipush v s) := h
theorem FlE.drop (h : FlE f s) (k : Nat) : FlE f (idrop k s) := h
theorem FlE.doT (h : FlE f s) (k n x e : Nat) : FlE f (ido k n x e s) := h
theorem FlE.new (h : FlE f s) (nm : Str) (v : PV) (up : Nat) : FlE f (inew nm v up s) := h
theorem FlE.setE (h : FlE f s) (e : Nat) (v : PV) : FlE f (setE e v s) := h
theorem FlE.fin (h : FlE f s) (e : Nat) (t : Str) : FlE f (ifin e t s) := h
theorem FlE.back (h : FlE f s) (ok : Bool) (v : PV) : FlE f (iback ok v s) := by
  unfold iback; split
  · exact h
  · exact h
theorem FlE.throw (h : FlE f s) (v : PV) : FlE f (ithrow v s) := by
  unfold ithrow; split
  · exact h
  · exact FlE.back (s := s.setT _) h _ _
theorem FlE.raise (h : FlE f s) (m : Str) : FlE f (iraise m s) := h.throw _
theorem FlE.ret (h : FlE f s) (u v : PV) : FlE f (iret u v s) := by
  unfold iret; split
  · exact h
  · exact FlE.ite (fun _ => FlE.back (s := s.setT _) h _ _) (fun _ => FlE.ite (fun _ => h) (fun _ => h))
theorem FlE.iset (h : FlE f s) (t k v : PV) : FlE f (Go.Proofs.Qxb6500568aGreatDoor.iset t k v s) := by
  unfold Go.Proofs.Qxb6500568aGreatDoor.iset
  exact FlE.ite (fun _ => h.raise _) (fun _ => FlE.ite (fun _ => h) (fun _ => FlE.ite (fun _ => h.raise _) (fun _ => h)))
theorem FlE.res (h : FlE f s) (r : Res) : FlE f (ires r s) := by
  unfold ires; split
  · exact h
  · exact h.raise _
theorem FlE.burn (h : FlE f s) : FlE f (iburn s) := by
  unfold iburn
  exact FlE.ite (fun _ => h) (fun _ => by show s.fuel - 1 ≤ f; have : s.fuel ≤ f := h; omega)
theorem FlE.bindP : ∀ {k p : Nat} {zs : List PV} {e : Nat} {s : IS}, FlE f s → FlE f (bindP G k p zs e s).2
  | 0, _, _, _, _, h => h
  | k + 1, p, zs, e, s, h => by
    unfold Go.Proofs.Qxb6500568aGreatDoor.bindP
    split
    · exact h
    · exact FlE.bindP (s := inew _ _ _ s) h
theorem FlE.enter (h : FlE f s) (c : Nat) (zs : List PV) (p : Nat) : FlE f (ienter G root c zs p s) := by
  unfold ienter
  exact FlE.bindP (s := s.setT _) h
theorem FlE.call (h : FlE f s) (n e : Nat) : FlE f (icall G n e s) := by
  unfold icall
  refine FlE.doT ?_ _ _ _ _
  generalize iargs G 3 (nd G n).B = l
  have h1 : FlE f (ido 22 n l.length e s) := h
  revert h1
  generalize ido 22 n l.length e s = s1
  intro h1
  induction l with
  | nil => exact h1
  | cons a l ih => exact ih
theorem FlE.stmt (h : FlE f s) (n e : Nat) : FlE f (istmt G n e s) := by
  unfold istmt
  have h1 := h.doT 1 (nd G n).Nx 0 e
  refine FlE.ite (fun _ => FlE.ite (fun _ => h) (fun _ => h)) (fun _ => ?_)
  refine FlE.ite (fun _ => (h.doT 7 n 0 e).call _ _) (fun _ => ?_)
  refine FlE.ite (fun _ => h) (fun _ => ?_)
  refine FlE.ite (fun _ => FlE.ite (fun _ => h) (fun _ => h)) (fun _ => ?_)
  refine FlE.ite (fun _ => h) (fun _ => ?_)
  refine FlE.ite (fun _ => h) (fun _ => ?_)
  refine FlE.ite (fun _ => h) (fun _ => ?_)
  refine FlE.ite (fun _ => h) (fun _ => ?_)
  refine FlE.ite (fun _ => h) (fun _ => ?_)
  refine FlE.ite (fun _ => h) (fun _ => ?_)
  refine FlE.ite (fun _ => ?_) (fun _ => h)
  split
  · exact h
  · exact h
theorem FlE.items (h : FlE f s) (n k e : Nat) : FlE f (iitems n k e s) := by
  unfold iitems; exact FlE.ite (fun _ => h) (fun _ => h)
theorem FlE.eval (h : FlE f s) (n x e : Nat) : FlE f (ieval G n x e s) := by
  unfold ieval
  refine FlE.ite (fun _ => FlE.ite (fun _ => h) (fun _ => h)) (fun _ => ?_)
  refine FlE.ite (fun _ => h) (fun _ => ?_)
  refine FlE.ite (fun _ => h) (fun _ => ?_)
  refine FlE.ite (fun _ => h) (fun _ => ?_)
  refine FlE.ite (fun _ => h) (fun _ => ?_)
  refine FlE.ite (fun _ => h) (fun _ => ?_)
  refine FlE.ite (fun _ => FlE.ite (fun _ => h) (fun _ => h)) (fun _ => ?_)
  refine FlE.ite (fun _ => h) (fun _ => ?_)
  refine FlE.ite (fun _ => (h.doT 5 0 0 0).call _ _) (fun _ => ?_)
  refine FlE.ite (fun _ => FlE.ite (fun _ => h) (fun _ => h)) (fun _ => ?_)
  refine FlE.ite (fun _ => FlE.ite (fun _ => h) (fun _ => FlE.items (s := ipush _ { s with tabs := s.tabs ++ [[]] }) h _ _ _)) (fun _ => ?_)
  refine FlE.ite (fun _ => h) (fun _ => ?_)
  refine FlE.ite (fun _ => h) (fun _ => ?_)
  refine FlE.ite (fun _ => h) (fun _ => ?_)
  exact FlE.ite (fun _ => h) (fun _ => h)
theorem FlE.apply1 (h : FlE f s) (zs : List PV) (fn : PV) : FlE f (iapply1 G root zs fn s) := by
  unfold iapply1
  refine FlE.ite (fun _ => FlE.ite (fun _ => h.raise _) (fun _ => h.enter _ _ _)) (fun _ => ?_)
  refine FlE.ite (fun _ => h.raise _) (fun _ => ?_)
  refine FlE.ite (fun _ => FlE.ite (fun _ => h) (fun _ => h)) (fun _ => ?_)
  refine FlE.ite (fun _ => h) (fun _ => ?_)
  refine FlE.ite (fun _ => h) (fun _ => ?_)
  refine FlE.ite (fun _ => h) (fun _ => ?_)
  refine FlE.ite (fun _ => h.throw _) (fun _ => ?_)
  refine FlE.ite (fun _ => FlE.ite (fun _ => h) (fun _ => FlE.ite (fun _ => h) (fun _ => h.enter _ _ _))) (fun _ => ?_)
  refine FlE.ite (fun _ => FlE.ite (fun _ => h.raise _) (fun _ => ?_)) (fun _ => ?_)
  · split
    · exact h.raise _
    · exact h
  refine FlE.ite (fun _ => FlE.ite (fun _ => h.raise _) (fun _ => FlE.ite (fun _ => h) (fun _ => h))) (fun _ => ?_)
  refine FlE.ite (fun _ => FlE.ite (fun _ => h.raise _) (fun _ => FlE.ite (fun _ => h) (fun _ => ?_))) (fun _ => ?_)
  · unfold iresume
    refine FlE.ite (fun _ => ?_) (fun _ => h)
    exact FlE.enter (s := { IS.setT { s.setT { s.th with st := 3 } with stack := (s.setT { s.th with st := 3 }).cur :: (s.setT { s.th with st := 3 }).stack, cur := (zs.getD 0 vNil).N } _ with first := _ }) h _ _ _
  refine FlE.ite (fun _ => FlE.ite (fun _ => h.raise _) (fun _ => ?_)) (fun _ => ?_)
  · simp only
    split
    · exact h
    · exact h
  exact FlE.ite (fun _ => FlE.ite (fun _ => h.raise _) (fun _ => h)) (fun _ => h)
theorem FlE.apply (h : FlE f s) (z : Nat) : FlE f (iapply G root z s) := by
  unfold iapply
  exact FlE.ite (fun _ => h) (fun _ => FlE.apply1 (s := idrop (z + 1) { s with fuel := s.fuel - 1 }) (by show s.fuel - 1 ≤ f; have : s.fuel ≤ f := h; omega) _ _)

theorem FlE.burnDo (h : FlE f s) (k n x e : Nat) : FlE f (if (iburn s).done then iburn s else ido k n x e (iburn s)) := FlE.ite (fun _ => h.burn) (fun _ => h.burn)
theorem FlE.step1 {t : Tk} {s0 : IS} (h0 : FlE f s0) (h : FlE f s) : FlE f (istep1 G root t s0 s) := by
  unfold istep1
  refine FlE.ite (fun _ => FlE.ite (fun _ => h.stmt _ _) (fun _ => h)) (fun _ => ?_)
  refine FlE.ite (fun _ => h.eval _ _ _) (fun _ => ?_)
  refine FlE.ite (fun _ => h0.ret _ _) (fun _ => ?_)
  refine FlE.ite (fun _ => h) (fun _ => ?_)
  refine FlE.ite (fun _ => h) (fun _ => ?_)
  refine FlE.ite (fun _ => h) (fun _ => ?_)
  refine FlE.ite (fun _ => h) (fun _ => ?_)
  refine FlE.ite (fun _ => FlE.ite (fun _ => h) (fun _ => (h.drop 1).iset _ _ _)) (fun _ => ?_)
  refine FlE.ite (fun _ => (h.drop 3).iset _ _ _) (fun _ => ?_)
  refine FlE.ite (fun _ => h) (fun _ => ?_)
  refine FlE.ite (fun _ => h) (fun _ => ?_)
  refine FlE.ite (fun _ => FlE.ite (fun _ => h) (fun _ => h)) (fun _ => ?_)
  refine FlE.ite (fun _ => h.burnDo _ _ _ _) (fun _ => ?_)
  refine FlE.ite (fun _ => FlE.ite (fun _ => FlE.ite (fun _ => h) (fun _ => h.raise _)) (fun _ => h.raise _)) (fun _ => ?_)
  refine FlE.ite (fun _ => FlE.ite (fun _ => h) (fun _ => h)) (fun _ => ?_)
  refine FlE.ite (fun _ => FlE.burnDo (s := s.setT _) h _ _ _ _) (fun _ => ?_)
  refine FlE.ite (fun _ => FlE.ite (fun _ => h.raise _) (fun _ => h)) (fun _ => ?_)
  refine FlE.ite (fun _ => FlE.ite (fun _ => h) (fun _ => h)) (fun _ => ?_)
  refine FlE.ite (fun _ => h.burnDo _ _ _ _) (fun _ => ?_)
  refine FlE.ite (fun _ => (h.drop 2).ret _ _) (fun _ => ?_)
  refine FlE.ite (fun _ => h.apply _) (fun _ => ?_)
  refine FlE.ite (fun _ => FlE.ite (fun _ => (h.drop 1).iset _ _ _) (fun _ => ((h.drop 1).iset _ _ _).items _ _ _)) (fun _ => ?_)
  refine FlE.ite (fun _ => (h.drop 2).res _) (fun _ => ?_)
  refine FlE.ite (fun _ => (h.drop 1).res _) (fun _ => ?_)
  refine FlE.ite (fun _ => FlE.ite (fun _ => h) (fun _ => h)) (fun _ => ?_)
  refine FlE.ite (fun _ => FlE.ite (fun _ => h) (fun _ => h)) (fun _ => ?_)
  refine FlE.ite (fun _ => FlE.ite (fun _ => (h.drop 2).raise _) (fun _ => h)) (fun _ => h)
theorem istep_fuel (s : IS) : (istep G root s).fuel ≤ s.fuel := by
  unfold istep
  split
  · exact Nat.le_refl _
  · exact FlE.step1 (f := s.fuel) (Nat.le_refl _) (Nat.le_refl _)
end

end Go.Proofs.Qxb6500568aGreatDoor
