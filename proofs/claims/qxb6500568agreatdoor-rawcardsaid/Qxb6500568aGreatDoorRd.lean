import Derived.Test.Qxb6500568aGreatDoorQi
/- What an answer tells of the state. -/
namespace Go.Proofs.Qxb6500568aGreatDoor
set_option linter.unusedVariables false
set_option linter.unusedSimpArgs false
set_option linter.unusedSectionVars false

structure D2 (s : AS) : Prop where
  d : s.done = true → s.ans.M = s.first ∧ s.ans.S = s.out
section
variable {Ps : List Proto} {s z z1 z2 : AS}
theorem D2.ite {c : Prop} [Decidable c] (h1 : c → D2 z1) (h2 : ¬ c → D2 z2) : D2 (if c then z1 else z2) := by
  by_cases h : c
  · rw [if_pos h]; exact h1 h
  · rw [if_neg h]; exact h2 h
theorem D2.nd (h : z.done = false) : D2 z := ⟨fun q => by rw [h] at q; cases q⟩
theorem D2.fin {e : Nat} {t : Str} : D2 (afin e t s) := ⟨fun _ => ⟨rfl, rfl⟩⟩
theorem D2.back (h : s.done = false) {ok : Bool} {v : PV} : D2 (aback ok v s) := by
  unfold aback
  cases s.stack with
  | nil => exact .fin
  | cons c r => exact .nd h
theorem D2.thr (h : s.done = false) {v : PV} : D2 (athrow v s) := by
  unfold athrow
  cases unwL s.th.frs with
  | none => exact D2.back (by exact h)
  | some r => exact .nd h
theorem D2.rai (h : s.done = false) {m : Str} : D2 (araise m s) := D2.thr h
theorem D2.jmp (h : s.done = false) {x : Nat} : D2 (ajump x s) := by
  unfold ajump
  exact .ite (fun _ => .ite (fun _ => .fin) fun _ => .nd h) fun _ => .nd h
theorem D2.ret (h : s.done = false) {u v : PV} : D2 (aret u v s) := by
  unfold aret
  cases s.th.frs with
  | nil => exact .nd h
  | cons f r => exact .ite (fun _ => D2.back (by exact h)) fun _ => .ite (fun _ => .nd h) fun _ => .nd h
theorem D2.res (h : s.done = false) {u v : PV} : D2 (aresume Ps u v s) := by
  unfold aresume
  exact .ite (fun _ => .nd h) fun _ => .nd h
theorem D2.cal1 (h : s.done = false) {zs : List PV} {fn : PV} : D2 (acall1 Ps zs fn s) := by
  unfold acall1
  have n : ∀ {z : AS}, z.done = s.done → D2 z := fun q => .nd (q.trans h)
  refine .ite (fun _ => .ite (fun _ => .rai h) fun _ => .nd h) fun _ => .ite (fun _ => .rai h) fun _ => .ite (fun _ => .ite (fun _ => .fin) fun _ => .nd h) fun _ => .ite (fun _ => .nd h) fun _ => .ite (fun _ => .nd h) fun _ => .ite (fun _ => .nd h) fun _ => .ite (fun _ => .thr h) fun _ =>
    .ite (fun _ => .ite (fun _ => .nd h) fun _ => .ite (fun _ => .nd h) fun _ => .nd h) fun _ => .ite (fun _ => .ite (fun _ => .rai h) fun _ => ?_) fun _ => .ite (fun _ => .ite (fun _ => .rai h) fun _ => .ite (fun _ => .fin) fun _ => .nd h) fun _ =>
    .ite (fun _ => .ite (fun _ => .rai h) fun _ => .ite (fun _ => .nd h) fun _ => .res h) fun _ => .ite (fun _ => .ite (fun _ => .rai h) fun _ => ?_) fun _ => .ite (fun _ => .ite (fun _ => .rai h) fun _ => .nd h) fun _ => .rai h
  · rcases tNext (s.tabs.getD (zs.getD 0 vNil).N []) (zs.getD 1 vNil) with _ | ⟨k, v⟩
    · exact .rai h
    · exact .nd h
  · show D2 (match (s.setT { s.th with st := 2 }).stack with | [] => _ | c :: r => _)
    cases (s.setT { s.th with st := 2 }).stack with
    | nil => exact .nd h
    | cons c r => exact .nd h
theorem D2.cal (h : s.done = false) {x : Nat} : D2 (acall Ps x s) := by
  unfold acall
  exact .ite (fun _ => .fin) fun _ => D2.cal1 (by exact h)
theorem D2.pln (h : s.done = false) {op x : Nat} : D2 (aplain Ps op x s) := by
  unfold aplain
  dsimp only
  have hst : ∀ (t k v : PV) (l : List PV), D2 (if t.T ≠ 4 then araise mIndex s else if (tSet (s.tabs.getD t.N []) k v).1 = 8 then afin 8 [45] s else if (tSet (s.tabs.getD t.N []) k v).1 ≠ 0 then araise mKey s else apc ((({ s with tabs := s.tabs.set t.N (tSet (s.tabs.getD t.N []) k v).2 } : AS)).fr.pc + 1) (aops l { s with tabs := s.tabs.set t.N (tSet (s.tabs.getD t.N []) k v).2 })) := fun t k v l =>
    .ite (fun _ => .rai h) fun _ => .ite (fun _ => .fin) fun _ => .ite (fun _ => .rai h) fun _ => .nd h
  refine .ite (fun _ => .nd h) fun _ => .ite (fun _ => .nd h) fun _ => .ite (fun _ => .nd h) fun _ => .ite (fun _ => .nd h) fun _ => .ite (fun _ => .nd h) fun _ => .ite (fun _ => .nd h) fun _ => .ite (fun _ => .nd h) fun _ => .ite (fun _ => .nd h) fun _ => .ite (fun _ => .nd h) fun _ =>
    .ite (fun _ => hst _ _ _ _) fun _ => .ite (fun _ => .ite (fun _ => .rai h) fun _ => .nd h) fun _ => .ite (fun _ => hst _ _ _ _) fun _ => .ite (fun _ => hst _ _ _ _) fun _ => .ite (fun _ => .ite (fun _ => .fin) fun _ => .nd h) fun _ =>
    .ite (fun _ => by split; exact .nd h; exact .rai h) fun _ => .ite (fun _ => by split; exact .nd h; exact .rai h) fun _ => .ite (fun _ => by split; exact .nd h; exact .rai h) fun _ => .ite (fun _ => by split; exact .nd h; exact .rai h) fun _ => .ite (fun _ => by split; exact .nd h; exact .rai h) fun _ => .ite (fun _ => by split; exact .nd h; exact .rai h) fun _ => .ite (fun _ => .nd h) fun _ =>
    .ite (fun _ => .ite (fun _ => .fin) fun _ => .nd h) fun _ => .ite (fun _ => .nd h) fun _ => .ite (fun _ => .ite (fun _ => .ite (fun _ => .rai h) fun _ => .nd h) fun _ => .rai h) fun _ => .ite (fun _ => .nd h) fun _ => .ite (fun _ => .ite (fun _ => .rai h) fun _ => ?_) fun _ => .nd h
  rcases tNext (s.tabs.getD (s.var (s.slot x)).N []) (s.var (s.slot (x + 1))) with _ | ⟨k, v⟩
  · exact .rai h
  · exact .nd h
theorem D2.step (h : s.done = false) : D2 (astep Ps s) := by
  unfold astep
  dsimp only
  rcases (Ps.getD (s.clos.getD s.fr.clo (0, [])).1 Proto.zero).code[s.fr.pc]? with _ | ⟨op, x⟩
  · exact .nd h
  · dsimp only
    exact .ite (fun _ => .jmp h) fun _ => .ite (fun _ => .ite (fun _ => .nd h) fun _ => D2.jmp (by exact h)) fun _ => .ite (fun _ => .ite (fun _ => .jmp h) fun _ => .nd h) fun _ => .ite (fun _ => .cal h) fun _ => .ite (fun _ => .ret h) fun _ => .pln h
end
theorem D2.goN {Ps : List Proto} : ∀ {n : Nat} {a b : AS}, D2 a → GoN Ps n a b → D2 b
  | 0, a, b, h, g => by have g : a = b := g; rw [← g]; exact h
  | n + 1, a, b, h, ⟨op, x, hs, g⟩ => D2.goN (D2.step hs.d) g
end Go.Proofs.Qxb6500568aGreatDoor
