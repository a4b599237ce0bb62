import Derived.Test.Qxb6500568aGreatDoorQi
/- A run's answer has a tail. -/
namespace Go.Proofs.Qxb6500568aGreatDoor
set_option linter.unusedVariables false
set_option linter.unusedSimpArgs false
set_option linter.unusedSectionVars false

/-- an answer's tail is not empty. -/
structure D1 (s : AS) : Prop where
  d : s.done = true → s.ans.T ≠ []
section
variable {Ps : List Proto} {s z z1 z2 : AS}
theorem D1.ite {c : Prop} [Decidable c] (h1 : c → D1 z1) (h2 : ¬ c → D1 z2) : D1 (if c then z1 else z2) := by
  by_cases h : c
  · rw [if_pos h]; exact h1 h
  · rw [if_neg h]; exact h2 h
theorem D1.setT (h : D1 s) {t : ATh} : D1 (s.setT t) := ⟨h.d⟩
theorem D1.same (h : D1 s) (h1 : z.done = s.done) (h2 : z.ans = s.ans) : D1 z := by
  refine ⟨?_⟩
  rw [h1, h2]
  exact h.d
theorem D1.ops (h : D1 s) {l : List PV} : D1 (aops l s) := h.setT
theorem D1.pc (h : D1 s) {x : Nat} : D1 (apc x s) := h.setT
theorem D1.nx (h : D1 s) {l : List PV} {x : Nat} : D1 (apc x (aops l s)) := h.ops.pc
theorem D1.set (h : D1 s) {i : Nat} {v : PV} : D1 (aset i v s) := h.same rfl rfl
theorem D1.push (h : D1 s) {u v : PV} : D1 (apush2 u v s) := h.setT
theorem D1.fin (h : D1 s) {e : Nat} {c : UInt8} {t : Str} : D1 (afin e (c :: t) s) := ⟨fun _ q => by cases q⟩
theorem shV_ne (v : PV) : shV v ≠ [] := by
  unfold shV
  intro q
  split at q
  · simp at q
  · split at q <;> simp at q
theorem D1.cur (h : D1 s) (h4 : (thA s.ths s.cur).st ≠ 1) {c : Nat} {r : List Nat} : D1 { s with stack := r, cur := c } := ⟨h.d⟩
theorem D1.back (h : D1 s) (h4 : (thA s.ths s.cur).st ≠ 1) {ok : Bool} {v : PV} : D1 (aback ok v s) := by
  unfold aback
  cases s.stack with
  | nil => exact ⟨fun _ q => shV_ne v q⟩
  | cons c r => exact D1.push (D1.setT (h.cur h4))
theorem D1.thr (h : D1 s) {v : PV} : D1 (athrow v s) := by
  unfold athrow
  cases unwL s.th.frs with
  | none => exact D1.back h.setT (st_set (by dsimp only; decide))
  | some r => exact D1.push h.setT
theorem D1.rai (h : D1 s) {m : Str} : D1 (araise m s) := h.thr
theorem D1.jmp (h : D1 s) {x : Nat} : D1 (ajump x s) := by
  unfold ajump
  exact .ite (fun _ => .ite (fun _ => h.fin) fun _ => D1.pc (by exact h.same rfl rfl)) fun _ => h.pc
theorem D1.ret (h : D1 s) {u v : PV} : D1 (aret u v s) := by
  unfold aret
  cases s.th.frs with
  | nil => exact h
  | cons f r => exact .ite (fun _ => D1.back h.setT (st_set (by dsimp only; decide))) fun _ => .ite (fun _ => D1.push h.setT) fun _ => D1.push h.setT
theorem D1.ent (h : D1 s) {c : Nat} {zs : List PV} {p : Bool} : D1 (aenter Ps c zs p s) := by
  unfold aenter
  exact D1.setT (by exact h.same rfl rfl)
theorem D1.res (h : D1 s) {u v : PV} : D1 (aresume Ps u v s) := by
  unfold aresume
  have h2 : D1 ({ s.setT { s.th with st := 3 } with stack := (s.setT { s.th with st := 3 }).cur :: (s.setT { s.th with st := 3 }).stack, cur := u.N } : AS) := (h.setT).cur (st_set (by dsimp only; decide))
  exact .ite (fun _ => D1.ent (by exact ⟨h.d⟩)) fun _ => D1.push h2.setT
theorem D1.spn (h : D1 s) {n : Nat} : D1 { s with ths := s.ths ++ [⟨1, n, []⟩] } := ⟨h.d⟩
theorem D1.cal1 (h : D1 s) {zs : List PV} {fn : PV} : D1 (acall1 Ps zs fn s) := by
  unfold acall1
  refine .ite (fun _ => .ite (fun _ => h.rai) fun _ => h.ent) fun _ => .ite (fun _ => h.rai) fun _ => .ite (fun _ => .ite (fun _ => h.fin) fun _ => D1.push (by exact h.same rfl rfl)) fun _ => .ite (fun _ => h.push) fun _ => .ite (fun _ => h.push) fun _ => .ite (fun _ => h.push) fun _ => .ite (fun _ => h.thr) fun _ =>
    .ite (fun _ => .ite (fun _ => h.push) fun _ => .ite (fun _ => h.push) fun _ => h.ent) fun _ => .ite (fun _ => .ite (fun _ => h.rai) fun _ => ?_) fun _ => .ite (fun _ => .ite (fun _ => h.rai) fun _ => .ite (fun _ => h.fin) fun _ => D1.push h.spn) fun _ =>
    .ite (fun _ => .ite (fun _ => h.rai) fun _ => .ite (fun _ => h.push) fun _ => h.res) fun _ => .ite (fun _ => .ite (fun _ => h.rai) fun _ => ?_) fun _ => .ite (fun _ => .ite (fun _ => h.rai) fun _ => h.push) fun _ => h.rai
  · rcases tNext (s.tabs.getD (zs.getD 0 vNil).N []) (zs.getD 1 vNil) with _ | ⟨k, v⟩
    · exact h.rai
    · exact h.push
  · show D1 (match (s.setT { s.th with st := 2 }).stack with | [] => _ | c :: r => _)
    cases (s.setT { s.th with st := 2 }).stack with
    | nil => exact h.setT
    | cons c r => exact D1.push (D1.setT ((h.setT).cur (st_set (by dsimp only; decide))))
theorem D1.cal (h : D1 s) {x : Nat} : D1 (acall Ps x s) := by
  unfold acall
  exact .ite (fun _ => h.fin) fun _ => D1.cal1 (D1.nx (s := { s with fuel := s.fuel - 1 }) (by exact h.same rfl rfl))
theorem D1.clo (h : D1 s) {x : Nat} : D1 (aclose x s) := by
  unfold aclose
  exact D1.setT (by exact h.same rfl rfl)
theorem D1.pln (h : D1 s) {op x : Nat} : D1 (aplain Ps op x s) := by
  unfold aplain
  dsimp only
  have hst : ∀ (t k v : PV) (l : List PV), D1 (if t.T ≠ 4 then araise mIndex s else if (tSet (s.tabs.getD t.N []) k v).1 = 8 then afin 8 [45] s else if (tSet (s.tabs.getD t.N []) k v).1 ≠ 0 then araise mKey s else apc ((({ s with tabs := s.tabs.set t.N (tSet (s.tabs.getD t.N []) k v).2 } : AS)).fr.pc + 1) (aops l { s with tabs := s.tabs.set t.N (tSet (s.tabs.getD t.N []) k v).2 })) := fun t k v l =>
    .ite (fun _ => h.rai) fun _ => .ite (fun _ => h.fin) fun _ => .ite (fun _ => h.rai) fun _ => D1.nx (by exact h.same rfl rfl)
  refine .ite (fun _ => h.nx) fun _ => .ite (fun _ => h.nx) fun _ => .ite (fun _ => h.nx) fun _ => .ite (fun _ => h.nx) fun _ => .ite (fun _ => h.nx) fun _ => .ite (fun _ => h.set.nx) fun _ => .ite (fun _ => h.nx) fun _ => .ite (fun _ => h.set.nx) fun _ => .ite (fun _ => h.nx) fun _ =>
    .ite (fun _ => hst _ _ _ _) fun _ => .ite (fun _ => .ite (fun _ => h.rai) fun _ => h.nx) fun _ => .ite (fun _ => hst _ _ _ _) fun _ => .ite (fun _ => hst _ _ _ _) fun _ => .ite (fun _ => .ite (fun _ => h.fin) fun _ => D1.nx (by exact h.same rfl rfl)) fun _ =>
    .ite (fun _ => by split; exact h.nx; exact h.rai) fun _ => .ite (fun _ => by split; exact h.nx; exact h.rai) fun _ => .ite (fun _ => by split; exact h.nx; exact h.rai) fun _ => .ite (fun _ => by split; exact h.nx; exact h.rai) fun _ => .ite (fun _ => by split; exact h.nx; exact h.rai) fun _ => .ite (fun _ => by split; exact h.nx; exact h.rai) fun _ => .ite (fun _ => h.nx) fun _ =>
    .ite (fun _ => .ite (fun _ => h.fin) fun _ => D1.nx (by exact h.same rfl rfl)) fun _ => .ite (fun _ => h.clo.nx) fun _ => .ite (fun _ => .ite (fun _ => .ite (fun _ => h.rai) fun _ => h.nx) fun _ => h.rai) fun _ => .ite (fun _ => h.nx) fun _ => .ite (fun _ => .ite (fun _ => h.rai) fun _ => ?_) fun _ => h
  rcases tNext (s.tabs.getD (s.var (s.slot x)).N []) (s.var (s.slot (x + 1))) with _ | ⟨k, v⟩
  · exact h.rai
  · exact h.set.set.set.nx
theorem D1.step (h : D1 s) : D1 (astep Ps s) := by
  unfold astep
  dsimp only
  rcases (Ps.getD (s.clos.getD s.fr.clo (0, [])).1 Proto.zero).code[s.fr.pc]? with _ | ⟨op, x⟩
  · exact h
  · dsimp only
    exact .ite (fun _ => h.jmp) fun _ => .ite (fun _ => .ite (fun _ => h.nx) fun _ => h.ops.jmp) fun _ => .ite (fun _ => .ite (fun _ => h.jmp) fun _ => h.nx) fun _ => .ite (fun _ => h.cal) fun _ => .ite (fun _ => h.ret) fun _ => h.pln
end
theorem D1.goN {Ps : List Proto} : ∀ {n : Nat} {a b : AS}, D1 a → GoN Ps n a b → D1 b
  | 0, a, b, h, g => by have g : a = b := g; rw [← g]; exact h
  | n + 1, a, b, h, ⟨op, x, _, g⟩ => D1.goN h.step g
end Go.Proofs.Qxb6500568aGreatDoor
