import Derived.Test.Qxb6500568aGreatDoorHw
/- Runs of the machine of variables: their length; tables never go. -/
namespace Go.Proofs.Qxb6500568aGreatDoor
set_option linter.unusedVariables false
set_option linter.unusedSimpArgs false
set_option linter.unusedSectionVars false

/-- a run of n sound steps. -/
def GoN (Ps : List Proto) : Nat → AS → AS → Prop
  | 0, a, b => a = b
  | n + 1, a, b => ∃ op x, Snd Ps a op x ∧ GoN Ps n (astep Ps a) b
theorem Go.toN {Ps : List Proto} {a b : AS} (h : Go Ps a b) : ∃ n, GoN Ps n a b :=
  h (fun a b => ∃ n, GoN Ps n a b) (fun a => ⟨0, rfl⟩) (fun a op x b hs ⟨n, hn⟩ => ⟨n + 1, op, x, hs, hn⟩)

/-- no table goes. -/
def TL (s z : AS) : Prop := s.tabs.length ≤ z.tabs.length
section
variable {Ps : List Proto} {s z1 z2 : AS}
theorem TL.rfl' : TL s s := Nat.le_refl _
theorem TL.of (h : z1.tabs = s.tabs) : TL s z1 := by unfold TL; rw [h]; exact Nat.le_refl _
theorem TL.tr (h : TL s z1) (k : TL z1 z2) : TL s z2 := Nat.le_trans h k
theorem TL.ite {c : Prop} [Decidable c] (h1 : c → TL s z1) (h2 : ¬ c → TL s z2) : TL s (if c then z1 else z2) := by
  by_cases h : c
  · rw [if_pos h]; exact h1 h
  · rw [if_neg h]; exact h2 h
theorem tb_back {ok : Bool} {v : PV} : (aback ok v s).tabs = s.tabs := by
  unfold aback
  cases s.stack <;> rfl
theorem tb_throw {v : PV} : (athrow v s).tabs = s.tabs := by
  unfold athrow
  cases unwL s.th.frs with
  | none => exact tb_back
  | some r => rfl
theorem TL.thr {v : PV} : TL s (athrow v s) := TL.of tb_throw
theorem TL.rai {m : Str} : TL s (araise m s) := TL.of tb_throw
theorem TL.fin {e : Nat} {t : Str} : TL s (afin e t s) := TL.of rfl
theorem TL.jmp {x : Nat} : TL s (ajump x s) := by
  unfold ajump
  exact .ite (fun _ => .ite (fun _ => .of rfl) fun _ => .of rfl) fun _ => .of rfl
theorem TL.ret {u v : PV} : TL s (aret u v s) := by
  unfold aret
  cases s.th.frs with
  | nil => exact .rfl'
  | cons f r => exact .ite (fun _ => .of tb_back) fun _ => .ite (fun _ => .of rfl) fun _ => .of rfl
theorem TL.ent {c : Nat} {zs : List PV} {p : Bool} : TL s (aenter Ps c zs p s) := .of rfl
theorem TL.res {u v : PV} : TL s (aresume Ps u v s) := by
  unfold aresume
  exact .ite (fun _ => .of rfl) fun _ => .of rfl
theorem TL.cal1 {zs : List PV} {fn : PV} : TL s (acall1 Ps zs fn s) := by
  unfold acall1
  refine .ite (fun _ => .ite (fun _ => .rai) fun _ => .ent) fun _ => .ite (fun _ => .rai) fun _ => .ite (fun _ => .ite (fun _ => .fin) fun _ => .of rfl) fun _ => .ite (fun _ => .of rfl) fun _ => .ite (fun _ => .of rfl) fun _ => .ite (fun _ => .of rfl) fun _ => .ite (fun _ => .thr) fun _ =>
    .ite (fun _ => .ite (fun _ => .of rfl) fun _ => .ite (fun _ => .of rfl) fun _ => .ent) fun _ => .ite (fun _ => .ite (fun _ => .rai) fun _ => ?_) fun _ => .ite (fun _ => .ite (fun _ => .rai) fun _ => .ite (fun _ => .fin) fun _ => .of rfl) fun _ =>
    .ite (fun _ => .ite (fun _ => .rai) fun _ => .ite (fun _ => .of rfl) fun _ => .res) fun _ => .ite (fun _ => .ite (fun _ => .rai) fun _ => ?_) fun _ => .ite (fun _ => .ite (fun _ => .rai) fun _ => .of rfl) fun _ => .rai
  · rcases tNext (s.tabs.getD (zs.getD 0 vNil).N []) (zs.getD 1 vNil) with _ | ⟨k, v⟩
    · exact .rai
    · exact .of rfl
  · show TL s (match (s.setT { s.th with st := 2 }).stack with | [] => _ | c :: r => _)
    cases (s.setT { s.th with st := 2 }).stack <;> exact .of rfl
theorem TL.cal {x : Nat} : TL s (acall Ps x s) := by
  unfold acall
  exact .ite (fun _ => .fin) fun _ => (TL.of (z1 := apc (s.fr.pc + 1) (aops (s.fr.ops.drop (x + 1)) { s with fuel := s.fuel - 1 })) rfl).tr .cal1
theorem TL.pln {op x : Nat} : TL s (aplain Ps op x s) := by
  unfold aplain
  dsimp only
  have hst : ∀ (t k v : PV) (l : List PV), TL s (if t.T ≠ 4 then araise mIndex s else if (tSet (s.tabs.getD t.N []) k v).1 = 8 then afin 8 [45] s else if (tSet (s.tabs.getD t.N []) k v).1 ≠ 0 then araise mKey s else apc ((({ s with tabs := s.tabs.set t.N (tSet (s.tabs.getD t.N []) k v).2 } : AS)).fr.pc + 1) (aops l { s with tabs := s.tabs.set t.N (tSet (s.tabs.getD t.N []) k v).2 })) := fun t k v l =>
    .ite (fun _ => .rai) fun _ => .ite (fun _ => .fin) fun _ => .ite (fun _ => .rai) fun _ => by
      show s.tabs.length ≤ (s.tabs.set _ _).length
      rw [List.length_set]; exact Nat.le_refl _
  refine .ite (fun _ => .of rfl) fun _ => .ite (fun _ => .of rfl) fun _ => .ite (fun _ => .of rfl) fun _ => .ite (fun _ => .of rfl) fun _ => .ite (fun _ => .of rfl) fun _ => .ite (fun _ => .of rfl) fun _ => .ite (fun _ => .of rfl) fun _ => .ite (fun _ => .of rfl) fun _ => .ite (fun _ => .of rfl) fun _ =>
    .ite (fun _ => hst _ _ _ _) fun _ => .ite (fun _ => .ite (fun _ => .rai) fun _ => .of rfl) fun _ => .ite (fun _ => hst _ _ _ _) fun _ => .ite (fun _ => hst _ _ _ _) fun _ => .ite (fun _ => .ite (fun _ => .fin) fun _ => ?_) fun _ =>
    .ite (fun _ => by split; exact .of rfl; exact .rai) fun _ => .ite (fun _ => by split; exact .of rfl; exact .rai) fun _ => .ite (fun _ => by split; exact .of rfl; exact .rai) fun _ => .ite (fun _ => by split; exact .of rfl; exact .rai) fun _ => .ite (fun _ => by split; exact .of rfl; exact .rai) fun _ => .ite (fun _ => by split; exact .of rfl; exact .rai) fun _ => .ite (fun _ => .of rfl) fun _ =>
    .ite (fun _ => .ite (fun _ => .fin) fun _ => .of rfl) fun _ => .ite (fun _ => .of rfl) fun _ => .ite (fun _ => .ite (fun _ => .ite (fun _ => .rai) fun _ => .of rfl) fun _ => .rai) fun _ => .ite (fun _ => .of rfl) fun _ => .ite (fun _ => .ite (fun _ => .rai) fun _ => ?_) fun _ => .rfl'
  · show s.tabs.length ≤ (s.tabs ++ [[]]).length
    rw [List.length_append]; omega
  · rcases tNext (s.tabs.getD (s.var (s.slot x)).N []) (s.var (s.slot (x + 1))) with _ | ⟨k, v⟩
    · exact .rai
    · exact .of rfl
theorem TL.step : TL s (astep Ps s) := by
  unfold astep
  dsimp only
  rcases (Ps.getD (s.clos.getD s.fr.clo (0, [])).1 Proto.zero).code[s.fr.pc]? with _ | ⟨op, x⟩
  · exact .rfl'
  · dsimp only
    exact .ite (fun _ => .jmp) fun _ => .ite (fun _ => .ite (fun _ => .of rfl) fun _ => (TL.of (z1 := aops s.fr.ops.tail s) rfl).tr .jmp) fun _ => .ite (fun _ => .ite (fun _ => .jmp) fun _ => .of rfl) fun _ => .ite (fun _ => .cal) fun _ => .ite (fun _ => .ret) fun _ => .pln
end
/-- a thread that has not begun has no frames (but for the one at hand). -/
def N1 (s : AS) : Prop := ∀ c, c ≠ s.cur → (thA s.ths c).st = 1 → (thA s.ths c).frs = []
section
variable {Ps : List Proto} {s z z1 z2 : AS}
theorem N1.ite {c : Prop} [Decidable c] (h1 : c → N1 z1) (h2 : ¬ c → N1 z2) : N1 (if c then z1 else z2) := by
  by_cases h : c
  · rw [if_pos h]; exact h1 h
  · rw [if_neg h]; exact h2 h
theorem N1.setT (h : N1 s) {t : ATh} : N1 (s.setT t) := fun c hc => by
  have hc : c ≠ s.cur := hc
  unfold thA AS.setT
  dsimp only
  rw [getD_ne hc]
  exact h c hc
theorem N1.same (h : N1 s) (h1 : z.ths = s.ths) (h2 : z.cur = s.cur) : N1 z := by
  unfold N1
  rw [h1, h2]
  exact h
theorem N1.ops (h : N1 s) {l : List PV} : N1 (aops l s) := h.setT
theorem N1.pc (h : N1 s) {x : Nat} : N1 (apc x s) := h.setT
theorem N1.nx (h : N1 s) {l : List PV} {x : Nat} : N1 (apc x (aops l s)) := h.ops.pc
theorem N1.set (h : N1 s) {i : Nat} {v : PV} : N1 (aset i v s) := h.same rfl rfl
theorem N1.push (h : N1 s) {u v : PV} : N1 (apush2 u v s) := h.setT
theorem N1.fin (h : N1 s) {e : Nat} {t : Str} : N1 (afin e t s) := h.same rfl rfl
theorem st_set {t : ATh} (h : t.st ≠ 1) : (thA (s.setT t).ths s.cur).st ≠ 1 := by
  unfold thA AS.setT
  dsimp only
  rw [List.getD_eq_getElem?_getD, List.getElem?_set, if_pos rfl]
  split
  · exact h
  · exact (by decide : ATh.zero.st ≠ 1)
theorem N1.cur (h : N1 s) (h4 : (thA s.ths s.cur).st ≠ 1) {c : Nat} {r : List Nat} : N1 { s with stack := r, cur := c } := by
  intro d hd hs
  by_cases q : d = s.cur
  · subst q; exact absurd hs h4
  · exact h d q hs
theorem N1.back (h : N1 s) (h4 : (thA s.ths s.cur).st ≠ 1) {ok : Bool} {v : PV} : N1 (aback ok v s) := by
  unfold aback
  cases s.stack with
  | nil => exact h.fin
  | cons c r => exact N1.push (N1.setT (h.cur h4))
theorem N1.thr (h : N1 s) {v : PV} : N1 (athrow v s) := by
  unfold athrow
  cases unwL s.th.frs with
  | none => exact N1.back h.setT (st_set (by dsimp only; decide))
  | some r => exact N1.push h.setT
theorem N1.rai (h : N1 s) {m : Str} : N1 (araise m s) := h.thr
theorem N1.jmp (h : N1 s) {x : Nat} : N1 (ajump x s) := by
  unfold ajump
  exact .ite (fun _ => .ite (fun _ => h.fin) fun _ => N1.pc (h.same rfl rfl)) fun _ => h.pc
theorem N1.ret (h : N1 s) {u v : PV} : N1 (aret u v s) := by
  unfold aret
  cases s.th.frs with
  | nil => exact h
  | cons f r => exact .ite (fun _ => N1.back h.setT (st_set (by dsimp only; decide))) fun _ => .ite (fun _ => N1.push h.setT) fun _ => N1.push h.setT
theorem N1.ent (h : N1 s) {c : Nat} {zs : List PV} {p : Bool} : N1 (aenter Ps c zs p s) := by
  unfold aenter
  exact N1.setT (h.same rfl rfl)
theorem N1.res (h : N1 s) {u v : PV} : N1 (aresume Ps u v s) := by
  unfold aresume
  have h2 : N1 ({ s.setT { s.th with st := 3 } with stack := (s.setT { s.th with st := 3 }).cur :: (s.setT { s.th with st := 3 }).stack, cur := u.N } : AS) := (h.setT).cur (st_set (by dsimp only; decide))
  exact .ite (fun _ => N1.ent (N1.same h2.setT rfl rfl)) fun _ => N1.push h2.setT
theorem N1.spn (h : N1 s) {n : Nat} : N1 { s with ths := s.ths ++ [⟨1, n, []⟩] } := by
  intro c hc hs
  have h0 := h c hc
  unfold thA at h0 hs ⊢
  dsimp only at hs ⊢
  rw [List.getD_eq_getElem?_getD] at h0 hs ⊢
  rw [List.getElem?_append] at hs ⊢
  split at hs
  · rename_i q; rw [if_pos q]; exact h0 hs
  · rename_i q
    rw [if_neg q]
    generalize c - s.ths.length = k at *
    cases k with
    | zero => rfl
    | succ k => simp at hs; cases hs
theorem N1.cal1 (h : N1 s) {zs : List PV} {fn : PV} : N1 (acall1 Ps zs fn s) := by
  unfold acall1
  refine .ite (fun _ => .ite (fun _ => h.rai) fun _ => h.ent) fun _ => .ite (fun _ => h.rai) fun _ => .ite (fun _ => .ite (fun _ => h.fin) fun _ => N1.push (h.same rfl rfl)) fun _ => .ite (fun _ => h.push) fun _ => .ite (fun _ => h.push) fun _ => .ite (fun _ => h.push) fun _ => .ite (fun _ => h.thr) fun _ =>
    .ite (fun _ => .ite (fun _ => h.push) fun _ => .ite (fun _ => h.push) fun _ => h.ent) fun _ => .ite (fun _ => .ite (fun _ => h.rai) fun _ => ?_) fun _ => .ite (fun _ => .ite (fun _ => h.rai) fun _ => .ite (fun _ => h.fin) fun _ => N1.push h.spn) fun _ =>
    .ite (fun _ => .ite (fun _ => h.rai) fun _ => .ite (fun _ => h.push) fun _ => h.res) fun _ => .ite (fun _ => .ite (fun _ => h.rai) fun _ => ?_) fun _ => .ite (fun _ => .ite (fun _ => h.rai) fun _ => h.push) fun _ => h.rai
  · rcases tNext (s.tabs.getD (zs.getD 0 vNil).N []) (zs.getD 1 vNil) with _ | ⟨k, v⟩
    · exact h.rai
    · exact h.push
  · show N1 (match (s.setT { s.th with st := 2 }).stack with | [] => _ | c :: r => _)
    cases (s.setT { s.th with st := 2 }).stack with
    | nil => exact h.setT
    | cons c r => exact N1.push (N1.setT ((h.setT).cur (st_set (by dsimp only; decide))))
theorem N1.cal (h : N1 s) {x : Nat} : N1 (acall Ps x s) := by
  unfold acall
  exact .ite (fun _ => h.fin) fun _ => N1.cal1 (N1.nx (s := { s with fuel := s.fuel - 1 }) (h.same rfl rfl))
theorem N1.clo (h : N1 s) {x : Nat} : N1 (aclose x s) := by
  unfold aclose
  exact N1.setT (h.same rfl rfl)
theorem N1.pln (h : N1 s) {op x : Nat} : N1 (aplain Ps op x s) := by
  unfold aplain
  dsimp only
  have hst : ∀ (t k v : PV) (l : List PV), N1 (if t.T ≠ 4 then araise mIndex s else if (tSet (s.tabs.getD t.N []) k v).1 = 8 then afin 8 [45] s else if (tSet (s.tabs.getD t.N []) k v).1 ≠ 0 then araise mKey s else apc ((({ s with tabs := s.tabs.set t.N (tSet (s.tabs.getD t.N []) k v).2 } : AS)).fr.pc + 1) (aops l { s with tabs := s.tabs.set t.N (tSet (s.tabs.getD t.N []) k v).2 })) := fun t k v l =>
    .ite (fun _ => h.rai) fun _ => .ite (fun _ => h.fin) fun _ => .ite (fun _ => h.rai) fun _ => N1.nx (h.same rfl rfl)
  refine .ite (fun _ => h.nx) fun _ => .ite (fun _ => h.nx) fun _ => .ite (fun _ => h.nx) fun _ => .ite (fun _ => h.nx) fun _ => .ite (fun _ => h.nx) fun _ => .ite (fun _ => h.set.nx) fun _ => .ite (fun _ => h.nx) fun _ => .ite (fun _ => h.set.nx) fun _ => .ite (fun _ => h.nx) fun _ =>
    .ite (fun _ => hst _ _ _ _) fun _ => .ite (fun _ => .ite (fun _ => h.rai) fun _ => h.nx) fun _ => .ite (fun _ => hst _ _ _ _) fun _ => .ite (fun _ => hst _ _ _ _) fun _ => .ite (fun _ => .ite (fun _ => h.fin) fun _ => N1.nx (h.same rfl rfl)) fun _ =>
    .ite (fun _ => by split; exact h.nx; exact h.rai) fun _ => .ite (fun _ => by split; exact h.nx; exact h.rai) fun _ => .ite (fun _ => by split; exact h.nx; exact h.rai) fun _ => .ite (fun _ => by split; exact h.nx; exact h.rai) fun _ => .ite (fun _ => by split; exact h.nx; exact h.rai) fun _ => .ite (fun _ => by split; exact h.nx; exact h.rai) fun _ => .ite (fun _ => h.nx) fun _ =>
    .ite (fun _ => .ite (fun _ => h.fin) fun _ => N1.nx (h.same rfl rfl)) fun _ => .ite (fun _ => h.clo.nx) fun _ => .ite (fun _ => .ite (fun _ => .ite (fun _ => h.rai) fun _ => h.nx) fun _ => h.rai) fun _ => .ite (fun _ => h.nx) fun _ => .ite (fun _ => .ite (fun _ => h.rai) fun _ => ?_) fun _ => h
  rcases tNext (s.tabs.getD (s.var (s.slot x)).N []) (s.var (s.slot (x + 1))) with _ | ⟨k, v⟩
  · exact h.rai
  · exact h.set.set.set.nx
theorem N1.step (h : N1 s) : N1 (astep Ps s) := by
  unfold astep
  dsimp only
  rcases (Ps.getD (s.clos.getD s.fr.clo (0, [])).1 Proto.zero).code[s.fr.pc]? with _ | ⟨op, x⟩
  · exact h
  · dsimp only
    exact .ite (fun _ => h.jmp) fun _ => .ite (fun _ => .ite (fun _ => h.nx) fun _ => h.ops.jmp) fun _ => .ite (fun _ => .ite (fun _ => h.jmp) fun _ => h.nx) fun _ => .ite (fun _ => h.cal) fun _ => .ite (fun _ => h.ret) fun _ => h.pln
end
/-- the first resumes and the fuel. -/
structure FfB (N : Nat) (s : AS) : Prop where
  d : s.first + s.fuel ≤ N
section
variable {N : Nat} {Ps : List Proto} {s z z1 z2 : AS}
theorem FfB.ite {c : Prop} [Decidable c] (h1 : c → FfB N z1) (h2 : ¬ c → FfB N z2) : FfB N (if c then z1 else z2) := by
  by_cases h : c
  · rw [if_pos h]; exact h1 h
  · rw [if_neg h]; exact h2 h
theorem FfB.setT (h : FfB N s) {t : ATh} : FfB N (s.setT t) := ⟨h.d⟩
theorem FfB.same (h : FfB N s) (h1 : z.first = s.first) (h2 : z.fuel = s.fuel) : FfB N z := by
  refine ⟨?_⟩
  rw [h1, h2]
  exact h.d
theorem FfB.ops (h : FfB N s) {l : List PV} : FfB N (aops l s) := h.setT
theorem FfB.pc (h : FfB N s) {x : Nat} : FfB N (apc x s) := h.setT
theorem FfB.nx (h : FfB N s) {l : List PV} {x : Nat} : FfB N (apc x (aops l s)) := h.ops.pc
theorem FfB.set (h : FfB N s) {i : Nat} {v : PV} : FfB N (aset i v s) := h.same rfl rfl
theorem FfB.push (h : FfB N s) {u v : PV} : FfB N (apush2 u v s) := h.setT
theorem FfB.fin (h : FfB N s) {e : Nat} {t : Str} : FfB N (afin e t s) := ⟨h.d⟩
theorem FfB.cur (h : FfB N s) (h4 : (thA s.ths s.cur).st ≠ 1) {c : Nat} {r : List Nat} : FfB N { s with stack := r, cur := c } := ⟨h.d⟩
theorem FfB.back (h : FfB N s) (h4 : (thA s.ths s.cur).st ≠ 1) {ok : Bool} {v : PV} : FfB N (aback ok v s) := by
  unfold aback
  cases s.stack with
  | nil => exact h.fin
  | cons c r => exact FfB.push (FfB.setT (h.cur h4))
theorem FfB.thr (h : FfB N s) {v : PV} : FfB N (athrow v s) := by
  unfold athrow
  cases unwL s.th.frs with
  | none => exact FfB.back h.setT (st_set (by dsimp only; decide))
  | some r => exact FfB.push h.setT
theorem FfB.rai (h : FfB N s) {m : Str} : FfB N (araise m s) := h.thr
theorem FfB.jmp (h : FfB N s) {x : Nat} : FfB N (ajump x s) := by
  unfold ajump
  exact .ite (fun _ => .ite (fun _ => h.fin) fun _ => FfB.pc (by exact ⟨by have := h.d; show s.first + (s.fuel - 1) ≤ N; omega⟩)) fun _ => h.pc
theorem FfB.ret (h : FfB N s) {u v : PV} : FfB N (aret u v s) := by
  unfold aret
  cases s.th.frs with
  | nil => exact h
  | cons f r => exact .ite (fun _ => FfB.back h.setT (st_set (by dsimp only; decide))) fun _ => .ite (fun _ => FfB.push h.setT) fun _ => FfB.push h.setT
theorem FfB.ent (h : FfB N s) {c : Nat} {zs : List PV} {p : Bool} : FfB N (aenter Ps c zs p s) := by
  unfold aenter
  exact FfB.setT (by exact h.same rfl rfl)
theorem FfB.res (h : s.first + 1 + s.fuel ≤ N) {u v : PV} : FfB N (aresume Ps u v s) := by
  unfold aresume
  exact .ite (fun _ => FfB.ent (by exact ⟨h⟩)) fun _ => FfB.push (by exact ⟨by show s.first + s.fuel ≤ N; omega⟩)
theorem FfB.spn (h : FfB N s) {n : Nat} : FfB N { s with ths := s.ths ++ [⟨1, n, []⟩] } := ⟨h.d⟩
theorem FfB.cal1 (h9 : s.first + 1 + s.fuel ≤ N) {zs : List PV} {fn : PV} : FfB N (acall1 Ps zs fn s) := by
  have h : FfB N s := ⟨by omega⟩
  unfold acall1
  refine .ite (fun _ => .ite (fun _ => h.rai) fun _ => h.ent) fun _ => .ite (fun _ => h.rai) fun _ => .ite (fun _ => .ite (fun _ => h.fin) fun _ => FfB.push (by exact h.same rfl rfl)) fun _ => .ite (fun _ => h.push) fun _ => .ite (fun _ => h.push) fun _ => .ite (fun _ => h.push) fun _ => .ite (fun _ => h.thr) fun _ =>
    .ite (fun _ => .ite (fun _ => h.push) fun _ => .ite (fun _ => h.push) fun _ => h.ent) fun _ => .ite (fun _ => .ite (fun _ => h.rai) fun _ => ?_) fun _ => .ite (fun _ => .ite (fun _ => h.rai) fun _ => .ite (fun _ => h.fin) fun _ => FfB.push h.spn) fun _ =>
    .ite (fun _ => .ite (fun _ => h.rai) fun _ => .ite (fun _ => h.push) fun _ => FfB.res h9) fun _ => .ite (fun _ => .ite (fun _ => h.rai) fun _ => ?_) fun _ => .ite (fun _ => .ite (fun _ => h.rai) fun _ => h.push) fun _ => h.rai
  · rcases tNext (s.tabs.getD (zs.getD 0 vNil).N []) (zs.getD 1 vNil) with _ | ⟨k, v⟩
    · exact h.rai
    · exact h.push
  · show FfB N (match (s.setT { s.th with st := 2 }).stack with | [] => _ | c :: r => _)
    cases (s.setT { s.th with st := 2 }).stack with
    | nil => exact h.setT
    | cons c r => exact FfB.push (FfB.setT ((h.setT).cur (st_set (by dsimp only; decide))))
theorem FfB.cal (h : FfB N s) {x : Nat} : FfB N (acall Ps x s) := by
  unfold acall
  exact .ite (fun _ => h.fin) fun q => FfB.cal1 (by have := h.d; show s.first + 1 + (s.fuel - 1) ≤ N; omega)
theorem FfB.clo (h : FfB N s) {x : Nat} : FfB N (aclose x s) := by
  unfold aclose
  exact FfB.setT (by exact h.same rfl rfl)
theorem FfB.pln (h : FfB N s) {op x : Nat} : FfB N (aplain Ps op x s) := by
  unfold aplain
  dsimp only
  have hst : ∀ (t k v : PV) (l : List PV), FfB N (if t.T ≠ 4 then araise mIndex s else if (tSet (s.tabs.getD t.N []) k v).1 = 8 then afin 8 [45] s else if (tSet (s.tabs.getD t.N []) k v).1 ≠ 0 then araise mKey s else apc ((({ s with tabs := s.tabs.set t.N (tSet (s.tabs.getD t.N []) k v).2 } : AS)).fr.pc + 1) (aops l { s with tabs := s.tabs.set t.N (tSet (s.tabs.getD t.N []) k v).2 })) := fun t k v l =>
    .ite (fun _ => h.rai) fun _ => .ite (fun _ => h.fin) fun _ => .ite (fun _ => h.rai) fun _ => FfB.nx (by exact h.same rfl rfl)
  refine .ite (fun _ => h.nx) fun _ => .ite (fun _ => h.nx) fun _ => .ite (fun _ => h.nx) fun _ => .ite (fun _ => h.nx) fun _ => .ite (fun _ => h.nx) fun _ => .ite (fun _ => h.set.nx) fun _ => .ite (fun _ => h.nx) fun _ => .ite (fun _ => h.set.nx) fun _ => .ite (fun _ => h.nx) fun _ =>
    .ite (fun _ => hst _ _ _ _) fun _ => .ite (fun _ => .ite (fun _ => h.rai) fun _ => h.nx) fun _ => .ite (fun _ => hst _ _ _ _) fun _ => .ite (fun _ => hst _ _ _ _) fun _ => .ite (fun _ => .ite (fun _ => h.fin) fun _ => FfB.nx (by exact h.same rfl rfl)) fun _ =>
    .ite (fun _ => by split; exact h.nx; exact h.rai) fun _ => .ite (fun _ => by split; exact h.nx; exact h.rai) fun _ => .ite (fun _ => by split; exact h.nx; exact h.rai) fun _ => .ite (fun _ => by split; exact h.nx; exact h.rai) fun _ => .ite (fun _ => by split; exact h.nx; exact h.rai) fun _ => .ite (fun _ => by split; exact h.nx; exact h.rai) fun _ => .ite (fun _ => h.nx) fun _ =>
    .ite (fun _ => .ite (fun _ => h.fin) fun _ => FfB.nx (by exact h.same rfl rfl)) fun _ => .ite (fun _ => h.clo.nx) fun _ => .ite (fun _ => .ite (fun _ => .ite (fun _ => h.rai) fun _ => h.nx) fun _ => h.rai) fun _ => .ite (fun _ => h.nx) fun _ => .ite (fun _ => .ite (fun _ => h.rai) fun _ => ?_) fun _ => h
  rcases tNext (s.tabs.getD (s.var (s.slot x)).N []) (s.var (s.slot (x + 1))) with _ | ⟨k, v⟩
  · exact h.rai
  · exact h.set.set.set.nx
theorem FfB.step (h : FfB N s) : FfB N (astep Ps s) := by
  unfold astep
  dsimp only
  rcases (Ps.getD (s.clos.getD s.fr.clo (0, [])).1 Proto.zero).code[s.fr.pc]? with _ | ⟨op, x⟩
  · exact h
  · dsimp only
    exact .ite (fun _ => h.jmp) fun _ => .ite (fun _ => .ite (fun _ => h.nx) fun _ => h.ops.jmp) fun _ => .ite (fun _ => .ite (fun _ => h.jmp) fun _ => h.nx) fun _ => .ite (fun _ => h.cal) fun _ => .ite (fun _ => h.ret) fun _ => h.pln
end
/-- what holds at the head of the machine's loop; n steps are left. -/
structure LI (C : VC) (b : AS) (n : Nat) (s : AS) : Prop where
  go : GoN (Psf C.F) n s b
  av : AV s
  sh : AT (Psf C.F) s
  pk : PK (Psf C.F)
  tb : 1 ≤ s.tabs.length
  n1 : N1 s
  fb : FfB 9223372036854775807 s
theorem LI.step {C : VC} {b : AS} {n : Nat} {s : AS} (h : LI C b (n + 1) s) : ∃ op x, Snd (Psf C.F) s op x ∧ LI C b n (astep (Psf C.F) s) := by
  obtain ⟨op, x, hs, hg⟩ := h.go
  exact ⟨op, x, hs, hg, h.av.step h.pk, h.sh.step h.av hs, h.pk, Nat.le_trans h.tb TL.step, h.n1.step, h.fb.step⟩
end Go.Proofs.Qxb6500568aGreatDoor
