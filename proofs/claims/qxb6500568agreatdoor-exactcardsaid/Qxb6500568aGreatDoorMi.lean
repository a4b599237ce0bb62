import Derived.Test.Qxb6500568aGreatDoorMh
namespace Go.Proofs.Qxb6500568aGreatDoor
open Ieee
set_option linter.unusedVariables false
set_option linter.unusedSimpArgs false
set_option linter.unusedSectionVars false

/-! The interpreter's run ends: each step burns fuel, or takes weight from the tasks. -/

def szT : Tr → Nat
  | ⟨_, _, _, _, _, [a]⟩ => 1 + szT a
  | ⟨_, _, _, _, _, [a, b]⟩ => 1 + szT a + szT b
  | ⟨_, _, _, _, _, [a, b, d]⟩ => 1 + szT a + szT b + szT d
  | ⟨_, _, _, _, _, [a, b, d, e]⟩ => 1 + szT a + szT b + szT d + szT e
  | _ => 1

def TW (G : Arena) (t : Tk) (w : Nat) : Prop :=
  if t.k = 1 then ∃ l, IsSL G t.n l ∧ w = 8 * szT l
  else if t.k = 2 then (t.n = 0 ∧ w = 1) ∨ ∃ e, IsE G t.n e ∧ w = 8 * szT e
  else if t.k = 6 ∨ t.k = 7 ∨ t.k = 8 then ∃ l, IsSL G (nd G t.n).Nx l ∧ w = 1 + 8 * szT l
  else if t.k = 11 then ∃ l r, IsSL G (nd G t.n).B l ∧ IsSL G (nd G t.n).C r ∧ w = 1 + 8 * szT l + 8 * szT r
  else if t.k = 12 then ∃ c b, IsE G (nd G t.n).A c ∧ IsSL G (nd G t.n).B b ∧ w = 3 + 8 * szT c + 8 * szT b
  else if t.k = 13 then ∃ b, IsSL G (nd G t.n).B b ∧ w = 2 + 8 * szT b
  else if t.k = 15 then ∃ b, IsSL G (nd G t.n).B b ∧ w = 3 + 8 * szT b
  else if t.k = 16 then ∃ b, IsSL G (nd G t.n).B b ∧ w = 2 + 8 * szT b
  else if t.k = 18 then ∃ b, IsSL G (nd G t.n).C b ∧ w = 3 + 8 * szT b
  else if t.k = 19 then ∃ b, IsSL G (nd G t.n).C b ∧ w = 2 + 8 * szT b
  else if t.k = 23 then ∃ l, IsEL G (nd G t.n).Nx l ∧ w = 1 + 8 * szT l
  else if t.k = 26 ∨ t.k = 27 then ∃ e, IsE G (nd G t.n).B e ∧ w = 1 + 8 * szT e
  else w = 1
def TsW (G : Arena) : List Tk → Nat → Prop
  | [], w => w = 0
  | t :: r, w => ∃ a b, TW G t a ∧ TsW G r b ∧ w = a + b
def ThsW (G : Arena) : List ITh → Nat → Prop
  | [], w => w = 0
  | x :: r, w => ∃ a b, TsW G x.tasks a ∧ ThsW G r b ∧ w = a + b

section
variable {G : Arena} {root : Nat} {s : IS} {b c : Nat}

theorem TsW.app : ∀ {l r : List Tk} {a b : Nat}, TsW G l a → TsW G r b → TsW G (l ++ r) (a + b)
  | [], r, a, b, h1, h2 => by have h1 : a = 0 := h1; subst h1; simpa using h2
  | t :: l, r, a, b, ⟨u, v, k1, k2, k3⟩, h2 => ⟨u, v + b, k1, TsW.app k2 h2, by omega⟩
theorem TsW.suf : ∀ {l r : List Tk} {a : Nat}, TsW G l a → r <:+ l → ∃ b, b ≤ a ∧ TsW G r b
  | [], r, a, h, hs => by have : r = [] := List.eq_nil_of_suffix_nil hs; subst this; exact ⟨a, Nat.le_refl _, h⟩
  | t :: l, r, a, h, hs => by
    rcases List.suffix_cons_iff.1 hs with rfl | hs
    · exact ⟨a, Nat.le_refl _, h⟩
    · obtain ⟨u, v, k1, k2, k3⟩ := h
      obtain ⟨b, h1, h2⟩ := TsW.suf k2 hs
      exact ⟨b, by omega, h2⟩
theorem ThsW.at : ∀ {ths : List ITh} {n b : Nat} {x : ITh}, ThsW G ths b → ths[n]? = some x → ∃ u v, TsW G x.tasks u ∧ b = u + v ∧ ∀ y w, TsW G y.tasks w → ThsW G (ths.set n y) (w + v)
  | [], n, b, x, h, hx => by cases hx
  | z :: l, 0, b, x, ⟨u, v, k1, k2, k3⟩, hx => by
    simp at hx; subst hx
    exact ⟨u, v, k1, k3, fun y w hw => ⟨w, v, hw, k2, rfl⟩⟩
  | z :: l, n + 1, b, x, ⟨u, v, k1, k2, k3⟩, hx => by
    obtain ⟨u', v', h1, h2, h3⟩ := ThsW.at k2 (by simpa using hx)
    exact ⟨u', u + v', h1, by omega, fun y w hw => ⟨u, w + v', k1, h3 y w hw, by omega⟩⟩

structure Wgt (G : Arena) (s : IS) (b : Nat) : Prop where
  c : s.cur < s.ths.length
  w : ThsW G s.ths b
theorem Wgt.at (h : Wgt G s b) : ∃ u v, TsW G s.th.tasks u ∧ b = u + v ∧ ∀ y w, TsW G y.tasks w → Wgt G (s.setT y) (w + v) := by
  have hx : s.ths[s.cur]? = some s.th := by unfold IS.th; rw [List.getD_eq_getElem?_getD, List.getElem?_eq_getElem h.c]; rfl
  obtain ⟨u, v, h1, h2, h3⟩ := ThsW.at h.w hx
  exact ⟨u, v, h1, h2, fun y w hw => ⟨by simpa [IS.setT] using h.c, h3 y w hw⟩⟩
theorem Wgt.same (h : Wgt G s b) {y : ITh} (hy : y.tasks = s.th.tasks) : Wgt G (s.setT y) b := by
  obtain ⟨u, v, h1, h2, h3⟩ := h.at
  have := h3 y u (by rw [hy]; exact h1)
  rw [h2]; exact this
theorem Wgt.push (h : Wgt G s b) (v : PV) : Wgt G (ipush v s) b := h.same rfl
theorem Wgt.drop (h : Wgt G s b) (k : Nat) : Wgt G (idrop k s) b := h.same rfl
theorem Wgt.doT (h : Wgt G s b) {k n x e : Nat} (ht : TW G ⟨k, n, x, e⟩ c) : Wgt G (ido k n x e s) (b + c) := by
  obtain ⟨u, v, h1, h2, h3⟩ := h.at
  have := h3 { s.th with tasks := ⟨k, n, x, e⟩ :: s.th.tasks } (c + u) ⟨c, u, ht, h1, rfl⟩
  rw [h2, show u + v + c = c + u + v by omega]; exact this
theorem Wgt.new (h : Wgt G s b) (nm : Str) (v : PV) (up : Nat) : Wgt G (inew nm v up s) b := ⟨h.c, h.w⟩
theorem Wgt.setE (h : Wgt G s b) (e : Nat) (v : PV) : Wgt G (setE e v s) b := ⟨h.c, h.w⟩
theorem Wgt.suf (h : Wgt G s b) {y : ITh} (hy : y.tasks <:+ s.th.tasks) : ∃ b', b' ≤ b ∧ Wgt G (s.setT y) b' := by
  obtain ⟨u, v, h1, h2, h3⟩ := h.at
  obtain ⟨w, k1, k2⟩ := h1.suf hy
  exact ⟨w + v, by omega, h3 y w k2⟩

/-- what a step comes to: the run's end, less fuel, or less weight. -/
def Dn (G : Arena) (f m : Nat) (s : IS) : Prop := s.done = true ∨ s.fuel < f ∨ ∃ b, b < m ∧ ThsW G s.ths b
theorem Wgt.dn (h : Wgt G s b) {f m : Nat} (hm : b < m) : Dn G f m s := .inr (.inr ⟨b, hm, h.w⟩)
theorem Dn.ite {p : Prop} [Decidable p] {f m : Nat} {x y : IS} (hx : p → Dn G f m x) (hy : ¬ p → Dn G f m y) : Dn G f m (if p then x else y) := by
  by_cases h : p
  · rw [if_pos h]; exact hx h
  · rw [if_neg h]; exact hy h

/-- the resumer's tasks stand as they are. -/
theorem Wgt.back (h : Wgt G s b) (ok : Bool) (v : PV) {f m : Nat} (hm : b < m) : Dn G f m (iback ok v s) := by
  unfold iback
  split
  · exact .inl rfl
  · rename_i c r hs
    refine .inr (.inr ⟨b, hm, ?_⟩)
    by_cases hc : c < s.ths.length
    · have h1 : Wgt G ({ s with stack := r, cur := c } : IS) b := ⟨hc, h.w⟩
      exact (((h1.same (y := { IS.th { s with stack := r, cur := c } with st := 4 }) rfl).push _).push _).w
    · have e : ∀ (z : IS), z.cur = c → z.ths = s.ths → ∀ y, (z.setT y).ths = s.ths := fun z h1 h2 y => by unfold IS.setT; simp only [h1, h2]; exact List.set_eq_of_length_le (by omega)
      have h2 : (ipush v (ipush (vBool ok) (IS.setT { s with stack := r, cur := c } { IS.th { s with stack := r, cur := c } with st := 4 }))).ths = s.ths := by
        have q1 := e { s with stack := r, cur := c } rfl rfl { IS.th { s with stack := r, cur := c } with st := 4 }
        unfold ipush
        refine e _ rfl ?_ _
        exact e _ rfl q1 _
      show ThsW G (ipush v (ipush (vBool ok) (IS.setT { s with stack := r, cur := c } { IS.th { s with stack := r, cur := c } with st := 4 }))).ths b
      rw [h2]; exact h.w
theorem thrL_suf : ∀ (l : List Tk) (d : Nat) {e : Nat} {t : Tk} {r : List Tk}, thrL l d = (e, some (t, r)) → r <:+ l
  | [], d, e, t, r, h => by simp [thrL] at h
  | x :: l, d, e, t, r, h => by
    unfold thrL at h
    split at h
    · split at h
      · simp at h; rw [h.2.2]; exact List.suffix_cons _ _
      · exact (thrL_suf l _ h).trans (List.suffix_cons _ _)
    · exact (thrL_suf l _ h).trans (List.suffix_cons _ _)
theorem retL_suf : ∀ (l : List Tk) {t : Tk} {r : List Tk}, retL l = some (t, r) → r <:+ l
  | [], t, r, h => by simp [retL] at h
  | x :: l, t, r, h => by
    unfold retL at h
    split at h
    · simp at h; rw [h.2]; exact List.suffix_cons _ _
    · exact (retL_suf l h).trans (List.suffix_cons _ _)
theorem brkL_suf : ∀ (l : List Tk) {t : Tk} {r : List Tk}, brkL l = some (t, r) → r <:+ l
  | [], t, r, h => by simp [brkL] at h
  | x :: l, t, r, h => by
    unfold brkL at h
    split at h
    · simp at h; rw [h.2]; exact List.suffix_cons _ _
    · exact (brkL_suf l h).trans (List.suffix_cons _ _)
theorem Wgt.throw (h : Wgt G s b) (v : PV) {f m : Nat} (hm : b < m) : Dn G f m (ithrow v s) := by
  unfold ithrow
  split
  · rename_i d t r hr
    obtain ⟨b', h1, h2⟩ := h.suf (y := { s.th with tasks := r, depth := d, vals := v :: vBool false :: cutTo t.x s.th.vals }) (thrL_suf _ _ hr)
    exact h2.dn (by omega)
  · rename_i d hr
    obtain ⟨b', h1, h2⟩ := h.suf (y := { s.th with tasks := [], depth := d, vals := [], st := 5 }) (List.nil_suffix)
    exact h2.back _ _ (by omega)
theorem Wgt.raise (h : Wgt G s b) (v : Str) {f m : Nat} (hm : b < m) : Dn G f m (iraise v s) := h.throw _ hm
theorem Wgt.ret (h : Wgt G s b) (u v : PV) {f m : Nat} (hm : b < m) : Dn G f m (iret u v s) := by
  unfold iret
  split
  · obtain ⟨b', h1, h2⟩ := h.suf (y := { s.th with tasks := [] }) (List.nil_suffix)
    exact h2.dn (by omega)
  · rename_i t r hr
    have hs := retL_suf _ hr
    simp only
    refine Dn.ite (fun _ => ?_) (fun _ => Dn.ite (fun _ => ?_) (fun _ => ?_))
    · obtain ⟨b', h1, h2⟩ := h.suf (y := { s.th with tasks := r, depth := s.th.depth - 1, vals := cutTo t.x s.th.vals, st := 5 }) hs
      exact h2.back _ _ (by omega)
    · obtain ⟨b', h1, h2⟩ := h.suf (y := { s.th with tasks := r, depth := s.th.depth - 1, vals := u :: vBool true :: cutTo t.x s.th.vals }) hs
      exact h2.dn (by omega)
    · obtain ⟨b', h1, h2⟩ := h.suf (y := { s.th with tasks := r, depth := s.th.depth - 1, vals := v :: u :: cutTo t.x s.th.vals }) hs
      exact h2.dn (by omega)
theorem Wgt.brk (h : Wgt G s b) {f m : Nat} (hm : b < m) : Dn G f m (match brkL s.th.tasks with | some (t, r) => s.setT { s.th with tasks := r, vals := cutTo t.x s.th.vals } | none => s.setT { s.th with tasks := [] }) := by
  split
  · rename_i t r hr
    obtain ⟨b', h1, h2⟩ := h.suf (y := { s.th with tasks := r, vals := cutTo t.x s.th.vals }) (brkL_suf _ hr)
    exact h2.dn (by omega)
  · obtain ⟨b', h1, h2⟩ := h.suf (y := { s.th with tasks := [] }) (List.nil_suffix)
    exact h2.dn (by omega)
theorem Wgt.iset (h : Wgt G s b) (t k v : PV) {f m : Nat} (hm : b < m) : Dn G f m (Go.Proofs.Qxb6500568aGreatDoor.iset t k v s) := by
  unfold Go.Proofs.Qxb6500568aGreatDoor.iset
  refine Dn.ite (fun _ => h.raise _ hm) (fun _ => ?_)
  simp only
  refine Dn.ite (fun _ => .inl rfl) (fun _ => Dn.ite (fun _ => h.raise _ hm) (fun _ => .inr (.inr ⟨b, hm, h.w⟩)))
theorem Wgt.res (h : Wgt G s b) (r : Res) {f m : Nat} (hm : b < m) : Dn G f m (ires r s) := by
  unfold ires
  split
  · exact (h.push _).dn hm
  · exact h.raise _ hm
theorem Wgt.burn {f m : Nat} (hf : s.fuel = f) : Dn G f m (iburn s) := by
  unfold iburn
  by_cases h0 : s.fuel = 0
  · rw [if_pos h0]; exact .inl rfl
  · rw [if_neg h0]; exact .inr (.inl (by show s.fuel - 1 < f; omega))
end

end Go.Proofs.Qxb6500568aGreatDoor
