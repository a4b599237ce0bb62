import Derived.Test.Qxb6500570aGreatPo
/- Plain: what each node of a lawful arena is; a lawful tree as a whole. -/
namespace Go.Proofs.Qxb6500570aGreat
set_option linter.unusedVariables false
set_option linter.unusedSimpArgs false

/-- A node in its place. -/
def Loc (x : Nd) (j : Nat) : Prop := 1 ≤ x.k ∧ x.k ≤ 9 ∧ (x.k = 1 → 0 ≤ x.n ∧ x.n ≤ 999999999) ∧ (x.k = 2 → x.n = 0 ∨ x.n = 1) ∧ (x.k = 6 → 1 ≤ j ∧ x.a = (j : Int) - 1) ∧ (x.k = 7 → ∃ o : Nat, x.o = (o : Int) ∧ 1 ≤ o ∧ o ≤ 10 ∧ x.b = (j : Int) - 1 ∧ 0 ≤ x.a ∧ x.a < j)
  ∧ (x.k = 8 → 1 ≤ j ∧ x.a = (j : Int) - 1 ∧ ∃ f : Nat, x.o = (f : Int) ∧ 1 ≤ f ∧ f ≤ 10) ∧ (x.k = 9 → 1 ≤ j ∧ x.a = (j : Int) - 1 ∧ -1 ≤ x.b ∧ x.b < j)
theorem arity_fn {f n : Nat} (h : arity f n = true) : 1 ≤ f ∧ f ≤ 10 := by
  unfold arity at h
  repeat' split at h
  all_goals first | omega | (cases h)
theorem sg_loc {n : List Nd} : ∀ (f : Nat) (lk : Bool) (k lo i : Nat) (arg : Bool), SgF n f lk k lo i arg → ∀ j, lo ≤ j → j ≤ i → ∃ x, n[j]? = some x ∧ Loc x j := by
  intro f
  induction f with
  | zero => intro lk k lo i arg h; exact h.elim
  | succ f ih =>
    intro lk k lo i arg h j h1 h2
    have key : ∀ x : Nd, n[i]? = some x → Loc x i → (j < i → ∃ x, n[j]? = some x ∧ Loc x j) → ∃ x, n[j]? = some x ∧ Loc x j := by
      intro x hx hl hj
      by_cases e : j = i
      · subst e; exact ⟨x, hx, hl⟩
      · exact hj (by omega)
    cases lk with
    | false =>
      obtain ⟨x, hx, h⟩ := h
      rcases h with ⟨g1, g2, g3, rfl⟩ | ⟨g1, g2, rfl⟩ | ⟨g1, rfl⟩ | ⟨g1, rfl⟩ | ⟨g1, g2, rfl⟩ | ⟨g1, g2, g3, g4⟩ | ⟨g1, g2, g3, o, m, g4, g5, g6, g7, g8, g9, g10, g11⟩ | ⟨g1, g2, g3, fn, kk, g4, g5, g6, g7⟩
      · exact key x hx ⟨by omega, by omega, fun _ => ⟨g2, g3⟩, by omega, by omega, by omega, by omega, by omega⟩ (by omega)
      · exact key x hx ⟨by omega, by omega, by omega, fun _ => g2, by omega, by omega, by omega, by omega⟩ (by omega)
      · exact key x hx ⟨by omega, by omega, by omega, by omega, by omega, by omega, by omega, by omega⟩ (by omega)
      · exact key x hx ⟨by omega, by omega, by omega, by omega, by omega, by omega, by omega, by omega⟩ (by omega)
      · exact key x hx ⟨by omega, by omega, by omega, by omega, by omega, by omega, by omega, by omega⟩ (by omega)
      · exact key x hx ⟨by omega, by omega, by omega, by omega, fun _ => ⟨g2, g3⟩, by omega, by omega, by omega⟩ (fun hj => ih _ _ _ _ _ g4 j h1 (by omega))
      · have hle := SgF.le _ _ _ _ _ _ g11
        refine key x hx ⟨by omega, by omega, by omega, by omega, by omega, fun _ => ⟨o, g4, g5, g6, g3, by omega, by omega⟩, by omega, by omega⟩ (fun hj => ?_)
        by_cases hm : j < m
        · exact ih _ _ _ _ _ g11 j h1 (by omega)
        · exact ih _ _ _ _ _ g10 j (by omega) (by omega)
      · have := arity_fn g6
        exact key x hx ⟨by omega, by omega, by omega, by omega, by omega, by omega, fun _ => ⟨g2, g3, fn, g4, by omega, by omega⟩, by omega⟩ (fun hj => ih _ _ _ _ _ g7 j h1 (by omega))
    | true =>
      obtain ⟨x, hx, g1, g2, g3, m, g4, g5, g6⟩ := h
      have hb : -1 ≤ x.b ∧ x.b < i := by rcases g6 with g | g <;> omega
      refine key x hx ⟨by omega, by omega, by omega, by omega, by omega, by omega, by omega, fun _ => ⟨g2, g3, hb⟩⟩ (fun hj => ?_)
      by_cases hm : j < m
      · rcases g6 with ⟨_, _, rfl⟩ | ⟨_, _, _, g⟩
        · omega
        · exact ih _ _ _ _ _ g j h1 (by omega)
      · exact ih _ _ _ _ _ g5 j (by omega) (by omega)
/-- Fuel by the place. -/
theorem sg_fuel {n : List Nd} : ∀ (f : Nat) (lk : Bool) (k lo i : Nat) (arg : Bool), SgF n f lk k lo i arg → SgF n (i + 1) lk k lo i arg := by
  intro f
  induction f with
  | zero => intro lk k lo i arg h; exact h.elim
  | succ f ih =>
    intro lk k lo i arg h
    cases lk with
    | false =>
      obtain ⟨x, hx, h⟩ := h
      refine ⟨x, hx, ?_⟩
      rcases h with h | h | h | h | h | ⟨h1, h2, h3, h4⟩ | ⟨h1, h2, h3, o, m, h4, h5, h6, h7, h8, h9, h10, h11⟩ | ⟨h1, h2, h3, fn, n, h4, h5, h6, h7⟩
      · exact .inl h
      · exact .inr (.inl h)
      · exact .inr (.inr (.inl h))
      · exact .inr (.inr (.inr (.inl h)))
      · exact .inr (.inr (.inr (.inr (.inl h))))
      · exact .inr (.inr (.inr (.inr (.inr (.inl ⟨h1, h2, h3, (ih _ _ _ _ _ h4).ups (by omega)⟩)))))
      · exact .inr (.inr (.inr (.inr (.inr (.inr (.inl ⟨h1, h2, h3, o, m, h4, h5, h6, h7, h8, h9, (ih _ _ _ _ _ h10).ups (by omega), (ih _ _ _ _ _ h11).ups (by omega)⟩))))))
      · exact .inr (.inr (.inr (.inr (.inr (.inr (.inr ⟨h1, h2, h3, fn, n, h4, h5, h6, (ih _ _ _ _ _ h7).ups (by omega)⟩))))))
    | true =>
      obtain ⟨x, hx, h1, h2, h3, m, h4, h5, h6⟩ := h
      refine ⟨x, hx, h1, h2, h3, m, h4, (ih _ _ _ _ _ h5).ups (by omega), ?_⟩
      rcases h6 with h6 | ⟨h6, h7, h8, h9⟩
      · exact .inl h6
      · exact .inr ⟨h6, h7, h8, (ih _ _ _ _ _ h9).ups (by omega)⟩

theorem cI_len (n : List Nd) (o : Nat) (x : Nd) : (cI n o x).length ≤ 2 := by
  unfold cI
  repeat' split
  all_goals simp
theorem cmp_len (n : List Nd) : ∀ (i : Nat) (own : Nat → Nat), (cmpF n i own).length ≤ 2 * i
  | 0, _ => Nat.le_refl _
  | i + 1, own => by
    show (cmpF n i _ ++ _).length ≤ _
    rw [List.length_append]
    have := cmp_len n i (ownS own (ndA n i) i)
    have := cI_len n (own i) (ndA n i)
    omega

/-- The program of a tree, what it is worth, what it reads. -/
def progT (n : List Nd) : List In := cmpF n n.length (fun _ => 0)
def vT (n : List Nd) (env : Nat → Vl) : Vl := (evF n env 24 0 ((n.length - 1 : Nat) : Int)).1
def rdT (n : List Nd) : Nat := rdF n 0 n.length
theorem tree_law {n : List Nd} {env : Nat → Vl} (hD : DoneOK n) (hL : ∀ c, c < 24 → Lw (env c)) : (∀ own, cmpF n n.length own = progT n) ∧ Lw (vT n env) ∧ setC (progT n) = rdT n ∧ safeC env (progT n) ([], []) ∧ exC env (progT n) ([], []) = ([vT n env], []) := by
  obtain ⟨h1, h2, f, hf⟩ := hD
  have hf' := sg_fuel _ _ _ _ _ _ hf
  obtain ⟨C, W, hW, hev, hcm, hset, hrun⟩ := (ev_law hL h2 _).1 _ _ _ hf' (sg_nr hf')
  rw [show n.length - 1 + 1 = n.length by omega] at hcm hset hrun hev
  have hC : ∀ own, cmpF n n.length own = C := fun own => hcm own
  have hv : vT n env = W := hev 24 0 h2
  have hp : progT n = C := hC _
  obtain ⟨k1, k2⟩ := hrun [] [] (by simp only [List.length_nil]; omega) (by simp only [List.length_nil]; omega)
  refine ⟨fun own => by rw [hC, hp], by rw [hv]; exact hW, by rw [hp]; exact hset, by rw [hp]; exact k1, by rw [hp, hv]; exact k2⟩
theorem prog_len (n : List Nd) : (progT n).length ≤ 2 * n.length := cmp_len n _ _
theorem loc_all {n : List Nd} (hD : DoneOK n) {j : Nat} (hj : j < n.length) : ∃ x, n[j]? = some x ∧ Loc x j := by
  obtain ⟨h1, h2, f, hf⟩ := hD
  exact sg_loc _ _ _ _ _ _ hf j (Nat.zero_le _) (by omega)

end Go.Proofs.Qxb6500570aGreat
