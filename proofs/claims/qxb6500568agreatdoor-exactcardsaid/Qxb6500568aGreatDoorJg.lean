import Derived.Test.Qxb6500568aGreatDoorJf
/- The compiler: all expressions and statements. -/
namespace Go.Proofs.Qxb6500568aGreatDoor
open Ieee
set_option linter.unusedVariables false
set_option linter.unusedSimpArgs false
set_option linter.unusedSectionVars false

theorem x_all : ∀ k, (∀ t, szT t ≤ k → XE t) ∧ (∀ t lp, szT t ≤ k → XS t lp)
  | 0 => ⟨fun t h => by have := szT_pos t; omega, fun t lp h => by have := szT_pos t; omega⟩
  | k + 1 => by
    obtain ⟨ihE, ihS⟩ := x_all k
    have ihB : ∀ t lp, szT t ≤ k → XB t lp := fun t lp h => xb_of (fun t h => ihS t lp h) h
    have hE : ∀ t, szT t ≤ k + 1 → XE t := by
      intro t hk E w ow O S f q n hR hi hw hpa hx
      have hi0 := hi
      rcases hi.inv with ⟨_, rfl⟩ | ⟨_, rfl⟩ | ⟨_, rfl⟩ | ⟨_, rfl⟩ | ⟨a, b, rfl⟩ | ⟨a, zs, rfl⟩ | ⟨c, ps, b, rfl⟩ | ⟨zs, rfl⟩ | ⟨op, a, b, rfl⟩ | ⟨op, a, rfl⟩ | ⟨a, b, rfl⟩ | ⟨a, b, rfl⟩
      · rcases (IsE_lit.1 hi).2.2 with rfl | rfl | rfl
        · exact xe_lit12 E w ow O S f q n hR hi hw hpa hx
        · exact xe_lit13 E w ow O S f q n hR hi hw hpa hx
        · exact xe_lit14 E w ow O S f q n hR hi hw hpa hx
      · exact xe_num E w ow O S f q n hR hi hw hpa hx
      · exact xe_str E w ow O S f q n hR hi hw hpa hx
      · exact xe_name E w ow O S f q n hR hi hw hpa hx
      · have hk : 1 + szT a + szT b ≤ k + 1 := hk
        exact xe_index (ihE a (by omega)) (ihE b (by omega)) E w ow O S f q n hR hi hw hpa hx
      · have hk : 1 + szT a + szT zs ≤ k + 1 := hk
        exact xe_call ihE (by omega) (by omega) E w ow O S f q n hR hi hw hpa hx
      · have hk : 1 + szT b ≤ k + 1 := hk
        exact xe_func (ihB b false (by omega)) E w ow O S f q n hR hi hw hpa hx
      · have hk : 1 + szT zs ≤ k + 1 := hk
        exact xe_table ihE (by omega) E w ow O S f q n hR hi hw hpa hx
      · have hk : 1 + szT a + szT b ≤ k + 1 := hk
        exact xe_bin (ihE a (by omega)) (ihE b (by omega)) E w ow O S f q n hR hi hw hpa hx
      · have hk : 1 + szT a ≤ k + 1 := hk
        exact xe_un (ihE a (by omega)) E w ow O S f q n hR hi hw hpa hx
      · have hk : 1 + szT a + szT b ≤ k + 1 := hk
        exact xe_land (ihE a (by omega)) (ihE b (by omega)) E w ow O S f q n hR hi hw hpa hx
      · have hk : 1 + szT a + szT b ≤ k + 1 := hk
        exact xe_lor (ihE a (by omega)) (ihE b (by omega)) E w ow O S f q n hR hi hw hpa hx
    refine ⟨hE, fun t lp hk => ?_⟩
    intro E w ow O S f q n hR hi hw hpa hlp hx
    rcases hi.inv with ⟨s, rfl⟩ | ⟨s, v, rfl⟩ | ⟨s, t, a, zs, rfl⟩ | ⟨s, c, ps, b, rfl⟩ | ⟨s, v, rfl⟩ | ⟨a, b, v, rfl⟩ | ⟨a, zs, rfl⟩ | ⟨c, t, e, rfl⟩ | ⟨c, b, rfl⟩ | ⟨s, a, l, b, rfl⟩ | ⟨s, a, l, p, b, rfl⟩ | ⟨s, t, x, b, rfl⟩ | rfl | ⟨a, rfl⟩ | ⟨a, b, rfl⟩ | rfl
    · exact xs_loc E w ow O S f q n hR hi hw hpa hlp hx
    · have hk : 1 + szT v ≤ k + 1 := hk
      exact xs_locV (ihE v (by omega)) E w ow O S f q n hR hi hw hpa hlp hx
    · have hk : 1 + szT a + szT zs ≤ k + 1 := hk
      exact xs_loc2 ihE (by omega) (by omega) E w ow O S f q n hR hi hw hpa hlp hx
    · have hk : 1 + szT b ≤ k + 1 := hk
      exact xs_locFn (xe_func (ihB b false (by omega))) E w ow O S f q n hR hi hw hpa hlp hx
    · have hk : 1 + szT v ≤ k + 1 := hk
      exact xs_setN (ihE v (by omega)) E w ow O S f q n hR hi hw hpa hlp hx
    · have hk : 1 + szT a + szT b + szT v ≤ k + 1 := hk
      exact xs_setI (ihE a (by omega)) (ihE b (by omega)) (ihE v (by omega)) E w ow O S f q n hR hi hw hpa hlp hx
    · have hk : 1 + szT a + szT zs ≤ k + 1 := hk
      exact xs_call ihE (by omega) (by omega) E w ow O S f q n hR hi hw hpa hlp hx
    · have hk : 1 + szT c + szT t + szT e ≤ k + 1 := hk
      exact xs_iff (ihE c (by omega)) (ihB t lp (by omega)) (ihB e lp (by omega)) E w ow O S f q n hR hi hw hpa hlp hx
    · have hk : 1 + szT c + szT b ≤ k + 1 := hk
      exact xs_whl (ihE c (by omega)) (ihB b true (by omega)) E w ow O S f q n hR hi hw hpa hlp hx
    · have hk : 1 + szT a + szT l + szT b ≤ k + 1 := hk
      exact xs_for2 (ihE a (by omega)) (ihE l (by omega)) (ihB b true (by omega)) E w ow O S f q n hR hi hw hpa hlp hx
    · have hk : 1 + szT a + szT l + szT p + szT b ≤ k + 1 := hk
      exact xs_for3 (ihE a (by omega)) (ihE l (by omega)) (ihE p (by omega)) (ihB b true (by omega)) E w ow O S f q n hR hi hw hpa hlp hx
    · have hk : 1 + szT x + szT b ≤ k + 1 := hk
      exact xs_forIn (ihE x (by omega)) (ihB b true (by omega)) E w ow O S f q n hR hi hw hpa hlp hx
    · exact xs_ret0 E w ow O S f q n hR hi hw hpa hlp hx
    · have hk : 1 + szT a ≤ k + 1 := hk
      exact xs_ret1 (ihE a (by omega)) E w ow O S f q n hR hi hw hpa hlp hx
    · have hk : 1 + szT a + szT b ≤ k + 1 := hk
      exact xs_ret2 (ihE a (by omega)) (ihE b (by omega)) E w ow O S f q n hR hi hw hpa hlp hx
    · exact xs_brk E w ow O S f q n hR hi hw hpa hlp hx
theorem xb_all (t : Tr) (lp : Bool) : XB t lp := xb_of (fun t h => (x_all _).2 t lp h) (Nat.le_refl _)

/-! ### the parents of the literals -/

/-- the literals of a tree with their parents. -/
def paL : Tr → Nat → List (Nat × Nat)
  | ⟨c, n, _, _, _, [a]⟩ => fun j => if c = 6 ∨ c = 17 then (n, j) :: paL a n else paL a j
  | ⟨_, _, _, _, _, [a, b]⟩ => fun j => paL a j ++ paL b j
  | ⟨_, _, _, _, _, [a, b, d]⟩ => fun j => paL a j ++ (paL b j ++ paL d j)
  | ⟨_, _, _, _, _, [a, b, d, e]⟩ => fun j => paL a j ++ (paL b j ++ (paL d j ++ paL e j))
  | _ => fun _ => []
theorem paL_nums : ∀ (t : Tr) (j : Nat), (paL t j).map (·.1) = numsT t
  | ⟨c, n, s, t, ps, [a]⟩, j => by
    have e1 : paL ⟨c, n, s, t, ps, [a]⟩ j = if c = 6 ∨ c = 17 then (n, j) :: paL a n else paL a j := rfl
    have e2 : numsT ⟨c, n, s, t, ps, [a]⟩ = if c = 6 then n :: numsT a else if c = 17 then n :: numsT a else numsT a := rfl
    rw [e1, e2]
    by_cases h6 : c = 6
    · rw [if_pos (.inl h6), if_pos h6, List.map_cons, paL_nums a n]
    · by_cases h17 : c = 17
      · rw [if_pos (.inr h17), if_neg h6, if_pos h17, List.map_cons, paL_nums a n]
      · rw [if_neg (by omega), if_neg h6, if_neg h17, paL_nums a j]
  | ⟨_, _, _, _, _, [a, b]⟩, j => by show (paL a j ++ paL b j).map _ = numsT a ++ numsT b; rw [List.map_append, paL_nums a j, paL_nums b j]
  | ⟨_, _, _, _, _, [a, b, d]⟩, j => by show (paL a j ++ (paL b j ++ paL d j)).map _ = numsT a ++ (numsT b ++ numsT d); rw [List.map_append, List.map_append, paL_nums a j, paL_nums b j, paL_nums d j]
  | ⟨_, _, _, _, _, [a, b, d, e]⟩, j => by show (paL a j ++ (paL b j ++ (paL d j ++ paL e j))).map _ = numsT a ++ (numsT b ++ (numsT d ++ numsT e)); rw [List.map_append, List.map_append, List.map_append, paL_nums a j, paL_nums b j, paL_nums d j, paL_nums e j]
  | ⟨_, _, _, _, _, []⟩, j => rfl
  | ⟨_, _, _, _, _, _ :: _ :: _ :: _ :: _ :: _⟩, j => rfl
theorem paT_of {pa : Nat → Nat} : ∀ (t : Tr) (j : Nat), (∀ x ∈ paL t j, pa x.1 = x.2) → PaT pa t j
  | ⟨c, n, s, t, ps, [a]⟩, j, h => by
    have e1 : paL ⟨c, n, s, t, ps, [a]⟩ j = if c = 6 ∨ c = 17 then (n, j) :: paL a n else paL a j := rfl
    have e2 : PaT pa ⟨c, n, s, t, ps, [a]⟩ j = if c = 6 ∨ c = 17 then pa n = j ∧ PaT pa a n else PaT pa a j := rfl
    rw [e1] at h
    rw [e2]
    by_cases hc : c = 6 ∨ c = 17
    · rw [if_pos hc] at h ⊢
      exact ⟨h (n, j) List.mem_cons_self, paT_of a n (fun x hx => h x (List.mem_cons_of_mem _ hx))⟩
    · rw [if_neg hc] at h ⊢
      exact paT_of a j h
  | ⟨_, _, _, _, _, [a, b]⟩, j, h => ⟨paT_of a j (fun x hx => h x (List.mem_append_left _ hx)), paT_of b j (fun x hx => h x (List.mem_append_right _ hx))⟩
  | ⟨_, _, _, _, _, [a, b, d]⟩, j, h => ⟨paT_of a j (fun x hx => h x (List.mem_append_left _ hx)), paT_of b j (fun x hx => h x (List.mem_append_right _ (List.mem_append_left _ hx))), paT_of d j (fun x hx => h x (List.mem_append_right _ (List.mem_append_right _ hx)))⟩
  | ⟨_, _, _, _, _, [a, b, d, e]⟩, j, h => ⟨paT_of a j (fun x hx => h x (List.mem_append_left _ hx)), paT_of b j (fun x hx => h x (List.mem_append_right _ (List.mem_append_left _ hx))), paT_of d j (fun x hx => h x (List.mem_append_right _ (List.mem_append_right _ (List.mem_append_left _ hx)))), paT_of e j (fun x hx => h x (List.mem_append_right _ (List.mem_append_right _ (List.mem_append_right _ hx))))⟩
  | ⟨_, _, _, _, _, []⟩, j, h => trivial
  | ⟨_, _, _, _, _, _ :: _ :: _ :: _ :: _ :: _⟩, j, h => trivial
def paF (l : List (Nat × Nat)) (n : Nat) : Nat := (l.find? fun x => decide (x.1 = n)).elim 0 (·.2)
theorem paF_ok : ∀ {l : List (Nat × Nat)}, (l.map (·.1)).Nodup → ∀ x ∈ l, paF l x.1 = x.2
  | [], _, x, hx => by cases hx
  | y :: l, h, x, hx => by
    rw [List.map_cons, List.nodup_cons] at h
    unfold paF
    rw [List.find?_cons]
    by_cases e : y.1 = x.1
    · rw [decide_eq_true e]
      rcases List.mem_cons.1 hx with rfl | hx
      · rfl
      · exact (h.1 (by rw [e]; exact List.mem_map_of_mem hx)).elim
    · rw [decide_eq_false e]
      rcases List.mem_cons.1 hx with rfl | hx
      · exact (e rfl).elim
      · exact paF_ok h.2 x hx
theorem paT_ex {t : Tr} (h : (numsT t).Nodup) : PaT (paF (paL t 0)) t 0 := paT_of t 0 (paF_ok (by rw [paL_nums]; exact h))
end Go.Proofs.Qxb6500568aGreatDoor
