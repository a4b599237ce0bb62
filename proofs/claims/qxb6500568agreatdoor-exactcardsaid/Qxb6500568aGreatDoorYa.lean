import Derived.Test.Qxb6500568aGreatDoorSm
namespace Go.Proofs.Qxb6500568aGreatDoor
open Ieee
set_option linter.unusedVariables false
set_option linter.unusedSimpArgs false
set_option linter.unusedSectionVars false

/-! The interpreter's stacks stay small and well shaped. -/

/-- tasks ahead of the first foot of a function. -/
def len1 : List Tk → Nat
  | [] => 0
  | t :: r => if t.k = 3 then 0 else len1 r + 1
/-- the height at that foot. -/
def flT : List Tk → Nat
  | [] => 0
  | t :: r => if t.k = 3 then t.x else flT r
def nR : List Tk → Nat
  | [] => 0
  | t :: r => if t.k = 3 then nR r + 1 else nR r
def brk1 : List Tk → Option (Tk × List Tk)
  | [] => none
  | t :: r => if t.k = 3 then none else if t.k = 4 then some (t, r) else brk1 r
def LB (r : List Tk) (h : Nat) (lp : Bool) : Prop := lp = true → ∃ t r', brk1 r = some (t, r') ∧ t.x ≤ h

def SB (G : Arena) (n : Nat) (r : List Tk) (h c : Nat) : Prop := ∃ l lp m, IsSL G n l ∧ W l lp m ∧ LB r h lp ∧ 6 * ndT l + c + len1 r + h ≤ 2000 + flT r
def EB (G : Arena) (n : Nat) (r : List Tk) (h c : Nat) : Prop := ∃ l m, IsE G n l ∧ W l false m ∧ 6 * ndT l + c + len1 r + h ≤ 2000 + flT r
def AB (G : Arena) (n : Nat) (r : List Tk) (h x : Nat) : Prop := ∃ l m, IsEL G n l ∧ W l false m ∧ 6 * ndT l + 2 + len1 r + h ≤ 2000 + flT r ∧ x + ndT l ≤ 1000
def N2 (G : Arena) (n : Nat) : Prop := ∃ a b, IsNm G n [a, b]

def needH (t : Tk) : Nat :=
  if t.k = 5 then 1 else if t.k = 6 then 1 else if t.k = 7 then 2 else if t.k = 8 then 1 else if t.k = 9 then 1 else if t.k = 10 then 3 else if t.k = 11 then 1 else if t.k = 13 then 1
  else if t.k = 15 then 3 else if t.k = 16 then 3 else if t.k = 17 then 3 else if t.k = 18 then 1 else if t.k = 19 then 2 else if t.k = 20 then 2 else if t.k = 21 then 2 else if t.k = 22 then t.x + 1
  else if t.k = 23 then 2 else if t.k = 24 then 2 else if t.k = 25 then 1 else if t.k = 26 then 1 else if t.k = 27 then 1 else if t.k = 28 then 2 else 0
def nextH (t : Tk) (h : Nat) : Nat :=
  if t.k = 2 then h + 1 else if t.k = 5 then h - 1 else if t.k = 6 then h - 1 else if t.k = 7 then h - 2 else if t.k = 8 then h - 1 else if t.k = 9 then h - 1 else if t.k = 10 then h - 3 else if t.k = 11 then h - 1 else if t.k = 13 then h - 1
  else if t.k = 15 then h - 3 else if t.k = 16 then h - 3 else if t.k = 17 then h - 3 else if t.k = 18 then h - 1 else if t.k = 19 then h - 2 else if t.k = 20 then h - 2 else if t.k = 21 then h - 2 else if t.k = 22 then h + 1 - t.x
  else if t.k = 23 then h - 1 else if t.k = 24 then h - 1 else if t.k = 28 then h - 1 else h
def KC (G : Arena) (t : Tk) (r : List Tk) (h : Nat) : Prop :=
  if t.k = 1 then SB G t.n r h 1 else
  if t.k = 2 then (t.n = 0 ∨ EB G t.n r h 1) else
  if t.k = 4 then t.x = h else
  if t.k = 5 then True else
  if t.k = 6 then SB G (nd G t.n).Nx r (h - 1) 1 else
  if t.k = 7 then N2 G (nd G t.n).A ∧ SB G (nd G t.n).Nx r (h - 2) 1 else
  if t.k = 8 then t.e ≠ 0 ∧ SB G (nd G t.n).Nx r (h - 1) 1 else
  if t.k = 9 then True else
  if t.k = 10 then True else
  if t.k = 11 then SB G (nd G t.n).B r (h - 1) 1 ∧ SB G (nd G t.n).C r (h - 1) 1 else
  if t.k = 12 then EB G (nd G t.n).A r h 3 ∧ SB G (nd G t.n).B r h 3 else
  if t.k = 13 then EB G (nd G t.n).A r (h - 1) 3 ∧ SB G (nd G t.n).B r (h - 1) 3 else
  if t.k = 14 then EB G (nd G t.n).A r h 3 ∧ SB G (nd G t.n).B r h 3 else
  if t.k = 15 then SB G (nd G t.n).B r h 3 else
  if t.k = 16 then SB G (nd G t.n).B r h 3 else
  if t.k = 17 then SB G (nd G t.n).B r h 3 else
  if t.k = 18 then N2 G (nd G t.n).A ∧ SB G (nd G t.n).C r (h + 1) 3 else
  if t.k = 19 then N2 G (nd G t.n).A ∧ SB G (nd G t.n).C r h 3 else
  if t.k = 20 then N2 G (nd G t.n).A ∧ SB G (nd G t.n).C r h 3 else
  if t.k = 21 then True else
  if t.k = 22 then t.x ≤ 3 else
  if t.k = 23 then AB G (nd G t.n).Nx r (h - 1) t.x else
  if t.k = 24 then ((nd G t.n).N = 20 ∨ (11 ≤ (nd G t.n).N ∧ (nd G t.n).N ≤ 16) ∨ (1 ≤ (nd G t.n).N ∧ (nd G t.n).N ≤ 6)) else
  if t.k = 25 then (1 ≤ (nd G t.n).N ∧ (nd G t.n).N ≤ 3) else
  if t.k = 26 then EB G (nd G t.n).B r (h - 1) 1 else
  if t.k = 27 then EB G (nd G t.n).B r (h - 1) 1 else
  if t.k = 28 then True else False
/-- the tasks, where h values lie on the stack. -/
def TkI (G : Arena) (E : Nat) : List Tk → Nat → Prop
  | [], _ => False
  | t :: r, h => t.e ≤ E ∧ (if t.k = 3 then (t.n ≤ 1 ∧ t.x ≤ h ∧ h ≤ t.x + 2000 ∧ flT r ≤ t.x ∧ ((r = [] ∧ t.n = 0 ∧ t.x = 0) ∨ (r ≠ [] ∧ TkI G E r (t.x + 2))))
    else t.n < G.length ∧ len1 r + 1 + h ≤ 2000 + flT r ∧ flT r + needH t ≤ h ∧ KC G t r h ∧ TkI G E r (nextH t h))

section
variable {G : Arena} {E h n x e k : Nat} {r T : List Tk} {t : Tk}

theorem KC.rg (h1 : KC G t r h) : t.k ≤ 28 := by
  refine Classical.byContradiction fun q => ?_
  unfold KC at h1
  repeat (rw [if_neg (by omega)] at h1)
  exact h1
theorem TkI.mono {E' : Nat} (hE : E ≤ E') : ∀ {T : List Tk} {h : Nat}, TkI G E T h → TkI G E' T h
  | [], h, q => q
  | t :: r, h, q => by
    unfold TkI at q ⊢
    refine ⟨Nat.le_trans q.1 hE, ?_⟩
    have q2 := q.2
    by_cases hk : t.k = 3
    · rw [if_pos hk] at q2 ⊢
      exact ⟨q2.1, q2.2.1, q2.2.2.1, q2.2.2.2.1, q2.2.2.2.2.imp id fun z => ⟨z.1, z.2.mono hE⟩⟩
    · rw [if_neg hk] at q2 ⊢
      exact ⟨q2.1, q2.2.1, q2.2.2.1, q2.2.2.2.1, q2.2.2.2.2.mono hE⟩
theorem TkI.ne (q : TkI G E T h) : T ≠ [] := by rintro rfl; exact q
theorem TkI.fl : ∀ {T : List Tk} {h : Nat}, TkI G E T h → flT T ≤ h ∧ len1 T + h ≤ 2000 + flT T
  | [], h, q => q.elim
  | t :: r, h, q => by
    unfold TkI at q
    have q2 := q.2
    by_cases hk : t.k = 3
    · rw [if_pos hk] at q2
      rw [flT, if_pos hk, len1, if_pos hk]
      exact ⟨q2.2.1, by have := q2.2.2.1; omega⟩
    · rw [if_neg hk] at q2
      rw [flT, if_neg hk, len1, if_neg hk]
      exact ⟨by have := q2.2.2.1; omega, q2.2.1⟩
theorem TkI.nR1 : ∀ {T : List Tk} {h : Nat}, TkI G E T h → 1 ≤ nR T ∧ flT T ≤ 2000 * (nR T - 1)
  | [], h, q => q.elim
  | t :: r, h, q => by
    unfold TkI at q
    have q2 := q.2
    by_cases hk : t.k = 3
    · rw [if_pos hk] at q2
      rw [flT, if_pos hk, nR, if_pos hk]
      rcases q2.2.2.2.2 with ⟨h1, h2, h3⟩ | ⟨h1, h2⟩
      · exact ⟨by omega, by omega⟩
      · have a := TkI.nR1 h2; have b := h2.fl
        exact ⟨by omega, by omega⟩
    · rw [if_neg hk] at q2
      rw [flT, if_neg hk, nR, if_neg hk]
      exact TkI.nR1 q2.2.2.2.2
theorem TkI.len : ∀ {T : List Tk} {h : Nat}, TkI G E T h → T.length + 2000 ≤ len1 T + 2001 * nR T
  | [], h, q => q.elim
  | t :: r, h, q => by
    unfold TkI at q
    have q2 := q.2
    by_cases hk : t.k = 3
    · rw [if_pos hk] at q2
      rw [len1, if_pos hk, nR, if_pos hk, List.length_cons]
      rcases q2.2.2.2.2 with ⟨h1, h2, h3⟩ | ⟨h1, h2⟩
      · subst h1; simp [nR]
      · have a := TkI.len h2; have b := h2.fl
        omega
    · rw [if_neg hk] at q2
      rw [len1, if_neg hk, nR, if_neg hk, List.length_cons]
      have := TkI.len q2.2.2.2.2
      omega
theorem TkI.small (q : TkI G E T h) (h8 : nR T ≤ 8) : T.length ≤ 16100 ∧ h ≤ 16100 := by
  have a := q.fl; have b := q.nR1; have c := q.len
  omega

theorem Nd.lt (hn : (nd G n).K ≠ 0) : n < G.length := by
  refine Classical.byContradiction fun q => hn ?_
  unfold nd
  rw [List.getD_eq_getElem?_getD, List.getElem?_eq_none (by omega)]; rfl
theorem IsE.lt {t : Tr} (h : IsE G n t) : n < G.length := by
  refine Nd.lt ?_
  rcases h.inv with ⟨k, rfl⟩ | ⟨k, rfl⟩ | ⟨k, rfl⟩ | ⟨k, rfl⟩ | ⟨u, v, rfl⟩ | ⟨g, zs, rfl⟩ | ⟨k, ps, bd, rfl⟩ | ⟨zs, rfl⟩ | ⟨k, u, v, rfl⟩ | ⟨k, u, rfl⟩ | ⟨u, v, rfl⟩ | ⟨u, v, rfl⟩
  · obtain ⟨a, b, c⟩ := IsE_lit.1 h; omega
  · have := (IsE_num.1 h).2.1; omega
  · have := (IsE_str.1 h).2.1; omega
  · have := (IsE_name.1 h).2.1; omega
  · have := (IsE_index.1 h).2.1; omega
  · have := (IsE_call.1 h).2.1; omega
  · have := (IsE_func.1 h).2.1; omega
  · have := (IsE_table.1 h).2.1; omega
  · have := (IsE_bin.1 h).2.1; omega
  · have := (IsE_un.1 h).2.1; omega
  · have := (IsE_land.1 h).2.1; omega
  · have := (IsE_lor.1 h).2.1; omega
theorem IsS.lt {t : Tr} (h : IsS G n t) : n < G.length := by
  refine Nd.lt ?_
  rcases h.inv with ⟨s1, rfl⟩ | ⟨s1, v, rfl⟩ | ⟨s1, s2, g, zs, rfl⟩ | ⟨s1, k, ps, bd, rfl⟩ | ⟨s1, v, rfl⟩ | ⟨u, k, v, rfl⟩ | ⟨g, zs, rfl⟩ | ⟨g, t, r, rfl⟩ | ⟨g, bd, rfl⟩ | ⟨s1, u, v, bd, rfl⟩ | ⟨s1, u, v, w, bd, rfl⟩ | ⟨s1, s2, u, bd, rfl⟩ | rfl | ⟨u, rfl⟩ | ⟨u, v, rfl⟩ | rfl
  · have := (IsS_loc.1 h).2.1; omega
  · have := (IsS_locV.1 h).2.1; omega
  · have := (IsS_loc2.1 h).2.1; omega
  · have := (IsS_locFn.1 h).2.1; omega
  · have := (IsS_setN.1 h).2.1; omega
  · have := (IsS_setI.1 h).2.1; omega
  · have := (IsS_call.1 h).2.1; omega
  · have := (IsS_iff.1 h).2.1; omega
  · have := (IsS_whl.1 h).2.1; omega
  · have := (IsS_for2.1 h).2.1; omega
  · have := (IsS_for3.1 h).2.1; omega
  · have := (IsS_forIn.1 h).2.1; omega
  · have := (IsS_ret0.1 h).2.1; omega
  · have := (IsS_ret1.1 h).2.1; omega
  · have := (IsS_ret2.1 h).2.1; omega
  · have := (IsS_brk.1 h).2; omega
theorem ndT_E {t : Tr} (h : IsE G n t) : 1 ≤ ndT t := by
  rcases h.inv with ⟨k, rfl⟩ | ⟨k, rfl⟩ | ⟨k, rfl⟩ | ⟨k, rfl⟩ | ⟨u, v, rfl⟩ | ⟨g, zs, rfl⟩ | ⟨k, ps, bd, rfl⟩ | ⟨zs, rfl⟩ | ⟨k, u, v, rfl⟩ | ⟨k, u, rfl⟩ | ⟨u, v, rfl⟩ | ⟨u, v, rfl⟩
  · exact Nat.le_refl 1
  · exact Nat.le_refl 1
  · exact Nat.le_refl 1
  · exact Nat.le_refl 1
  · show 1 ≤ 1 + ndT u + ndT v; omega
  · show 1 ≤ 1 + ndT g + ndT zs; omega
  · show 1 ≤ 1 + ps.length + ndT bd; omega
  · show 1 ≤ 1 + ndT zs; omega
  · show 1 ≤ 1 + ndT u + ndT v; omega
  · show 1 ≤ 1 + ndT u; omega
  · show 1 ≤ 1 + ndT u + ndT v; omega
  · show 1 ≤ 1 + ndT u + ndT v; omega

theorem SB.fl {c : Nat} (hS : SB G n r h c) : c + len1 r + h ≤ 2000 + flT r := by obtain ⟨l, lp, m, -, -, -, q⟩ := hS; omega
theorem EB.fl {c : Nat} (hS : EB G n r h c) : 6 + c + len1 r + h ≤ 2000 + flT r := by obtain ⟨l, m, q1, -, q⟩ := hS; have := ndT_E q1; omega
theorem IsSL.lt {l : Tr} (hG : 0 < G.length) (h : IsSL G n l) : n < G.length := by
  rcases h.inv with rfl | ⟨s, l, rfl⟩
  · have := IsSL_nil.1 h; omega
  · exact (IsSL_cons.1 h).2.1.lt
theorem IsEL.lt {l : Tr} (hG : 0 < G.length) (h : IsEL G n l) : n < G.length := by
  rcases h.inv with rfl | ⟨s, l, rfl⟩
  · have := IsEL_nil.1 h; omega
  · exact (IsEL_cons.1 h).2.1.lt
theorem IsNm.lt (hG : 0 < G.length) : ∀ {l : List Str}, IsNm G n l → n < G.length
  | [], h => by have h : n = 0 := h; omega
  | s :: l, h => Nd.lt (by have := h.2.1; omega)

/-- how a task is laid. -/
theorem TkI.mk (h' : Nat) (hk : t.k ≠ 3) (he : t.e ≤ E) (hn : t.n < G.length) (h1 : len1 r + 1 + h ≤ 2000 + flT r) (h2 : flT r + needH t ≤ h) (h3 : KC G t r h) (h4 : nextH t h = h') (h5 : TkI G E r h') : TkI G E (t :: r) h := by
  unfold TkI
  rw [if_neg hk, h4]
  exact ⟨he, hn, h1, h2, h3, h5⟩
theorem TkI.inv (hT : TkI G E (t :: r) h) (hk : t.k ≠ 3) : t.e ≤ E ∧ t.n < G.length ∧ len1 r + 1 + h ≤ 2000 + flT r ∧ flT r + needH t ≤ h ∧ KC G t r h ∧ TkI G E r (nextH t h) := by
  unfold TkI at hT
  rw [if_neg hk] at hT
  exact hT
theorem TkI.c1 (hG : 0 < G.length) (he : e ≤ E) (hS : SB G n r h 1) (hT : TkI G E r h) : TkI G E (⟨1, n, x, e⟩ :: r) h := by
  have f := hT.fl
  have g := hS.fl
  obtain ⟨l, lp, m, q1, q2, q3, q4⟩ := hS
  exact TkI.mk h (show (1:Nat) ≠ 3 by decide) he (q1.lt hG) (by omega) f.1 ⟨l, lp, m, q1, q2, q3, q4⟩ rfl hT
theorem TkI.c2 (he : e ≤ E) (hS : EB G n r h 1) (hf : flT r ≤ h) (hT : TkI G E r (h + 1)) : TkI G E (⟨2, n, x, e⟩ :: r) h := by
  have g := hS.fl
  obtain ⟨l, m, q1, q2, q3⟩ := hS
  exact TkI.mk (h + 1) (show (2:Nat) ≠ 3 by decide) he q1.lt (by omega) hf (.inr ⟨l, m, q1, q2, q3⟩) rfl hT
theorem TkI.c20 (hG : 0 < G.length) (he : e ≤ E) (hb : len1 r + 1 + h ≤ 2000 + flT r) (hf : flT r ≤ h) (hT : TkI G E r (h + 1)) : TkI G E (⟨2, 0, x, e⟩ :: r) h :=
  TkI.mk (h + 1) (show (2:Nat) ≠ 3 by decide) he hG hb hf (.inl rfl) rfl hT
theorem LB.skip {lp : Bool} {h' : Nat} (hL : LB r h lp) (h3 : t.k ≠ 3) (h4 : t.k ≠ 4) (hh : h ≤ h') : LB (t :: r) h' lp := fun q => by
  obtain ⟨u, r', h1, h2⟩ := hL q
  exact ⟨u, r', by rw [brk1, if_neg h3, if_neg h4]; exact h1, by omega⟩
theorem LB.up {lp : Bool} {h' : Nat} (hL : LB r h lp) (hh : h ≤ h') : LB r h' lp := fun q => by
  obtain ⟨u, r', h1, h2⟩ := hL q
  exact ⟨u, r', h1, by omega⟩
theorem len1_c (hk : t.k ≠ 3) : len1 (t :: r) = len1 r + 1 := by rw [len1, if_neg hk]
theorem flT_c (hk : t.k ≠ 3) : flT (t :: r) = flT r := by rw [flT, if_neg hk]
theorem nR_c (hk : t.k ≠ 3) : nR (t :: r) = nR r := by rw [nR, if_neg hk]
/-- a block behind other tasks. -/
theorem SB.mk' {l : Tr} {lp : Bool} {m c : Nat} (h1 : IsSL G n l) (h2 : W l lp m) (h3 : LB r h lp) (h4 : 6 * ndT l + c + len1 r + h ≤ 2000 + flT r) : SB G n r h c := ⟨l, lp, m, h1, h2, h3, h4⟩
theorem EB.mk' {l : Tr} {m c : Nat} (h1 : IsE G n l) (h2 : W l false m) (h4 : 6 * ndT l + c + len1 r + h ≤ 2000 + flT r) : EB G n r h c := ⟨l, m, h1, h2, h4⟩
theorem SB.skip {c c' h' : Nat} (hS : SB G n r h c) (h3 : t.k ≠ 3) (h4 : t.k ≠ 4) (hh : h ≤ h') (hc : c' + 1 + h' ≤ c + h) : SB G n (t :: r) h' c' := by
  obtain ⟨l, lp, m, q1, q2, q3, q4⟩ := hS
  exact ⟨l, lp, m, q1, q2, q3.skip h3 h4 hh, by rw [len1_c h3, flT_c h3]; omega⟩
theorem EB.skip {c c' h' : Nat} (hS : EB G n r h c) (h3 : t.k ≠ 3) (hc : c' + 1 + h' ≤ c + h) : EB G n (t :: r) h' c' := by
  obtain ⟨l, m, q1, q2, q4⟩ := hS
  exact ⟨l, m, q1, q2, by rw [len1_c h3, flT_c h3]; omega⟩
theorem SB.le {c c' h' : Nat} (hS : SB G n r h c) (hh : h ≤ h') (hc : c' + h' ≤ c + h) : SB G n r h' c' := by
  obtain ⟨l, lp, m, q1, q2, q3, q4⟩ := hS
  exact ⟨l, lp, m, q1, q2, q3.up hh, by omega⟩
theorem EB.le {c c' h' : Nat} (hS : EB G n r h c) (hc : c' + h' ≤ c + h) : EB G n r h' c' := by
  obtain ⟨l, m, q1, q2, q4⟩ := hS
  exact ⟨l, m, q1, q2, by omega⟩

/-- the loop's foot. -/
theorem brk1_ti : ∀ {T : List Tk} {h : Nat} {r' : List Tk}, TkI G E T h → brk1 T = some (t, r') → TkI G E r' t.x ∧ brkL T = some (t, r') ∧ nR r' = nR T
  | [], h, r', q, hb => by cases hb
  | u :: r, h, r', q, hb => by
    rw [brk1] at hb
    by_cases h3 : u.k = 3
    · rw [if_pos h3] at hb; cases hb
    rw [if_neg h3] at hb
    obtain ⟨-, -, -, -, k, q⟩ := q.inv h3
    by_cases h4 : u.k = 4
    · rw [if_pos h4] at hb
      obtain ⟨rfl, rfl⟩ := Prod.mk.inj (Option.some.inj hb)
      have e1 : u.x = h := by unfold KC at k; rw [if_neg (by omega), if_neg (by omega), if_pos h4] at k; exact k
      have e2 : nextH u h = h := by unfold nextH; rw [h4]; rfl
      rw [e2] at q
      refine ⟨by rw [e1]; exact q, by rw [brkL, if_pos h4], by rw [nR, if_neg h3]⟩
    · rw [if_neg h4] at hb
      obtain ⟨a, b, c⟩ := brk1_ti q hb
      exact ⟨a, by rw [brkL, if_neg h4]; exact b, by rw [nR, if_neg h3]; exact c⟩
/-- the function's foot. -/
theorem ret_ti : ∀ {T : List Tk} {h : Nat}, TkI G E T h → ∃ u r', retL T = some (u, r') ∧ u.k = 3 ∧ u.x = flT T ∧ nR T = nR r' + 1 ∧ u.n ≤ 1 ∧ ((r' = [] ∧ u.n = 0 ∧ u.x = 0) ∨ (r' ≠ [] ∧ TkI G E r' (u.x + 2)))
  | [], h, q => q.elim
  | u :: r, h, q => by
    by_cases h3 : u.k = 3
    · unfold TkI at q
      rw [if_pos h3] at q
      exact ⟨u, r, by rw [retL, if_pos h3], h3, by rw [flT, if_pos h3], by rw [nR, if_pos h3], q.2.1, q.2.2.2.2.2⟩
    · obtain ⟨-, -, -, -, k, q⟩ := q.inv h3
      obtain ⟨v, r', a, b, c, d, f⟩ := ret_ti q
      exact ⟨v, r', by rw [retL, if_neg h3]; exact a, b, by rw [flT, if_neg h3]; exact c, by rw [nR, if_neg h3]; exact d, f⟩
/-- the catcher's foot. -/
theorem thr_ti : ∀ {T : List Tk} {h d : Nat}, TkI G E T h → d = nR T → (∃ u r' , thrL T d = (nR r', some (u, r')) ∧ u.k = 3 ∧ u.x ≤ flT T ∧ nR r' < nR T ∧ r' ≠ [] ∧ TkI G E r' (u.x + 2)) ∨ thrL T d = (0, none)
  | [], h, d, q, hd => q.elim
  | u :: r, h, d, q, hd => by
    by_cases h3 : u.k = 3
    · unfold TkI at q
      rw [if_pos h3] at q
      have hd1 : d - 1 = nR r := by rw [hd, nR, if_pos h3]; omega
      rw [thrL, if_pos h3, hd1]
      have hn : nR r < nR (u :: r) := by rw [nR, if_pos h3]; omega
      rcases q.2.2.2.2.2 with ⟨rfl, e1, e2⟩ | ⟨e1, e2⟩
      · rw [if_neg (by omega)]; exact .inr rfl
      · by_cases e3 : u.n = 1
        · rw [if_pos e3]
          exact .inl ⟨u, r, rfl, h3, by rw [flT, if_pos h3]; exact Nat.le_refl _, hn, e1, e2⟩
        · rw [if_neg e3]
          rcases thr_ti e2 rfl with ⟨v, r', a, b, c, d, f⟩ | a
          · exact .inl ⟨v, r', a, b, by rw [flT, if_pos h3]; have := q.2.2.2.2.1; omega, by omega, f⟩
          · exact .inr a
    · obtain ⟨-, -, -, -, k, q⟩ := q.inv h3
      rw [thrL, if_neg h3]
      have hn : nR (u :: r) = nR r := nR_c h3
      rcases thr_ti (d := d) q (by rw [hd, hn]) with ⟨v, r', a, b, c, d, f⟩ | a
      · exact .inl ⟨v, r', a, b, by rw [flT_c h3]; exact c, by omega, f⟩
      · exact .inr a
end

end Go.Proofs.Qxb6500568aGreatDoor
