import Derived.Test.Qxb6500568aGreatDoorSl
namespace Go.Proofs.Qxb6500568aGreatDoor
open Ieee
set_option linter.unusedVariables false
set_option linter.unusedSimpArgs false
set_option linter.unusedSectionVars false

/-! The arena's nodes hold sound numbers and texts. -/

def NdOK (x : Nd) : Prop := W64 x.N ∧ x.S.length ≤ 40 ∧ (isNaNW x.N = true → x.N = nanB)
theorem small_nan : ∀ n, n ≤ 100000 → W64 n ∧ (isNaNW n = true → n = nanB) := fun n hn => by
  refine ⟨by show n < 18446744073709551616; omega, fun h => ?_⟩
  exfalso
  unfold isNaNW at h
  revert h
  simp only [decide_eq_true_eq]
  unfold rgW infB
  omega
theorem nk0 {K A B C X : Nat} : NdOK ⟨K, A, B, C, X, 0, []⟩ := ⟨(small_nan 0 (by omega)).1, Nat.zero_le _, (small_nan 0 (by omega)).2⟩
theorem nkS {K A B C X : Nat} {s : Str} (h : s.length ≤ 40) : NdOK ⟨K, A, B, C, X, 0, s⟩ := ⟨(small_nan 0 (by omega)).1, h, (small_nan 0 (by omega)).2⟩
theorem nkN {K A B C X n : Nat} (h : n ≤ 100000) : NdOK ⟨K, A, B, C, X, n, []⟩ := ⟨(small_nan n h).1, Nat.zero_le _, (small_nan n h).2⟩

def Nk (l : List Nd) : Prop := ∀ x ∈ l, NdOK x
theorem Nk.nil : Nk [] := fun x hx => by cases hx
theorem Nk.cons {x : Nd} {l : List Nd} (h : NdOK x) (k : Nk l) : Nk (x :: l) := fun y hy => by
  rcases List.mem_cons.1 hy with rfl | hy
  · exact h
  · exact k y hy
theorem Nk.app {l m : List Nd} (h : Nk l) (k : Nk m) : Nk (l ++ m) := fun y hy => by
  rcases List.mem_append.1 hy with hy | hy
  · exact h y hy
  · exact k y hy
theorem Nk.snoc {l : List Nd} {x : Nd} (h : Nk l) (k : NdOK x) : Nk (l ++ [x]) := h.app (.cons k .nil)
theorem Nk.nx {l : List Nd} {n : Nat} (h : Nk l) : Nk (nxL l n) := fun y hy => by
  obtain ⟨i, hi, e⟩ := List.getElem_of_mem hy
  have e : (nxL l n)[i]? = some y := by rw [List.getElem?_eq_getElem hi, e]
  unfold nxL at e
  rw [List.getElem?_modify] at e
  rcases hq : l[i]? with _ | z
  · rw [hq] at e; simp at e
  · rw [hq] at e
    have hz := h z (List.mem_of_getElem? hq)
    simp at e
    subst e
    split
    · exact hz
    · exact hz
theorem layN_nk : ∀ {ps : List Str} {b : Nat}, (∀ s ∈ ps, NmW s) → Nk (layN ps b)
  | [], b, h => .nil
  | p :: l, b, h => .cons (nkS (h p List.mem_cons_self).2) (layN_nk fun s hs => h s (List.mem_cons_of_mem _ hs))
theorem layF_nk {k : Nat} {ps : List Str} {x : Tr} {kx : LK} {b : Nat} (hk : k ≤ 100000) (hp : ∀ s ∈ ps, NmW s) (hx : ∀ b, Nk (kx b)) : Nk (layF k ps x kx b) := ((layN_nk hp).app (hx _)).snoc (nkN hk)
theorem W2.sub {lp : Bool} {n c k : Nat} {s t : Str} {x y : Tr} {wx wy : Bool → Nat → Prop} (h : W2 lp n c k s t x y wx wy) : (∃ l m, wx l m) ∧ ∃ l m, wy l m := by
  unfold W2 at h
  split at h
  · exact ⟨⟨_, _, h.2.1⟩, ⟨_, _, h.2.2⟩⟩
  split at h
  · exact ⟨⟨_, _, h.2.1⟩, ⟨_, _, h.2.2⟩⟩
  split at h
  · exact ⟨⟨_, _, h.1⟩, ⟨_, _, h.2⟩⟩
  split at h
  · exact ⟨⟨_, _, h.2.2.2.2.1⟩, ⟨_, _, h.2.2.2.2.2⟩⟩
  split at h
  · exact ⟨⟨_, _, h.2.1⟩, ⟨_, _, h.2.2⟩⟩
  split at h
  · exact ⟨⟨_, _, h.2.1⟩, ⟨_, _, h.2.2⟩⟩
  split at h
  · exact ⟨⟨_, _, h.2.2.2.2.1⟩, ⟨_, _, h.2.2.2.2.2⟩⟩
  split at h
  · exact ⟨⟨_, _, h.2.2.1⟩, ⟨_, _, h.2.2.2⟩⟩
  · exact ⟨⟨_, _, h.1⟩, ⟨_, _, h.2⟩⟩
theorem W3.sub {lp : Bool} {n c : Nat} {s : Str} {x y z : Tr} {wx wy wz : Bool → Nat → Prop} (h : W3 lp n c s x y z wx wy wz) : (∃ l m, wx l m) ∧ (∃ l m, wy l m) ∧ ∃ l m, wz l m := by
  unfold W3 at h
  split at h
  · exact ⟨⟨_, _, h.2.2.2.1⟩, ⟨_, _, h.2.2.2.2.1⟩, ⟨_, _, h.2.2.2.2.2⟩⟩
  split at h
  · exact ⟨⟨_, _, h.2.1⟩, ⟨_, _, h.2.2.1⟩, ⟨_, _, h.2.2.2⟩⟩
  · exact ⟨⟨_, _, h.2.2.2.2.1⟩, ⟨_, _, h.2.2.2.2.2.1⟩, ⟨_, _, h.2.2.2.2.2.2⟩⟩
theorem nk_all : ∀ (t : Tr) (lp : Bool) (n : Nat), W t lp n → (∀ m ∈ numsT t, m ≤ 100000) → ∀ b, Nk (lay t b)
  | ⟨c, k, s, t, ps, []⟩, lp, n, hw, hn, b => by
    have hw : W0 lp n c k s := hw
    unfold W0 at hw
    show Nk (l0 c k s)
    unfold l0
    by_cases h0 : c = 0
    · rw [if_pos h0]; exact .cons nk0 .nil
    rw [if_neg h0]
    by_cases h1 : c = 1
    · rw [if_pos h1] at hw ⊢; exact .cons ⟨hw.1, Nat.zero_le _, hw.2⟩ .nil
    rw [if_neg h1] at hw ⊢
    by_cases h2 : c = 2
    · rw [if_pos h2] at hw ⊢; exact .cons (nkS hw) .nil
    rw [if_neg h2] at hw ⊢
    by_cases h3 : c = 3
    · rw [if_pos h3] at hw ⊢; exact .cons (nkS hw.2) .nil
    rw [if_neg h3] at hw ⊢
    by_cases h14 : c = 14
    · rw [if_pos h14] at hw ⊢; exact .cons (nkS hw.1.2) .nil
    rw [if_neg h14]
    by_cases h26 : c = 26
    · rw [if_pos h26]; exact .cons nk0 .nil
    rw [if_neg h26]
    by_cases h29 : c = 29
    · rw [if_pos h29]; exact .cons nk0 .nil
    rw [if_neg h29]; exact .nil
  | ⟨c, k, s, t, ps, [x]⟩, lp, n, hw, hn, b => by
    have hw : W1 n c k s ps x (fun l n => W x l n) := hw
    have hn : ∀ m ∈ (if c = 6 then k :: numsT x else if c = 17 then k :: numsT x else numsT x), m ≤ 100000 := hn
    unfold W1 at hw
    show Nk (l1 c k s ps x (fun b => lay x b) b)
    unfold l1
    by_cases h6 : c = 6
    · rw [if_pos h6] at hw hn ⊢; exact layF_nk (hn k List.mem_cons_self) hw.1.2.1 (nk_all x _ _ hw.2 fun m hm => hn m (List.mem_cons_of_mem _ hm))
    rw [if_neg h6] at hw hn ⊢
    by_cases h7 : c = 7
    · subst h7; rw [if_pos rfl] at hw ⊢; exact (nk_all x _ _ hw hn b).snoc nk0
    rw [if_neg h7] at hw ⊢
    by_cases h9 : c = 9
    · subst h9; rw [if_pos rfl] at hw ⊢; exact (nk_all x _ _ hw.2 hn b).snoc (nkN (by omega))
    rw [if_neg h9] at hw ⊢
    by_cases h15 : c = 15
    · subst h15; rw [if_pos rfl] at hw ⊢; exact (nk_all x _ _ hw.2.2.2 hn b).snoc (nkS hw.1.2)
    rw [if_neg h15] at hw ⊢
    by_cases h17 : c = 17
    · rw [if_pos h17] at hw hn ⊢; exact (layF_nk (hn k List.mem_cons_self) hw.2.2.1.2.1 (nk_all x _ _ hw.2.2.2 fun m hm => hn m (List.mem_cons_of_mem _ hm))).snoc (nkS hw.1.2)
    rw [if_neg h17] at hw hn ⊢
    by_cases h18 : c = 18
    · rw [if_pos h18] at hw ⊢; exact Nk.snoc (.cons (nkS hw.1.2) (nk_all x _ _ hw.2.2 hn _)) nk0
    rw [if_neg h18] at hw ⊢
    by_cases h27 : c = 27
    · rw [if_pos h27] at hw ⊢; exact (nk_all x _ _ hw.2 hn b).snoc nk0
    rw [if_neg h27]; exact .nil
  | ⟨c, k, s, t, ps, [x, y]⟩, lp, n, hw, hn, b => by
    have hw : W2 lp n c k s t x y (fun l n => W x l n) (fun l n => W y l n) := hw
    have hn : ∀ m ∈ numsT x ++ numsT y, m ≤ 100000 := hn
    have hnx : ∀ m ∈ numsT x, m ≤ 100000 := fun m hm => hn m (List.mem_append_left _ hm)
    have hny : ∀ m ∈ numsT y, m ≤ 100000 := fun m hm => hn m (List.mem_append_right _ hm)
    obtain ⟨⟨a1, a2, wx⟩, ⟨b1, b2, wy⟩⟩ := W2.sub hw
    have kx := fun b => nk_all x a1 a2 wx hnx b
    have ky := fun b => nk_all y b1 b2 wy hny b
    have two : ∀ (b : Nat) (f : Nat → Nat → Nd), (∀ a d, NdOK (f a d)) → Nk (lay x b ++ lay y (b + ndT x) ++ [f (rt x b) (rt y (b + ndT x))]) := fun b f hf => ((kx b).app (ky _)).snoc (hf _ _)
    show Nk (l2 c k s t x y (fun b => lay x b) (fun b => lay y b) b)
    unfold l2
    dsimp only
    unfold W2 at hw
    by_cases h4 : c = 4
    · rw [if_pos h4]; exact two b _ fun a d => nk0
    rw [if_neg h4]
    by_cases h5 : c = 5
    · rw [if_pos h5]; exact two b _ fun a d => nk0
    rw [if_neg h5] at hw ⊢
    by_cases h8 : c = 8
    · rw [if_pos h8] at hw ⊢; exact two b (fun a d => ⟨22, a, d, 0, 0, k, []⟩) fun a d => nkN (by omega)
    rw [if_neg h8] at hw ⊢
    by_cases h10 : c = 10
    · rw [if_pos h10]; exact two b _ fun a d => nk0
    rw [if_neg h10]
    by_cases h11 : c = 11
    · rw [if_pos h11]; exact two b _ fun a d => nk0
    rw [if_neg h11]
    by_cases h13 : c = 13
    · rw [if_pos h13]; exact (kx b).nx.app (ky _)
    rw [if_neg h13]
    by_cases h31 : c = 31
    · rw [if_pos h31]; exact (kx b).nx.app (ky _)
    rw [if_neg h31] at hw ⊢
    by_cases h16 : c = 16
    · rw [if_pos h16] at hw ⊢; exact ((Nk.cons (nkS hw.1.2) (.cons (nkS hw.2.1.2) .nil)).app (two (b + 2) _ fun a d => nk0)).snoc nk0
    rw [if_neg h16] at hw ⊢
    by_cases h20 : c = 20
    · rw [if_pos h20]; exact (two b _ fun a d => nk0).snoc nk0
    rw [if_neg h20] at hw ⊢
    by_cases h22 : c = 22
    · rw [if_pos h22]; exact two b _ fun a d => nk0
    rw [if_neg h22] at hw ⊢
    by_cases h25 : c = 25
    · rw [if_pos h25] at hw ⊢; exact (Nk.cons (nkS hw.1.2) (.cons (nkS hw.2.1.2) .nil)).app (two (b + 2) (fun a d => ⟨9, b, a, d, 0, 0, []⟩) fun a d => nk0)
    rw [if_neg h25]
    by_cases h28 : c = 28
    · rw [if_pos h28]; exact two b _ fun a d => nk0
    rw [if_neg h28]; exact .nil
  | ⟨c, k, s, t, ps, [x, y, z]⟩, lp, n, hw, hn, b => by
    have hw : W3 lp n c s x y z (fun l n => W x l n) (fun l n => W y l n) (fun l n => W z l n) := hw
    have hn : ∀ m ∈ numsT x ++ (numsT y ++ numsT z), m ≤ 100000 := hn
    have hs : c ≠ 19 → c ≠ 21 → s.length ≤ 40 := fun h1 h2 => by
      unfold W3 at hw
      rw [if_neg h1, if_neg h2] at hw
      exact hw.1.2
    obtain ⟨⟨a1, a2, wx⟩, ⟨b1, b2, wy⟩, ⟨d1, d2, wz⟩⟩ := W3.sub hw
    have kx := fun b => nk_all x a1 a2 wx (fun m hm => hn m (List.mem_append_left _ hm)) b
    have ky := fun b => nk_all y b1 b2 wy (fun m hm => hn m (List.mem_append_right _ (List.mem_append_left _ hm))) b
    have kz := fun b => nk_all z d1 d2 wz (fun m hm => hn m (List.mem_append_right _ (List.mem_append_right _ hm))) b
    show Nk (l3 c s x y z (fun b => lay x b) (fun b => lay y b) (fun b => lay z b) b)
    unfold l3
    by_cases h19 : c = 19
    · rw [if_pos h19]; exact ((((kx b).app (ky _)).snoc nk0).app (kz _)).snoc nk0
    rw [if_neg h19]
    by_cases h21 : c = 21
    · rw [if_pos h21]; exact (((kx b).app (ky _)).app (kz _)).snoc nk0
    rw [if_neg h21]
    by_cases h23 : c = 23
    · rw [if_pos h23]; exact ((((kx b).nx).app (ky _)).app (kz _)).snoc (nkS (hs h19 h21))
    rw [if_neg h23]; exact .nil
  | ⟨c, k, s, t, ps, [x, y, z, w]⟩, lp, n, hw, hn, b => by
    have hw : W4 n s x y z (fun l n => W x l n) (fun l n => W y l n) (fun l n => W z l n) (fun l n => W w l n) := hw
    have hn : ∀ m ∈ numsT x ++ (numsT y ++ (numsT z ++ numsT w)), m ≤ 100000 := hn
    obtain ⟨h1, -, -, -, -, wx, wy, wz, ww⟩ := hw
    have kx := fun b => nk_all x _ _ wx (fun m hm => hn m (List.mem_append_left _ hm)) b
    have ky := fun b => nk_all y _ _ wy (fun m hm => hn m (List.mem_append_right _ (List.mem_append_left _ hm))) b
    have kz := fun b => nk_all z _ _ wz (fun m hm => hn m (List.mem_append_right _ (List.mem_append_right _ (List.mem_append_left _ hm)))) b
    have kw := fun b => nk_all w _ _ ww (fun m hm => hn m (List.mem_append_right _ (List.mem_append_right _ (List.mem_append_right _ hm)))) b
    show Nk (l4 c s x y z w (fun b => lay x b) (fun b => lay y b) (fun b => lay z b) (fun b => lay w b) b)
    unfold l4
    by_cases h24 : c = 24
    · rw [if_pos h24]; exact (((((kx b).nx).app (ky _).nx).app (kz _)).app (kw _)).snoc (nkS h1.2)
    rw [if_neg h24]; exact .nil
  | ⟨c, k, s, t, ps, _ :: _ :: _ :: _ :: _ :: _⟩, lp, n, hw, hn, b => .nil
theorem arena_ok {t : Tr} {k : Nat} (h : TrOK t k) : AOK (arena t) := fun n => by
  have hk : Nk (lay t 1) := nk_all t false 0 h.w (fun m hm => by rw [h.nums, List.mem_range'_1] at hm; have := h.k12; omega) 1
  unfold nd
  rw [List.getD_eq_getElem?_getD]
  rcases hq : (arena t)[n]? with _ | x
  · exact nk0
  · have hx : x ∈ Nd.zero :: lay t 1 := List.mem_of_getElem? hq
    rcases List.mem_cons.1 hx with rfl | hx
    · exact nk0
    · exact hk x hx

end Go.Proofs.Qxb6500568aGreatDoor
