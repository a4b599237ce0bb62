import Derived.Test.Qxb6500570aGreatPn
/- Plain: the text of a lawful arena; the pass from the right lays just that text. -/
namespace Go.Proofs.Qxb6500570aGreat
set_option linter.unusedVariables false
set_option linter.unusedSimpArgs false

/-- The digits of a number, by fuel. -/
def dgF : Nat → Nat → List UInt8 → List UInt8
  | 0, _, a => a
  | f + 1, v, a => if v / 10 = 0 then UInt8.ofNat (48 + v % 10) :: a else dgF f (v / 10) (UInt8.ofNat (48 + v % 10) :: a)
def dgT (v : Nat) : List UInt8 := dgF 9 v []
theorem dgF_len : ∀ (f v : Nat) (a : List UInt8), (dgF f v a).length ≤ f + a.length
  | 0, _, a => by simp [dgF]
  | f + 1, v, a => by
    unfold dgF
    split
    · simp only [List.length_cons]; omega
    · have := dgF_len f (v / 10) (UInt8.ofNat (48 + v % 10) :: a)
      simp only [List.length_cons] at this
      omega
theorem dgF_app : ∀ (f v : Nat) (a b : List UInt8), dgF f v (a ++ b) = dgF f v a ++ b
  | 0, _, a, b => rfl
  | f + 1, v, a, b => by
    unfold dgF
    split
    · rfl
    · exact dgF_app f (v / 10) (UInt8.ofNat (48 + v % 10) :: a) b

def refT (r : Rf) : List UInt8 := (if r.ac = true then [36] else []) ++ [UInt8.ofNat (65 + r.c.toNat)] ++ (if r.ar = true then [36] else []) ++ dgT (r.r + 1).toNat
def opT (o : Nat) : List UInt8 := match o with
  | 1 => [61]
  | 2 => [60, 62]
  | 3 => [60]
  | 4 => [60, 61]
  | 5 => [62]
  | 6 => [62, 61]
  | 7 => [43]
  | 8 => [45]
  | 9 => [42]
  | _ => [47]
def lvl (x : Nd) : Nat := if x.k = 6 then 4 else if x.k = 7 then strg x.o.toNat else 5
def brkT (b : Bool) (t : List UInt8) : List UInt8 := if b = true then 40 :: (t ++ [41]) else t
def lfT (x : Nd) : List UInt8 :=
  if x.k = 1 then dgT x.n.toNat
  else if x.k = 2 then (if x.n = 1 then wTRUE else wFALSE)
  else if x.k = 3 then refT x.p
  else if x.k = 4 then refT x.p ++ 58 :: refT x.q
  else [35, 35]
/-- A node's text without brackets of its own. -/
def txF (n : List Nd) : Nat → Int → List UInt8
  | 0, _ => []
  | f + 1, i =>
    if (ndA n i).k = 6 then 45 :: brkT (decide (lvl (ndA n (ndA n i).a) < 4)) (txF n f (ndA n i).a)
    else if (ndA n i).k = 7 then brkT (decide (lvl (ndA n (ndA n i).a) < (if strg (ndA n i).o.toNat = 1 then 2 else strg (ndA n i).o.toNat))) (txF n f (ndA n i).a) ++ (opT (ndA n i).o.toNat ++ brkT (decide (lvl (ndA n (ndA n i).b) < strg (ndA n i).o.toNat + 1)) (txF n f (ndA n i).b))
    else if (ndA n i).k = 8 then fnm (ndA n i).o.toNat ++ 40 :: (txF n f (ndA n i).a ++ [41])
    else if (ndA n i).k = 9 then (if (ndA n i).b < 0 then txF n f (ndA n i).a else txF n f (ndA n i).b ++ 44 :: txF n f (ndA n i).a)
    else lfT (ndA n i)

/-- Notes: the parent, the brackets. -/
abbrev Nts := Nat → Int × Bool
def kidN (n : List Nd) (N : Nts) (c : Int) (p : Nat) (need : Nat) : Nts := fun j => if j = c.toNat then ((p : Int), decide (lvl (ndA n c) < need)) else N j
def climbF (n : List Nd) (N : Nts) : Nat → Nat → List UInt8 → List UInt8
  | 0, _, T => T
  | f + 1, c, T =>
    if (N c).1 < 0 then T
    else if (ndA n (N c).1).k = 7 ∧ (c : Int) = (ndA n (N c).1).b then opT (ndA n (N c).1).o.toNat ++ T
    else if (ndA n (N c).1).k = 9 ∧ (c : Int) = (ndA n (N c).1).a ∧ 0 ≤ (ndA n (N c).1).b then 44 :: T
    else climbF n N f (N c).1.toNat ((if (N (N c).1.toNat).2 = true then [40] else []) ++ ((if (ndA n (N c).1).k = 6 then [45] else if (ndA n (N c).1).k = 7 ∨ (ndA n (N c).1).k = 9 then [] else fnm (ndA n (N c).1).o.toNat ++ [40]) ++ T))
/-- Node i's turn. -/
def turnN (n : List Nd) (i : Nat) (N : Nts) : Nts :=
  if (ndA n i).k = 6 then kidN n N (ndA n i).a i 4
  else if (ndA n i).k = 7 then kidN n (kidN n N (ndA n i).b i (strg (ndA n i).o.toNat + 1)) (ndA n i).a i (if strg (ndA n i).o.toNat = 1 then 2 else strg (ndA n i).o.toNat)
  else if (ndA n i).k = 8 then kidN n N (ndA n i).a i 1
  else if (ndA n i).k = 9 then (if 0 ≤ (ndA n i).b then kidN n (kidN n N (ndA n i).a i 1) (ndA n i).b i 1 else kidN n N (ndA n i).a i 1)
  else N
def turnT (n : List Nd) (i : Nat) (N : Nts) (T : List UInt8) : List UInt8 :=
  if (ndA n i).k = 6 ∨ (ndA n i).k = 7 ∨ (ndA n i).k = 8 ∨ (ndA n i).k = 9 then (if (N i).2 = true ∨ (ndA n i).k = 8 then 41 :: T else T)
  else climbF n N (n.length - i) i (lfT (ndA n i) ++ (if (N i).2 = true ∨ (ndA n i).k = 8 then 41 :: T else T))
def fillF (n : List Nd) : Nat → Nts → List UInt8 → List UInt8
  | 0, _, T => T
  | i + 1, N, T => fillF n i (turnN n i N) (turnT n i N T)

/-- Parents stand behind their children. -/
def UpOK (n : List Nd) (N : Nts) (i : Nat) : Prop := ∀ j, i ≤ j → j < n.length → (N j).1 = -1 ∨ ((j : Int) < (N j).1 ∧ (N j).1 < n.length)
theorem climb_st {n : List Nd} {N : Nts} : ∀ (g g' c : Nat) (T : List UInt8), UpOK n N c → c < n.length → n.length - c ≤ g → n.length - c ≤ g' → climbF n N g c T = climbF n N g' c T := by
  intro g
  induction g with
  | zero => intro g' c T _ hc h; omega
  | succ g ih =>
    intro g' c T hu hc h h'
    obtain ⟨g', rfl⟩ : ∃ m, g' = m + 1 := ⟨g' - 1, by omega⟩
    unfold climbF
    split
    · rfl
    · rename_i h0
      split
      · rfl
      · split
        · rfl
        · have hp := hu c (Nat.le_refl _) hc
          have hp' : (c : Int) < (N c).1 ∧ (N c).1 < n.length := by
            rcases hp with h | h
            · omega
            · exact h
          exact ih g' _ _ (fun j hj hl => hu j (by omega) hl) (by omega) (by omega) (by omega)
/-- The climb, from a node on. -/
abbrev clm (n : List Nd) (N : Nts) (c : Nat) (T : List UInt8) : List UInt8 := climbF n N (n.length - c) c T
theorem clm_up {n : List Nd} {N : Nts} {c p : Nat} {T : List UInt8} (hu : UpOK n N c) (hp : (N c).1 = (p : Int)) (hc : c < n.length) (h7 : ¬ ((ndA n (p : Nat)).k = 7 ∧ (c : Int) = (ndA n (p : Nat)).b)) (h9 : ¬ ((ndA n (p : Nat)).k = 9 ∧ (c : Int) = (ndA n (p : Nat)).a ∧ 0 ≤ (ndA n (p : Nat)).b)) :
    clm n N c T = clm n N p ((if (N p).2 = true then [40] else []) ++ ((if (ndA n (p : Nat)).k = 6 then [45] else if (ndA n (p : Nat)).k = 7 ∨ (ndA n (p : Nat)).k = 9 then [] else fnm (ndA n (p : Nat)).o.toNat ++ [40]) ++ T)) := by
  have hpp := hu c (Nat.le_refl _) hc
  obtain ⟨m, hm⟩ : ∃ m, n.length - c = m + 1 := ⟨n.length - c - 1, by omega⟩
  show climbF n N (n.length - c) c T = _
  rw [hm]
  conv => lhs; unfold climbF
  rw [hp, if_neg (by omega), if_neg h7, if_neg h9, Int.toNat_natCast]
  exact climb_st _ _ _ _ (fun j hj hl => hu j (by omega) hl) (by omega) (by omega) (by omega)
theorem clm_op {n : List Nd} {N : Nts} {c p : Nat} {T : List UInt8} (hp : (N c).1 = (p : Int)) (hc : c < n.length) (h7 : (ndA n (p : Nat)).k = 7) (hb : (c : Int) = (ndA n (p : Nat)).b) : clm n N c T = opT (ndA n (p : Nat)).o.toNat ++ T := by
  obtain ⟨m, hm⟩ : ∃ m, n.length - c = m + 1 := ⟨n.length - c - 1, by omega⟩
  show climbF n N (n.length - c) c T = _
  rw [hm]
  unfold climbF
  rw [hp, if_neg (by omega), if_pos ⟨h7, hb⟩]
theorem clm_arg {n : List Nd} {N : Nts} {c p : Nat} {T : List UInt8} (hp : (N c).1 = (p : Int)) (hc : c < n.length) (h9 : (ndA n (p : Nat)).k = 9) (ha : (c : Int) = (ndA n (p : Nat)).a) (hb : 0 ≤ (ndA n (p : Nat)).b) : clm n N c T = 44 :: T := by
  obtain ⟨m, hm⟩ : ∃ m, n.length - c = m + 1 := ⟨n.length - c - 1, by omega⟩
  show climbF n N (n.length - c) c T = _
  rw [hm]
  unfold climbF
  rw [hp, if_neg (by omega), if_neg (fun h => by omega), if_pos ⟨h9, ha, hb⟩]

/-- The pass over a lawful part, from its last node down to its first. -/
def FlLaw (n : List Nd) (f lo i : Nat) : Prop := ∃ X : List UInt8, (∀ g, f ≤ g → txF n g i = X) ∧ X.length ≤ 11 * (i + 1 - lo) ∧ ∀ (N : Nts) (T : List UInt8), UpOK n N i → (lvl (ndA n i) = 5 → (N i).2 = false) →
  ∃ N' : Nts, (∀ j, i ≤ j → N' j = N j) ∧ (∀ j, j < lo → N' j = N j) ∧ UpOK n N' lo ∧ fillF n (i + 1) N T = fillF n lo N' (clm n N' i (brkT (N i).2 X ++ T))

theorem strg_bd (o : Nat) : 1 ≤ strg o ∧ strg o ≤ 3 := by
  unfold strg
  split
  · omega
  · split <;> omega
theorem lvl_bd (x : Nd) : 1 ≤ lvl x ∧ lvl x ≤ 5 := by
  have := strg_bd x.o.toNat
  unfold lvl
  split
  · omega
  · split <;> omega
theorem kid_at {n : List Nd} {N : Nts} {c : Int} {p need j : Nat} (h : c = (j : Int)) : kidN n N c p need j = ((p : Int), decide (lvl (ndA n (j : Nat)) < need)) := by
  subst h
  unfold kidN
  rw [if_pos (Int.toNat_natCast j).symm]
theorem kid_ne {n : List Nd} {N : Nts} {c : Int} {p need j : Nat} (h : c.toNat ≠ j) : kidN n N c p need j = N j := by
  unfold kidN
  rw [if_neg (fun e => h e.symm)]
theorem fill_succ (n : List Nd) (i : Nat) (N : Nts) (T : List UInt8) : fillF n (i + 1) N T = fillF n i (turnN n i N) (turnT n i N T) := rfl
theorem brk_eq (b : Bool) (A T : List UInt8) : (if b = true then [40] else []) ++ (A ++ (if b = true then 41 :: T else T)) = brkT b A ++ T := by cases b <;> simp [brkT]
theorem brk_len (b : Bool) (A : List UInt8) : (brkT b A).length ≤ A.length + 2 := by cases b <;> simp [brkT]
theorem dg_len2 {v : Nat} (h : v ≤ 99) : (dgT v).length ≤ 2 := by
  unfold dgT dgF
  split
  · simp
  · unfold dgF
    rw [if_pos (by omega)]
    simp
theorem ref_len {r : Rf} (h : r.r ≤ 98) : (refT r).length ≤ 5 := by
  have := dg_len2 (v := (r.r + 1).toNat) (by omega)
  unfold refT
  simp only [List.length_append]
  cases r.ac <;> cases r.ar <;> simp <;> omega
theorem lf_len {x : Nd} (h : x.p.r ≤ 98 ∧ x.q.r ≤ 98) : (lfT x).length ≤ 11 := by
  have h1 := ref_len h.1
  have h2 := ref_len h.2
  have h3 := dgF_len 9 x.n.toNat []
  unfold lfT
  split
  · unfold dgT; simp only [List.length_nil] at h3; omega
  · split
    · split <;> decide
    · split
      · omega
      · split
        · simp only [List.length_append, List.length_cons]; omega
        · simp
theorem op_len (o : Nat) : (opT o).length ≤ 2 := by unfold opT; split <;> simp
theorem fn_len (o : Nat) : (fnm o).length ≤ 5 := by unfold fnm; split <;> simp
theorem lvl_no {x : Nd} {k : Nat} (h : k ≤ 1) : decide (lvl x < k) = false := decide_eq_false (by have := lvl_bd x; omega)

set_option maxHeartbeats 1000000 in
theorem fill_law {n : List Nd} (hR : ∀ x ∈ n, x.p.r ≤ 98 ∧ x.q.r ≤ 98) : ∀ (f : Nat) (lk : Bool) (k lo i : Nat) (arg : Bool), SgF n f lk k lo i arg → FlLaw n f lo i := by
  intro f
  induction f with
  | zero => intro lk k lo i arg h; exact h.elim
  | succ f ih =>
    intro lk k lo i arg h
    have hle := SgF.le _ _ _ _ _ _ h
    cases lk with
    | false =>
      obtain ⟨x, hx, h⟩ := h
      have hxi := ndA_get hx
      have hleaf : ((x.k = 1 ∨ x.k = 2 ∨ x.k = 3 ∨ x.k = 5 ∨ x.k = 4) ∧ lo = i) ∨ (x.k = 6 ∨ x.k = 7 ∨ x.k = 8) := by
        rcases h with h | h | h | h | h | h | h | h
        · exact .inl ⟨.inl h.1, h.2.2.2⟩
        · exact .inl ⟨.inr (.inl h.1), h.2.2⟩
        · exact .inl ⟨.inr (.inr (.inl h.1)), h.2⟩
        · exact .inl ⟨.inr (.inr (.inr (.inl h.1))), h.2⟩
        · exact .inl ⟨.inr (.inr (.inr (.inr h.1))), h.2.2⟩
        · exact .inr (.inl h.1)
        · exact .inr (.inr (.inl h.1))
        · exact .inr (.inr (.inr h.1))
      rcases hleaf with ⟨hk, rfl⟩ | hk
      · clear h
        have h5 : lvl x = 5 := by unfold lvl; rw [if_neg (by omega), if_neg (by omega)]
        refine ⟨lfT x, fun g hg => ?_, by have := lf_len (hR x (List.mem_of_getElem? hx)); omega, fun N T hu hb => ⟨N, fun _ _ => rfl, fun _ _ => rfl, hu, ?_⟩⟩
        · obtain ⟨g, rfl⟩ : ∃ m, g = m + 1 := ⟨g - 1, by omega⟩
          unfold txF
          rw [hxi, if_neg (by omega), if_neg (by omega), if_neg (by omega), if_neg (by omega)]
        · have hb5 := hb (by rw [hxi]; exact h5)
          have e1 : turnN n lo N = N := by unfold turnN; rw [hxi, if_neg (by omega), if_neg (by omega), if_neg (by omega), if_neg (by omega)]
          have e2 : turnT n lo N T = clm n N lo (lfT x ++ T) := by
            unfold turnT
            rw [hxi, if_neg (by omega), if_neg (by rw [hb5]; simp; omega)]
          rw [fill_succ, e1, e2, hb5]
          rfl
      · rcases h with h | h | h | h | h | ⟨h1, h2, h3, h4⟩ | ⟨h1, h2, h3, o, m, h4, h5, h6, h7, h8, h9, h10, h11⟩ | ⟨h1, h2, h3, fn, kk, h4, h5, h6, h7⟩
        · omega
        · omega
        · omega
        · omega
        · omega
        · have hle4 := SgF.le _ _ _ _ _ _ h4
          have hxa : x.a = ((i - 1 : Nat) : Int) := by omega
          obtain ⟨X, hX, hXl, hL⟩ := ih _ _ _ _ _ h4
          have hbl := brk_len (decide (lvl (ndA n (i - 1 : Nat)) < 4)) X
          refine ⟨45 :: brkT (decide (lvl (ndA n (i - 1 : Nat)) < 4)) X, fun g hg => ?_, by simp only [List.length_cons]; omega, fun N T hu hb => ?_⟩
          · obtain ⟨g, rfl⟩ : ∃ m, g = m + 1 := ⟨g - 1, by omega⟩
            unfold txF
            rw [hxi, if_pos h1, hxa, hX g (by omega)]
          have e1 : turnN n i N = kidN n N x.a i 4 := by unfold turnN; rw [hxi, if_pos h1]
          have e2 : turnT n i N T = (if (N i).2 = true then 41 :: T else T) := by
            unfold turnT
            rw [hxi, if_pos (.inl h1)]
            simp [show x.k ≠ 8 by omega]
          have k0 := kid_at (n := n) (N := N) (p := i) (need := 4) hxa
          obtain ⟨N', g1, g2, g3, g4⟩ := hL (kidN n N x.a i 4) (if (N i).2 = true then 41 :: T else T) (by
              intro j hj hl
              by_cases e : j = i - 1
              · subst e; rw [k0]; right; show ((i - 1 : Nat) : Int) < (i : Int) ∧ (i : Int) < n.length; omega
              · rw [kid_ne (by omega)]; exact hu j (by omega) hl) (by
              intro h5; rw [k0, h5]; rfl)
          rw [show i - 1 + 1 = i by omega] at g4
          have n1 : N' (i - 1) = ((i : Int), decide (lvl (ndA n (i - 1 : Nat)) < 4)) := by rw [g1 _ (Nat.le_refl _), k0]
          have n2 : N' i = N i := by rw [g1 i (by omega), kid_ne (by omega)]
          refine ⟨N', fun j hj => by rw [g1 j (by omega), kid_ne (by omega)], fun j hj => by rw [g2 j hj, kid_ne (by omega)], g3, ?_⟩
          rw [fill_succ, e1, e2, g4, k0, clm_up (p := i) (fun j hj hl => g3 j (by omega) hl) (by rw [n1]) (by omega) (by rw [hxi]; omega) (by rw [hxi]; omega), n2, hxi, if_pos h1, ← brk_eq (N i).2 (45 :: _) T]
          rfl
        · have hleA := SgF.le _ _ _ _ _ _ h10
          have hleB := SgF.le _ _ _ _ _ _ h11
          have hxb : x.b = ((i - 1 : Nat) : Int) := by omega
          have hxa : x.a = ((m - 1 : Nat) : Int) := by omega
          have hsb := strg_bd x.o.toNat
          obtain ⟨XB, hXB, hXBl, hLB⟩ := ih _ _ _ _ _ h10
          obtain ⟨XA, hXA, hXAl, hLA⟩ := ih _ _ _ _ _ h11
          generalize hnA : (if strg x.o.toNat = 1 then 2 else strg x.o.toNat) = nA
          have hnA5 : nA ≤ 5 := by rw [← hnA]; split <;> omega
          have hbl1 := brk_len (decide (lvl (ndA n (m - 1 : Nat)) < nA)) XA
          have hbl2 := brk_len (decide (lvl (ndA n (i - 1 : Nat)) < strg x.o.toNat + 1)) XB
          have hol := op_len x.o.toNat
          refine ⟨brkT (decide (lvl (ndA n (m - 1 : Nat)) < nA)) XA ++ (opT x.o.toNat ++ brkT (decide (lvl (ndA n (i - 1 : Nat)) < strg x.o.toNat + 1)) XB), fun g hg => ?_, by simp only [List.length_append]; omega, fun N T hu hb => ?_⟩
          · obtain ⟨g, rfl⟩ : ∃ m, g = m + 1 := ⟨g - 1, by omega⟩
            unfold txF
            rw [hxi, if_neg (by omega), if_pos h1, hnA, hxa, hxb, hXA g (by omega), hXB g (by omega)]
          have e1 : turnN n i N = kidN n (kidN n N x.b i (strg x.o.toNat + 1)) x.a i nA := by unfold turnN; rw [hxi, if_neg (by omega), if_pos h1, hnA]
          have e2 : turnT n i N T = (if (N i).2 = true then 41 :: T else T) := by
            unfold turnT
            rw [hxi, if_pos (.inr (.inl h1))]
            simp [show x.k ≠ 8 by omega]
          have kA := kid_at (n := n) (N := kidN n N x.b i (strg x.o.toNat + 1)) (p := i) (need := nA) hxa
          have kB : kidN n (kidN n N x.b i (strg x.o.toNat + 1)) x.a i nA (i - 1) = ((i : Int), decide (lvl (ndA n (i - 1 : Nat)) < strg x.o.toNat + 1)) := by rw [kid_ne (by omega)]; exact kid_at hxb
          have kN : ∀ j, j ≠ i - 1 → j ≠ m - 1 → kidN n (kidN n N x.b i (strg x.o.toNat + 1)) x.a i nA j = N j := fun j q1 q2 => by rw [kid_ne (by omega), kid_ne (by omega)]
          generalize kidN n (kidN n N x.b i (strg x.o.toNat + 1)) x.a i nA = N1 at *
          obtain ⟨N2, g1, g2, g3, g4⟩ := hLB N1 (if (N i).2 = true then 41 :: T else T) (by
              intro j hj hl
              by_cases e : j = i - 1
              · subst e; rw [kB]; right; show ((i - 1 : Nat) : Int) < (i : Int) ∧ (i : Int) < n.length; omega
              · rw [kN j e (by omega)]; exact hu j (by omega) hl) (by
              intro h5; rw [kB, h5]; exact decide_eq_false (by omega))
          rw [show i - 1 + 1 = i by omega, clm_op (p := i) (by rw [g1 _ (Nat.le_refl _), kB]) (by omega) (by rw [hxi]; exact h1) (by rw [hxi, hxb]), hxi, kB] at g4
          have a1 : N2 (m - 1) = ((i : Int), decide (lvl (ndA n (m - 1 : Nat)) < nA)) := by rw [g2 _ (by omega), kA]
          obtain ⟨N3, q1, q2, q3, q4⟩ := hLA N2 (opT x.o.toNat ++ (brkT (decide (lvl (ndA n (i - 1 : Nat)) < strg x.o.toNat + 1)) XB ++ (if (N i).2 = true then 41 :: T else T))) (by
              intro j hj hl
              by_cases e : j = m - 1
              · subst e; rw [a1]; right; show ((m - 1 : Nat) : Int) < (i : Int) ∧ (i : Int) < n.length; omega
              · exact g3 j (by omega) hl) (by
              intro h5; rw [a1, h5]; exact decide_eq_false (by omega))
          rw [show m - 1 + 1 = m by omega] at q4
          have n1 : N3 (m - 1) = ((i : Int), decide (lvl (ndA n (m - 1 : Nat)) < nA)) := by rw [q1 _ (Nat.le_refl _), a1]
          have n2 : N3 i = N i := by rw [q1 i (by omega), g1 i (by omega), kN i (by omega) (by omega)]
          refine ⟨N3, fun j hj => by rw [q1 j (by omega), g1 j (by omega), kN j (by omega) (by omega)], fun j hj => by rw [q2 j hj, g2 j (by omega), kN j (by omega) (by omega)], q3, ?_⟩
          rw [fill_succ, e1, e2, g4, q4, clm_up (p := i) (fun j hj hl => q3 j (by omega) hl) (by rw [n1]) (by omega) (by rw [hxi]; omega) (by rw [hxi]; omega), n2, hxi, if_neg (show ¬ x.k = 6 by omega), if_pos (Or.inl h1), a1, ← brk_eq (N i).2 _ T]
          simp only [List.append_assoc, List.nil_append]
        · have hle7 := SgF.le _ _ _ _ _ _ h7
          have hxa : x.a = ((i - 1 : Nat) : Int) := by omega
          have h5' : lvl x = 5 := by unfold lvl; rw [if_neg (by omega), if_neg (by omega)]
          obtain ⟨X, hX, hXl, hL⟩ := ih _ _ _ _ _ h7
          have hfl := fn_len x.o.toNat
          refine ⟨fnm x.o.toNat ++ 40 :: (X ++ [41]), fun g hg => ?_, by simp only [List.length_append, List.length_cons, List.length_nil]; omega, fun N T hu hb => ?_⟩
          · obtain ⟨g, rfl⟩ : ∃ m, g = m + 1 := ⟨g - 1, by omega⟩
            unfold txF
            rw [hxi, if_neg (by omega), if_neg (by omega), if_pos h1, hxa, hX g (by omega)]
          have hb5 := hb (by rw [hxi]; exact h5')
          have e1 : turnN n i N = kidN n N x.a i 1 := by unfold turnN; rw [hxi, if_neg (by omega), if_neg (by omega), if_pos h1]
          have e2 : turnT n i N T = 41 :: T := by
            unfold turnT
            rw [hxi, if_pos (.inr (.inr (.inl h1))), if_pos (.inr h1)]
          have k0 := kid_at (n := n) (N := N) (p := i) (need := 1) hxa
          rw [lvl_no (Nat.le_refl _)] at k0
          obtain ⟨N', g1, g2, g3, g4⟩ := hL (kidN n N x.a i 1) (41 :: T) (by
              intro j hj hl
              by_cases e : j = i - 1
              · subst e; rw [k0]; right; show ((i - 1 : Nat) : Int) < (i : Int) ∧ (i : Int) < n.length; omega
              · rw [kid_ne (by omega)]; exact hu j (by omega) hl) (by
              intro h5; rw [k0])
          rw [show i - 1 + 1 = i by omega] at g4
          have n1 : N' (i - 1) = ((i : Int), false) := by rw [g1 _ (Nat.le_refl _), k0]
          have n2 : N' i = N i := by rw [g1 i (by omega), kid_ne (by omega)]
          refine ⟨N', fun j hj => by rw [g1 j (by omega), kid_ne (by omega)], fun j hj => by rw [g2 j hj, kid_ne (by omega)], g3, ?_⟩
          rw [fill_succ, e1, e2, g4, k0, clm_up (p := i) (fun j hj hl => g3 j (by omega) hl) (by rw [n1]) (by omega) (by rw [hxi]; omega) (by rw [hxi]; omega), n2, hxi, if_neg (show ¬ x.k = 6 by omega), if_neg (show ¬ (x.k = 7 ∨ x.k = 9) by omega), hb5]
          simp [brkT]
    | true =>
      obtain ⟨x, hx, h1, h2, h3, m, h4, h5, h6⟩ := h
      have hxi := ndA_get hx
      have h5' : lvl x = 5 := by unfold lvl; rw [if_neg (by omega), if_neg (by omega)]
      have hle5 := SgF.le _ _ _ _ _ _ h5
      have hxa : x.a = ((i - 1 : Nat) : Int) := by omega
      obtain ⟨X, hX, hXl, hL⟩ := ih _ _ _ _ _ h5
      rcases h6 with ⟨rfl, hxb, rfl⟩ | ⟨hk, hm1, hxb, hl6⟩
      · refine ⟨X, fun g hg => ?_, by omega, fun N T hu hb => ?_⟩
        · obtain ⟨g, rfl⟩ : ∃ m, g = m + 1 := ⟨g - 1, by omega⟩
          unfold txF
          rw [hxi, if_neg (by omega), if_neg (by omega), if_neg (by omega), if_pos h1, if_pos (by omega), hxa, hX g (by omega)]
        have hb5 := hb (by rw [hxi]; exact h5')
        have e1 : turnN n i N = kidN n N x.a i 1 := by unfold turnN; rw [hxi, if_neg (by omega), if_neg (by omega), if_neg (by omega), if_pos h1, if_neg (by omega)]
        have e2 : turnT n i N T = T := by
          unfold turnT
          rw [hxi, if_pos (.inr (.inr (.inr h1))), if_neg (by rw [hb5]; simp; omega)]
        have k0 := kid_at (n := n) (N := N) (p := i) (need := 1) hxa
        rw [lvl_no (Nat.le_refl _)] at k0
        obtain ⟨N', g1, g2, g3, g4⟩ := hL (kidN n N x.a i 1) T (by
            intro j hj hl
            by_cases e : j = i - 1
            · subst e; rw [k0]; right; show ((i - 1 : Nat) : Int) < (i : Int) ∧ (i : Int) < n.length; omega
            · rw [kid_ne (by omega)]; exact hu j (by omega) hl) (by
            intro h5; rw [k0])
        rw [show i - 1 + 1 = i by omega] at g4
        have n1 : N' (i - 1) = ((i : Int), false) := by rw [g1 _ (Nat.le_refl _), k0]
        have n2 : N' i = N i := by rw [g1 i (by omega), kid_ne (by omega)]
        refine ⟨N', fun j hj => by rw [g1 j (by omega), kid_ne (by omega)], fun j hj => by rw [g2 j hj, kid_ne (by omega)], g3, ?_⟩
        rw [fill_succ, e1, e2, g4, k0, clm_up (p := i) (fun j hj hl => g3 j (by omega) hl) (by rw [n1]) (by omega) (by rw [hxi]; omega) (by rw [hxi]; omega), n2, hxi, if_neg (show ¬ x.k = 6 by omega), if_pos (Or.inr h1), hb5]
        simp [brkT]
      · obtain ⟨XL, hXL, hXLl, hLL⟩ := ih _ _ _ _ _ hl6
        have hleL := SgF.le _ _ _ _ _ _ hl6
        have hxb' : x.b = ((m - 1 : Nat) : Int) := by omega
        refine ⟨XL ++ 44 :: X, fun g hg => ?_, by simp only [List.length_append, List.length_cons]; omega, fun N T hu hb => ?_⟩
        · obtain ⟨g, rfl⟩ : ∃ m, g = m + 1 := ⟨g - 1, by omega⟩
          unfold txF
          rw [hxi, if_neg (by omega), if_neg (by omega), if_neg (by omega), if_pos h1, if_neg (by omega), hxa, hxb', hX g (by omega), hXL g (by omega)]
        have hb5 := hb (by rw [hxi]; exact h5')
        have e1 : turnN n i N = kidN n (kidN n N x.a i 1) x.b i 1 := by unfold turnN; rw [hxi, if_neg (by omega), if_neg (by omega), if_neg (by omega), if_pos h1, if_pos (by omega)]
        have e2 : turnT n i N T = T := by
          unfold turnT
          rw [hxi, if_pos (.inr (.inr (.inr h1))), if_neg (by rw [hb5]; simp; omega)]
        have kA := kid_at (n := n) (N := kidN n N x.a i 1) (p := i) (need := 1) hxb'
        rw [lvl_no (Nat.le_refl _)] at kA
        have kB : kidN n (kidN n N x.a i 1) x.b i 1 (i - 1) = ((i : Int), false) := by rw [kid_ne (by omega), kid_at hxa, lvl_no (Nat.le_refl _)]
        have kN : ∀ j, j ≠ i - 1 → j ≠ m - 1 → kidN n (kidN n N x.a i 1) x.b i 1 j = N j := fun j q1 q2 => by rw [kid_ne (by omega), kid_ne (by omega)]
        generalize kidN n (kidN n N x.a i 1) x.b i 1 = N1 at *
        obtain ⟨N2, g1, g2, g3, g4⟩ := hL N1 T (by
            intro j hj hl
            by_cases e : j = i - 1
            · subst e; rw [kB]; right; show ((i - 1 : Nat) : Int) < (i : Int) ∧ (i : Int) < n.length; omega
            · rw [kN j e (by omega)]; exact hu j (by omega) hl) (by
            intro h5; rw [kB])
        rw [show i - 1 + 1 = i by omega, clm_arg (p := i) (by rw [g1 _ (Nat.le_refl _), kB]) (by omega) (by rw [hxi]; exact h1) (by rw [hxi, hxa]) (by rw [hxi]; omega), kB] at g4
        have a1 : N2 (m - 1) = ((i : Int), false) := by rw [g2 _ (by omega), kA]
        obtain ⟨N3, q1, q2, q3, q4⟩ := hLL N2 (44 :: (brkT false X ++ T)) (by
            intro j hj hl
            by_cases e : j = m - 1
            · subst e; rw [a1]; right; show ((m - 1 : Nat) : Int) < (i : Int) ∧ (i : Int) < n.length; omega
            · exact g3 j (by omega) hl) (by
            intro h5; rw [a1])
        rw [show m - 1 + 1 = m by omega] at q4
        have n1 : N3 (m - 1) = ((i : Int), false) := by rw [q1 _ (Nat.le_refl _), a1]
        have n2 : N3 i = N i := by rw [q1 i (by omega), g1 i (by omega), kN i (by omega) (by omega)]
        refine ⟨N3, fun j hj => by rw [q1 j (by omega), g1 j (by omega), kN j (by omega) (by omega)], fun j hj => by rw [q2 j hj, g2 j (by omega), kN j (by omega) (by omega)], q3, ?_⟩
        rw [fill_succ, e1, e2, g4, q4, clm_up (p := i) (fun j hj hl => q3 j (by omega) hl) (by rw [n1]) (by omega) (by rw [hxi]; omega) (by rw [hxi]; omega), n2, hxi, if_neg (show ¬ x.k = 6 by omega), if_pos (Or.inr h1), a1, hb5]
        simp [brkT]

end Go.Proofs.Qxb6500570aGreat
