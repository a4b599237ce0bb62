import Derived.Test.Qxb6500567aGreatDb
/- The builder of core forms, plain: a stack of tasks lays the tree in post-order. -/
namespace Go.Proofs.Qxb6500567aGreat
set_option linter.unusedVariables false
set_option linter.unusedSimpArgs false

/-- A node. -/
structure PN where
  k : Nat
  a : Int
  b : Int
  mn : Int
  mx : Int
  cap : Int
  lz : Bool
  S : Nat

def nd (k : Nat) (a b : Int) : PN := ⟨k, a, b, 0, 0, 0, false, 0⟩
/-- Moved by d. -/
def PN.sh (d : Int) (x : PN) : PN := { x with a := if 0 ≤ x.a then x.a + d else x.a, b := if 0 ≤ x.b then x.b + d else x.b }

/-- Post-order, from place L on. -/
def pl : RE → Nat → List PN
  | .seq a b, L => pl a L ++ pl b (L + nds a) ++ [nd 4 ((L + nds a : Nat) - 1 : Int) ((L + nds a + nds b : Nat) - 1 : Int)]
  | .cond _ a b, L => pl a L ++ pl b (L + nds a) ++ [nd 5 ((L + nds a : Nat) - 1 : Int) ((L + nds a + nds b : Nat) - 1 : Int)]
  | .rangeFunc _ _ x a, L => pl a L ++ [⟨6, ((L + nds a : Nat) - 1 : Int), -1, rmn x, mxI (rmx x), 0, rlz x, 0⟩]
  | .block g a, L => pl a L ++ [⟨7, ((L + nds a : Nat) - 1 : Int), -1, 0, 0, g, false, 0⟩]
  | .goto S, _ => [⟨1, -1, -1, 0, 0, 0, false, S⟩]
  | .ret, _ => [nd 2 (-1) (-1)]
  | .label _, _ => [nd 3 (-1) (-1)]
  | .skip, _ => [nd 0 (-1) (-1)]
  | .region _ _ _, _ => [nd 0 (-1) (-1)]
  | .loop _, _ => [nd 0 (-1) (-1)]
  | .exit _, _ => [nd 0 (-1) (-1)]
  | .scope _, _ => [nd 0 (-1) (-1)]
  | .refuse _, _ => [nd 0 (-1) (-1)]

theorem pl_len : ∀ (r : RE) (L : Nat), (pl r L).length = nds r := by
  intro r
  induction r with
  | seq a b ia ib => intro L; simp [pl, nds, ia, ib]; try omega
  | cond c a b ia ib => intro L; simp [pl, nds, ia, ib]; try omega
  | rangeFunc _ _ x a _ ia => intro L; simp [pl, nds, ia]; try omega
  | block g a ia => intro L; simp [pl, nds, ia]; try omega
  | goto _ | ret | label _ | skip | region _ _ _ | loop _ _ | exit _ | scope _ _ | refuse _ => intro L; simp [pl, nds]

theorem pl_sh : ∀ (r : RE) (L d : Nat), (pl r L).map (PN.sh d) = pl r (L + d) := by
  have e : ∀ x : Nat, 0 < x → ∀ d : Nat, (if 0 ≤ ((x : Nat) : Int) - 1 then ((x : Nat) : Int) - 1 + (d : Int) else ((x : Nat) : Int) - 1) = ((x + d : Nat) : Int) - 1 := by
    intro x hx d; rw [if_pos (by omega)]; omega
  intro r
  induction r with
  | seq a b ia ib =>
    intro L d
    have h1 := nds_pos a
    simp only [pl, List.map_append, ia, ib, List.map_cons, List.map_nil, PN.sh, nd, e _ (show 0 < L + nds a by omega), e _ (show 0 < L + nds a + nds b by omega)]
    rw [show L + nds a + d = L + d + nds a by omega, show L + nds a + nds b + d = L + d + nds a + nds b by omega]
  | cond c a b ia ib =>
    intro L d
    have h1 := nds_pos a
    simp only [pl, List.map_append, ia, ib, List.map_cons, List.map_nil, PN.sh, nd, e _ (show 0 < L + nds a by omega), e _ (show 0 < L + nds a + nds b by omega)]
    rw [show L + nds a + d = L + d + nds a by omega, show L + nds a + nds b + d = L + d + nds a + nds b by omega]
  | rangeFunc _ _ x a _ ia =>
    intro L d
    have h1 := nds_pos a
    simp only [pl, List.map_append, ia, List.map_cons, List.map_nil, PN.sh, e _ (show 0 < L + nds a by omega)]
    rw [show L + nds a + d = L + d + nds a by omega]
    rfl
  | block g a ia =>
    intro L d
    have h1 := nds_pos a
    simp only [pl, List.map_append, ia, List.map_cons, List.map_nil, PN.sh, e _ (show 0 < L + nds a by omega)]
    rw [show L + nds a + d = L + d + nds a by omega]
    rfl
  | goto _ | ret | label _ | skip | region _ _ _ | loop _ _ | exit _ | scope _ _ | refuse _ => intro L d; rfl

/-! ### The operations -/

def addB (o : List PN) (x : PN) : List PN := if o.length < 31 then o ++ [x] else o
def top (o : List PN) : Int := (o.length : Int) - 1
def rootB (rs : List Int) (r : Int) : List Int := if rs.length < 25 then r :: rs else rs
def popB : List Int → Int × List Int
  | [] => (-1, [])
  | r :: rs => (r, rs)

theorem addB_room {o : List PN} {x : PN} (h : o.length < 31) : addB o x = o ++ [x] := if_pos h
theorem rootB_room {rs : List Int} {r : Int} (h : rs.length < 25) : rootB rs r = r :: rs := if_pos h

/-- A run is copied. -/
def cpL (U : List PN) (d : Int) (o : List PN) : List PN := U.foldl (fun q x => addB q (x.sh d)) o
def cpB (o : List PN) (fr to : Nat) : List PN := cpL ((o.drop fr).take (to - fr)) ((o.length : Int) - fr) o

theorem cpL_room : ∀ (U : List PN) (d : Int) (o : List PN), o.length + U.length ≤ 31 → cpL U d o = o ++ U.map (PN.sh d)
  | [], d, o, _ => by simp [cpL]
  | x :: U, d, o, h => by
    have ih := cpL_room U d (o ++ [x.sh d]) (by simp at h ⊢; omega)
    unfold cpL at ih ⊢
    rw [List.foldl_cons, addB_room (by simp at h; omega), ih]
    simp

/-- The run of y stands at fr. -/
def Has (o : List PN) (fr : Nat) (y : RE) : Prop := ∃ A C, o = A ++ pl y fr ++ C ∧ A.length = fr

theorem Has.more {o : List PN} {fr : Nat} {y : RE} (h : Has o fr y) (D : List PN) : Has (o ++ D) fr y := by
  obtain ⟨A, C, rfl, hA⟩ := h
  exact ⟨A, C ++ D, by simp, hA⟩

theorem cpB_room {o : List PN} {fr : Nat} {y : RE} (h : Has o fr y) (hr : o.length + nds y ≤ 31) : cpB o fr (fr + nds y) = o ++ pl y o.length := by
  obtain ⟨A, C, rfl, hA⟩ := h
  have hU : ((A ++ pl y fr ++ C).drop fr).take (fr + nds y - fr) = pl y fr := by
    rw [List.append_assoc, ← hA, List.drop_left]
    rw [show A.length + nds y - A.length = nds y by omega, ← pl_len y A.length, List.take_left]
  unfold cpB
  rw [hU, cpL_room _ _ _ (by rw [pl_len]; omega)]
  have hl : (A ++ pl y fr ++ C).length = fr + ((A ++ pl y fr ++ C).length - fr) := by simp only [List.length_append, hA]; omega
  congr 1
  rw [show (((A ++ pl y fr ++ C).length : Int) - fr) = (((A ++ pl y fr ++ C).length - fr : Nat) : Int) by omega, pl_sh, ← hl]

/-! ### Options -/

def dnB (lz : Bool) (fr to : Nat) (e : Int) : Nat → List PN → Bool → List (Int × Int) → List PN × List (Int × Int)
  | 0, o, _, l => (o, l)
  | k + 1, o, true, l => dnB lz fr to e k (cpB (if lz then addB o (nd 0 (-1) (-1)) else o) fr to) true ((if lz then top (addB o (nd 0 (-1) (-1))) else -1, top (cpB (if lz then addB o (nd 0 (-1) (-1)) else o) fr to)) :: l)
  | k + 1, o, false, l => dnB lz fr to e k o true ((e, (to : Int) - 1) :: l)

/-- One option is closed. -/
def upO (lz : Bool) (o : List PN) (e x : Int) : List PN := if lz then addB o (nd 5 e x) else addB (addB o (nd 0 (-1) (-1))) (nd 5 x (top (addB o (nd 0 (-1) (-1)))))

def upB (lz : Bool) : List (Int × Int) → List PN → Int → List PN × Int
  | [], o, i => (o, i)
  | (e, x) :: l, o, i => if 0 ≤ i then upB lz l (upO lz (addB o (nd 4 x i)) e (top (addB o (nd 4 x i)))) (top (upO lz (addB o (nd 4 x i)) e (top (addB o (nd 4 x i))))) else upB lz l (upO lz o e x) (top (upO lz o e x))

def opB (k : Nat) (lz : Bool) (fr to : Nat) (used : Bool) (e : Int) (o : List PN) : List PN × Int := upB lz (dnB lz fr to e k o used []).2 (dnB lz fr to e k o used []).1 (-1)

theorem top_app {o D : List PN} : top (o ++ D) = ((o.length + D.length : Nat) : Int) - 1 := by simp [top]

theorem optn_1 (y : RE) (lz : Bool) : optn y lz 1 = if lz then .alt .emp y else .alt y .emp := by simp [optn]
theorem optn_2 (y : RE) (lz : Bool) (k : Nat) : optn y lz (k + 1 + 1) = if lz then .alt .emp (.cat y (optn y lz (k + 1))) else .alt (.cat y (optn y lz (k + 1))) .emp := by
  conv => lhs; unfold optn
  simp

theorem nds_optn2 (y : RE) (lz : Bool) (k : Nat) : nds (optn y lz (k + 1 + 1)) = nds (optn y lz (k + 1)) + nds y + 3 := by
  rw [optn_2]
  cases lz <;> simp [nds_alt, nds_cat, nds_emp] <;> omega

/-- The innermost is closed. -/
theorem up_one {y : RE} {lz : Bool} {o : List PN} {l : List (Int × Int)} (hr : o.length + nds (optn y lz 1) ≤ 31) :
    upB lz ((if lz then ((o.length : Nat) : Int) else -1, ((o.length + (if lz then 1 else 0) + nds y : Nat) : Int) - 1) :: l) (o ++ (if lz then [nd 0 (-1) (-1)] else []) ++ pl y (o.length + if lz then 1 else 0)) (-1) =
      upB lz l (o ++ pl (optn y lz 1) o.length) (((o.length + nds (optn y lz 1) : Nat) : Int) - 1) := by
  rw [optn_1] at hr ⊢
  have hy := nds_pos y
  cases lz
  · simp only [Bool.false_eq_true, if_false, nds_alt, nds_emp, List.append_nil, Nat.add_zero] at hr ⊢
    rw [upB, if_neg (by omega)]
    have e1 : upO false (o ++ pl y o.length) (-1) (((o.length + nds y : Nat) : Int) - 1) = o ++ pl (.alt y .emp) o.length := by
      unfold upO
      simp only [Bool.false_eq_true, if_false]
      rw [addB_room (o := o ++ pl y o.length) (by simp [pl_len]; omega), addB_room (o := o ++ pl y o.length ++ [nd 0 (-1) (-1)]) (by simp [pl_len]; omega), top_app]
      simp [pl, pl_len, nds]
    rw [e1, top_app, pl_len, nds_alt, nds_emp]
  · simp only [if_true, nds_alt, nds_emp] at hr ⊢
    rw [upB, if_neg (by omega)]
    have e1 : upO true (o ++ [nd 0 (-1) (-1)] ++ pl y (o.length + 1)) (o.length : Int) (((o.length + 1 + nds y : Nat) : Int) - 1) = o ++ pl (.alt .emp y) o.length := by
      unfold upO
      simp only [if_true]
      rw [addB_room (by simp [pl_len]; omega)]
      simp [pl, pl_len, nds]
    rw [e1, top_app, pl_len, nds_alt, nds_emp]

/-- One more around. -/
theorem up_more {y : RE} {lz : Bool} {k : Nat} {o : List PN} {l : List (Int × Int)} (hr : o.length + nds (optn y lz (k + 1 + 1)) ≤ 31) :
    upB lz ((if lz then ((o.length : Nat) : Int) else -1, ((o.length + (if lz then 1 else 0) + nds y : Nat) : Int) - 1) :: l) (o ++ (if lz then [nd 0 (-1) (-1)] else []) ++ pl y (o.length + if lz then 1 else 0) ++ pl (optn y lz (k + 1)) (o.length + (if lz then 1 else 0) + nds y)) (((o.length + (if lz then 1 else 0) + nds y + nds (optn y lz (k + 1)) : Nat) : Int) - 1) =
      upB lz l (o ++ pl (optn y lz (k + 1 + 1)) o.length) (((o.length + nds (optn y lz (k + 1 + 1)) : Nat) : Int) - 1) := by
  have hy := nds_pos y
  have ht := nds_pos (optn y lz (k + 1))
  generalize hT : optn y lz (k + 1) = t at *
  rw [optn_2, hT] at hr ⊢
  cases lz
  · simp only [Bool.false_eq_true, if_false, nds_alt, nds_emp, nds_cat, List.append_nil, Nat.add_zero] at hr ⊢
    rw [upB, if_pos (by omega)]
    have e0 : addB (o ++ pl y o.length ++ pl t (o.length + nds y)) (nd 4 (((o.length + nds y : Nat) : Int) - 1) (((o.length + nds y + nds t : Nat) : Int) - 1)) = o ++ pl (.cat y t) o.length := by
      rw [addB_room (by simp [pl_len]; omega)]
      simp [pl]
    rw [e0, top_app, pl_len]
    have e1 : upO false (o ++ pl (.cat y t) o.length) (-1) (((o.length + nds (.cat y t) : Nat) : Int) - 1) = o ++ pl (.alt (.cat y t) .emp) o.length := by
      unfold upO
      simp only [Bool.false_eq_true, if_false]
      rw [addB_room (o := o ++ pl (.cat y t) o.length) (by simp only [List.length_append, pl_len, nds_cat]; omega), addB_room (o := o ++ pl (.cat y t) o.length ++ [nd 0 (-1) (-1)]) (by simp only [List.length_append, pl_len, nds_cat, List.length_cons, List.length_nil]; omega), top_app]
      simp [pl, pl_len, nds]
      congr 1 <;> omega
    rw [e1, top_app, pl_len, nds_alt, nds_emp, nds_cat]
  · simp only [if_true, nds_alt, nds_emp, nds_cat] at hr ⊢
    rw [upB, if_pos (by omega)]
    have e0 : addB (o ++ [nd 0 (-1) (-1)] ++ pl y (o.length + 1) ++ pl t (o.length + 1 + nds y)) (nd 4 (((o.length + 1 + nds y : Nat) : Int) - 1) (((o.length + 1 + nds y + nds t : Nat) : Int) - 1)) = o ++ [nd 0 (-1) (-1)] ++ pl (.cat y t) (o.length + 1) := by
      rw [addB_room (by simp [pl_len]; omega)]
      simp [pl]
    rw [e0, top_app, pl_len]
    have e1 : upO true (o ++ [nd 0 (-1) (-1)] ++ pl (.cat y t) (o.length + 1)) (o.length : Int) ((((o ++ [nd 0 (-1) (-1)]).length + nds (.cat y t) : Nat) : Int) - 1) = o ++ pl (.alt .emp (.cat y t)) o.length := by
      unfold upO
      simp only [if_true]
      rw [addB_room (by simp [pl_len, nds_cat]; omega)]
      simp [pl, pl_len, nds]
    rw [e1, top_app, pl_len, nds_alt, nds_emp, nds_cat]

/-- Laid downward with copies, closed upward. -/
theorem op_used {y : RE} {lz : Bool} {fr : Nat} {e : Int} : ∀ (k : Nat) (o : List PN) (l : List (Int × Int)), Has o fr y → o.length + nds (optn y lz (k + 1)) ≤ 31 →
    upB lz (dnB lz fr (fr + nds y) e (k + 1) o true l).2 (dnB lz fr (fr + nds y) e (k + 1) o true l).1 (-1) = upB lz l (o ++ pl (optn y lz (k + 1)) o.length) (((o.length + nds (optn y lz (k + 1)) : Nat) : Int) - 1) := by
  intro k
  have hy := nds_pos y
  induction k with
  | zero =>
    intro o l hH hr
    simp only [Nat.zero_add] at hr ⊢
    rw [← up_one hr]
    have hn : nds (optn y lz 1) = nds y + 2 := by have := nds_optn y lz 0; simp only [Nat.zero_add] at this; omega
    simp only [dnB]
    cases lz
    · simp only [Bool.false_eq_true, if_false, List.append_nil, Nat.add_zero]
      rw [cpB_room hH (by omega), top_app, pl_len]
    · simp only [if_true]
      rw [addB_room (by omega), cpB_room (hH.more _) (by simp; omega), top_app, top_app]
      simp [pl_len]
  | succ k ih =>
    intro o l hH hr
    rw [← up_more hr]
    have hn := nds_optn2 y lz k
    rw [dnB]
    cases lz
    · simp only [Bool.false_eq_true, if_false, List.append_nil, Nat.add_zero]
      rw [cpB_room hH (by omega), top_app, pl_len]
      rw [ih (o ++ pl y o.length) _ (hH.more _) (by simp [pl_len]; omega)]
      simp [pl_len]
    · simp only [if_true]
      rw [addB_room (by omega), cpB_room (hH.more _) (by simp; omega), top_app, top_app]
      rw [ih _ _ ((hH.more _).more _) (by simp [pl_len]; omega)]
      simp [pl_len]
      rw [show o.length + (nds y + 1) = o.length + 1 + nds y by omega, show ((o.length : Int) + ((nds y : Int) + 1)) = (o.length : Int) + 1 + (nds y : Int) by omega]

theorem op_ok1 {y : RE} {lz : Bool} {fr : Nat} {e : Int} {k : Nat} {o : List PN} (hH : Has o fr y) (hr : o.length + nds (optn y lz (k + 1)) ≤ 31) :
    opB (k + 1) lz fr (fr + nds y) true e o = (o ++ pl (optn y lz (k + 1)) o.length, ((o.length + nds (optn y lz (k + 1)) : Nat) : Int) - 1) := by
  unfold opB
  rw [op_used k o [] hH hr]
  rfl

/-- The first copy is the outermost's. -/
theorem op_ok0 {y : RE} {lz : Bool} {k : Nat} {O : List PN} (hr : O.length + nds (optn y lz (k + 1)) ≤ 31) :
    opB (k + 1) lz (O.length + if lz then 1 else 0) (O.length + (if lz then 1 else 0) + nds y) false (if lz then (O.length : Int) else -1) (O ++ (if lz then [nd 0 (-1) (-1)] else []) ++ pl y (O.length + if lz then 1 else 0)) = (O ++ pl (optn y lz (k + 1)) O.length, ((O.length + nds (optn y lz (k + 1)) : Nat) : Int) - 1) := by
  unfold opB
  rw [dnB]
  have hH : Has (O ++ (if lz then [nd 0 (-1) (-1)] else []) ++ pl y (O.length + if lz then 1 else 0)) (O.length + if lz then 1 else 0) y := ⟨O ++ (if lz then [nd 0 (-1) (-1)] else []), [], by simp, by cases lz <;> simp⟩
  cases k with
  | zero =>
    rw [dnB, up_one hr]
    rfl
  | succ k =>
    have hn := nds_optn2 y lz k
    have hlen : (O ++ (if lz then [nd 0 (-1) (-1)] else []) ++ pl y (O.length + if lz then 1 else 0)).length = O.length + (if lz then 1 else 0) + nds y := by cases lz <;> simp [pl_len] <;> omega
    rw [op_used k _ _ hH (by rw [hlen]; cases lz <;> simp <;> omega), hlen]
    rw [up_more hr]
    rfl

/-! ### Unrolling -/

def unL (fr to : Nat) (first : Int) : Nat → List PN → Int → Bool → List PN × Int × Bool
  | 0, o, acc, used => (o, acc, used)
  | k + 1, o, acc, used => if acc < 0 then unL fr to first k (if used then cpB o fr to else o) (if used then top (cpB o fr to) else first) true
    else unL fr to first k (addB (if used then cpB o fr to else o) (nd 4 acc (if used then top (cpB o fr to) else first))) (top (addB (if used then cpB o fr to else o) (nd 4 acc (if used then top (cpB o fr to) else first)))) true

theorem un_more {y : RE} {O : List PN} {first : Int} : ∀ (k j : Nat), O.length + nds (chn y (j + k)) ≤ 31 →
    unL O.length (O.length + nds y) first k (O ++ pl (chn y j) O.length) (((O.length + nds (chn y j) : Nat) : Int) - 1) true = (O ++ pl (chn y (j + k)) O.length, ((O.length + nds (chn y (j + k)) : Nat) : Int) - 1, true) := by
  intro k
  have hy := nds_pos y
  induction k with
  | zero => intro j _; rfl
  | succ k ih =>
    intro j hr
    have hp := nds_pos (chn y j)
    have hmono : nds (chn y (j + 1)) ≤ nds (chn y (j + (k + 1))) := by
      rw [nds_chn, nds_chn]
      have : (j + 1 + 1) * nds y ≤ (j + (k + 1) + 1) * nds y := Nat.mul_le_mul_right _ (by omega)
      omega
    have hn : nds (chn y (j + 1)) = nds (chn y j) + nds y + 1 := by rw [chn, nds_cat]
    have hH : Has (O ++ pl (chn y j) O.length) O.length y := by
      have : ∀ j, ∃ C, pl (chn y j) O.length = pl y O.length ++ C := by
        intro j
        induction j with
        | zero => exact ⟨[], by simp [chn]⟩
        | succ j ij =>
          obtain ⟨C, hC⟩ := ij
          exact ⟨C ++ pl y (O.length + nds (chn y j)) ++ [nd 4 ((O.length + nds (chn y j) : Nat) - 1 : Int) ((O.length + nds (chn y j) + nds y : Nat) - 1 : Int)], by rw [chn, pl, hC]; simp⟩
      obtain ⟨C, hC⟩ := this j
      exact ⟨O, C, by rw [hC]; simp, rfl⟩
    rw [unL, if_neg (by omega)]
    simp only [if_true]
    rw [cpB_room hH (by simp [pl_len]; omega), top_app]
    rw [addB_room (by simp [pl_len]; omega)]
    have e1 : O ++ pl (chn y j) O.length ++ pl y (O ++ pl (chn y j) O.length).length ++ [nd 4 (((O.length + nds (chn y j) : Nat) : Int) - 1) ((((O ++ pl (chn y j) O.length).length + (pl y (O ++ pl (chn y j) O.length).length).length : Nat) : Int) - 1)] = O ++ pl (chn y (j + 1)) O.length := by
      rw [chn, pl]
      simp [pl_len]
    rw [e1, top_app, pl_len, ih (j + 1) (by rw [show j + 1 + k = j + (k + 1) by omega]; exact hr), show j + 1 + k = j + (k + 1) by omega]

theorem un_ok {y : RE} {O : List PN} {k : Nat} (hr : O.length + nds (chn y k) ≤ 31) :
    unL O.length (O.length + nds y) (((O.length + nds y : Nat) : Int) - 1) (k + 1) (O ++ pl y O.length) (-1) false = (O ++ pl (chn y k) O.length, ((O.length + nds (chn y k) : Nat) : Int) - 1, true) := by
  rw [unL, if_pos (by omega)]
  simp only [Bool.false_eq_true, if_false]
  have := un_more (first := ((O.length + nds y : Nat) : Int) - 1) k 0 (by rw [Nat.zero_add]; exact hr)
  rw [Nat.zero_add] at this
  exact this

def tlB (x : PN) (fr to : Nat) (first e : Int) (o : List PN) (used : Bool) : List PN × Int :=
  if x.mx < 0 then (addB (if used then cpB o fr to else o) ⟨6, if used then top (cpB o fr to) else first, -1, 0, -1, 0, x.lz, 0⟩, top (addB (if used then cpB o fr to else o) ⟨6, if used then top (cpB o fr to) else first, -1, 0, -1, 0, x.lz, 0⟩))
  else if x.mn < x.mx then opB (x.mx - x.mn).toNat x.lz fr to used e o else (o, -1)

def unrB (x : PN) (fr : Nat) (e : Int) (o : List PN) (first : Int) : List PN × Int :=
  if (unL fr o.length first x.mn.toNat o (-1) false).2.1 < 0 then tlB x fr o.length first e (unL fr o.length first x.mn.toNat o (-1) false).1 (unL fr o.length first x.mn.toNat o (-1) false).2.2
  else if (tlB x fr o.length first e (unL fr o.length first x.mn.toNat o (-1) false).1 (unL fr o.length first x.mn.toNat o (-1) false).2.2).2 < 0 then
    ((tlB x fr o.length first e (unL fr o.length first x.mn.toNat o (-1) false).1 (unL fr o.length first x.mn.toNat o (-1) false).2.2).1, (unL fr o.length first x.mn.toNat o (-1) false).2.1)
  else (addB (tlB x fr o.length first e (unL fr o.length first x.mn.toNat o (-1) false).1 (unL fr o.length first x.mn.toNat o (-1) false).2.2).1 (nd 4 (unL fr o.length first x.mn.toNat o (-1) false).2.1 (tlB x fr o.length first e (unL fr o.length first x.mn.toNat o (-1) false).1 (unL fr o.length first x.mn.toNat o (-1) false).2.2).2),
    top (addB (tlB x fr o.length first e (unL fr o.length first x.mn.toNat o (-1) false).1 (unL fr o.length first x.mn.toNat o (-1) false).2.2).1 (nd 4 (unL fr o.length first x.mn.toNat o (-1) false).2.1 (tlB x fr o.length first e (unL fr o.length first x.mn.toNat o (-1) false).1 (unL fr o.length first x.mn.toNat o (-1) false).2.2).2)))

/-- The lazy option's own node. -/
def lzE (mn : Nat) (mx : Option Nat) (lz : Bool) : Bool := decide (mn = 0 ∧ 0 < mxI mx) && lz

theorem unr_ok {y : RE} {O : List PN} {mn : Nat} {mx : Option Nat} {lz : Bool} {x : PN} (h1 : x.mn = mn) (h2 : x.mx = mxI mx) (h3 : x.lz = lz) (hm : ∀ m, mx = some m → mn ≤ m) (h0 : mx ≠ some 0) (hr : O.length + nds (unr y mn mx lz) ≤ 31) :
    unrB x (O.length + if lzE mn mx lz then 1 else 0) (if lzE mn mx lz then (O.length : Int) else -1) (O ++ (if lzE mn mx lz then [nd 0 (-1) (-1)] else []) ++ pl y (O.length + if lzE mn mx lz then 1 else 0)) (((O.length + (if lzE mn mx lz then 1 else 0) + nds y : Nat) : Int) - 1) = (O ++ pl (unr y mn mx lz) O.length, ((O.length + nds (unr y mn mx lz) : Nat) : Int) - 1) := by
  have hy := nds_pos y
  have hlen : (O ++ (if lzE mn mx lz then [nd 0 (-1) (-1)] else []) ++ pl y (O.length + if lzE mn mx lz then 1 else 0)).length = O.length + (if lzE mn mx lz then 1 else 0) + nds y := by cases lzE mn mx lz <;> simp [pl_len] <;> omega
  unfold unrB
  rw [hlen, h1, Int.toNat_natCast]
  cases mn with
  | zero =>
    simp only [unL, show ((-1 : Int) < 0) from by omega, if_true]
    unfold tlB
    rw [h1, h2, h3]
    cases mx with
    | none =>
      have hz : lzE 0 none lz = false := by simp [lzE, mxI]
      simp only [hz, Bool.false_eq_true, if_false, mxI, show ((-1 : Int) < 0) from by omega, if_true, List.append_nil, Nat.add_zero]
      have hu : unr y 0 none lz = .rep y 0 none lz := rfl
      rw [hu] at hr ⊢
      rw [nds_rep] at hr ⊢
      rw [addB_room (by simp [pl_len]; omega), top_app]
      simp [pl, pl_len, rmn_mk, rmx_mk, rlz_mk, mxI]
      omega
    | some m =>
      have hm0 : 0 < m := by
        cases m with
        | zero => exact absurd rfl h0
        | succ m => omega
      obtain ⟨k, rfl⟩ : ∃ k, m = k + 1 := ⟨m - 1, by omega⟩
      have hu : unr y 0 (some (k + 1)) lz = optn y lz (k + 1) := by simp [unr, tailR]
      rw [hu] at hr ⊢
      have hz : lzE 0 (some (k + 1)) lz = lz := by simp [lzE, mxI]
      simp only [hz, mxI]
      rw [if_neg (by omega), if_pos (by omega)]
      rw [show (((k + 1 : Nat) : Int) - ((0 : Nat) : Int)).toNat = k + 1 by omega]
      exact op_ok0 hr
  | succ j =>
    have hz : lzE (j + 1) mx lz = false := by simp [lzE]
    simp only [hz, Bool.false_eq_true, if_false, List.append_nil, Nat.add_zero]
    have hcp := nds_pos (chn y j)
    have hcr : O.length + nds (chn y j) ≤ 31 := by
      have : nds (chn y j) ≤ nds (unr y (j + 1) mx lz) := by
        unfold unr
        cases tailR y (j + 1) mx lz with
        | none => exact Nat.le_refl _
        | some t => simp only [nds_cat]; omega
      omega
    rw [un_ok hcr]
    simp only
    rw [if_neg (by omega)]
    have hH : Has (O ++ pl (chn y j) O.length) O.length y := by
      have : ∀ j, ∃ C, pl (chn y j) O.length = pl y O.length ++ C := by
        intro j
        induction j with
        | zero => exact ⟨[], by simp [chn]⟩
        | succ j ij =>
          obtain ⟨C, hC⟩ := ij
          exact ⟨C ++ pl y (O.length + nds (chn y j)) ++ [nd 4 ((O.length + nds (chn y j) : Nat) - 1 : Int) ((O.length + nds (chn y j) + nds y : Nat) - 1 : Int)], by rw [chn, pl, hC]; simp⟩
      obtain ⟨C, hC⟩ := this j
      exact ⟨O, C, by rw [hC]; simp, rfl⟩
    have key : ∀ t, tailR y (j + 1) mx lz = some t → tlB x O.length (O.length + nds y) (((O.length + nds y : Nat) : Int) - 1) (-1) (O ++ pl (chn y j) O.length) true = (O ++ pl (chn y j) O.length ++ pl t (O.length + nds (chn y j)), ((O.length + nds (chn y j) + nds t : Nat) : Int) - 1) := by
      intro t ht
      have hu : unr y (j + 1) mx lz = .cat (chn y j) t := by unfold unr; rw [ht]
      rw [hu, nds_cat] at hr
      unfold tlB
      rw [h1, h3]
      unfold tailR at ht
      cases mx with
      | none =>
        have h2' : x.mx = -1 := h2
        rw [h2']
        cases ht
        rw [nds_rep] at hr
        simp only [show ((-1 : Int) < 0) from by omega, if_true]
        rw [cpB_room hH (by simp [pl_len]; omega), addB_room (by simp [pl_len]; omega), top_app, top_app]
        simp [pl, pl_len, rmn_mk, rmx_mk, rlz_mk, mxI, nds]
        omega
      | some m =>
        simp only at ht
        split at ht
        · rename_i hlt
          cases ht
          obtain ⟨k, hk⟩ : ∃ k, m - (j + 1) = k + 1 := ⟨m - (j + 1) - 1, by omega⟩
          rw [hk] at hr ⊢
          have h2' : x.mx = (m : Int) := h2
          rw [h2']
          rw [if_neg (by omega), if_pos (by omega), show ((m : Int) - ((j + 1 : Nat) : Int)).toNat = k + 1 by omega]
          have := op_ok1 (e := -1) (lz := lz) (k := k) hH (by simp [pl_len]; omega)
          rw [this]
          simp [pl_len]
        · cases ht
    cases ht : tailR y (j + 1) mx lz with
    | none =>
      have hu : unr y (j + 1) mx lz = chn y j := by unfold unr; rw [ht]
      have htl : tlB x O.length (O.length + nds y) (((O.length + nds y : Nat) : Int) - 1) (-1) (O ++ pl (chn y j) O.length) true = (O ++ pl (chn y j) O.length, -1) := by
        unfold tlB
        rw [h1]
        unfold tailR at ht
        cases mx with
        | none => cases ht
        | some m =>
          simp only at ht
          split at ht
          · cases ht
          · rename_i hlt
            have h2' : x.mx = (m : Int) := h2
            rw [h2', if_neg (by omega), if_neg (by omega)]
      rw [htl, hu]
      simp only
      rw [if_pos (by omega)]
    | some t =>
      have hu : unr y (j + 1) mx lz = .cat (chn y j) t := by unfold unr; rw [ht]
      have ht' := nds_pos t
      rw [key t ht]
      simp only
      rw [if_neg (by omega)]
      rw [hu, nds_cat] at hr
      rw [hu, nds_cat]
      rw [addB_room (by simp [pl_len]; omega), top_app]
      simp [pl, pl_len]
      omega

end Go.Proofs.Qxb6500567aGreat
