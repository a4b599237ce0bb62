import Derived.Test.Qxb6500568aGreatDoorEw
/- What is laid of a list of trees; the shape of what is laid. -/
namespace Go.Proofs.Qxb6500568aGreatDoor
open Ieee
set_option linter.unusedVariables false
set_option linter.unusedSimpArgs false

def ndC : List Tr → Nat
  | [] => 0
  | x :: l => ndT x + ndC l
def rtC : List Tr → Nat → Nat
  | [], _ => 0
  | x :: _, b => b + ndT x - 1
def layC : List Tr → Nat → List Nd
  | [], _ => []
  | x :: l, b => nxL (lay x b) (rtC l (b + ndT x)) ++ layC l (b + ndT x)
/-- The shape of what is laid of an element. -/
structure LX (t : Tr) : Prop where
  ex : ∀ b, ∃ l x, lay t b = l ++ [x] ∧ x.Nx = 0
  pos : 1 ≤ ndT t
  rt : ∀ b, rt t b = b + ndT t - 1
theorem nxL_nx (l : List Nd) (m n : Nat) : nxL (nxL l m) n = nxL l n := by
  unfold nxL
  rw [List.length_modify]
  refine List.ext_getElem? fun i => ?_
  simp only [List.getElem?_modify]
  by_cases h : l.length - 1 = i
  · simp [h]
    cases l[i]? <;> rfl
  · simp [h]
theorem nxL_right {l m : List Nd} (h : m ≠ []) (n : Nat) : nxL (l ++ m) n = l ++ nxL m n := by
  obtain ⟨r, x, rfl⟩ := List.eq_nil_or_concat m |>.resolve_left h
  rw [List.concat_eq_append, nxL_app, ← List.append_assoc, nxL_app, List.append_assoc]
theorem LX.nx0 {t : Tr} (h : LX t) (b : Nat) : nxL (lay t b) 0 = lay t b := by
  obtain ⟨l, x, e, h0⟩ := h.ex b
  rw [e, nxL_app]
  congr 2
  cases x
  simp only at h0
  rw [h0]
theorem LX.ne {t : Tr} (h : LX t) (b : Nat) : lay t b ≠ [] := by
  obtain ⟨l, x, e, h0⟩ := h.ex b
  rw [e]
  simp
theorem nxL_ne {l : List Nd} {n : Nat} (h : l ≠ []) : nxL l n ≠ [] := fun e => by
  have := congrArg List.length e
  rw [nxL_len] at this
  exact h (List.length_eq_zero_iff.1 this)
theorem layC_ne {x : Tr} {l : List Tr} {b : Nat} (h : LX x) : layC (x :: l) b ≠ [] := fun e => by
  unfold layC at e
  exact nxL_ne (h.ne b) (List.append_eq_nil_iff.1 e).1
theorem ndC_snoc (ts : List Tr) (x : Tr) : ndC (ts ++ [x]) = ndC ts + ndT x := by
  induction ts with
  | nil => show ndT x + 0 = 0 + ndT x; omega
  | cons y r ih => show ndT y + ndC (r ++ [x]) = ndT y + ndC r + ndT x; rw [ih]; omega
/-- One more element: the last node's link is set. -/
theorem layC_snoc {x : Tr} (hx : LX x) : ∀ {ts : List Tr} {b : Nat}, (∀ t ∈ ts, LX t) → layC (ts ++ [x]) b = (if ts = [] then layC ts b else nxL (layC ts b) (b + ndC ts + ndT x - 1)) ++ lay x (b + ndC ts)
  | [], b, _ => by
    rw [if_pos rfl]
    show nxL (lay x b) 0 ++ [] = [] ++ lay x (b + 0)
    rw [hx.nx0, List.append_nil, List.nil_append, Nat.add_zero]
  | [y], b, h => by
    rw [if_neg (by simp)]
    show nxL (lay y b) (b + ndT y + ndT x - 1) ++ (nxL (lay x (b + ndT y)) 0 ++ []) = nxL (nxL (lay y b) 0 ++ []) (b + (ndT y + 0) + ndT x - 1) ++ lay x (b + (ndT y + 0))
    rw [hx.nx0, List.append_nil, List.append_nil, nxL_nx]
    rfl
  | y :: z :: r, b, h => by
    have ih := layC_snoc hx (ts := z :: r) (b := b + ndT y) (fun t ht => h t (List.mem_cons_of_mem _ ht))
    rw [if_neg (by simp)] at ih ⊢
    show nxL (lay y b) (b + ndT y + ndT z - 1) ++ layC ((z :: r) ++ [x]) (b + ndT y) = nxL (nxL (lay y b) (b + ndT y + ndT z - 1) ++ layC (z :: r) (b + ndT y)) (b + (ndT y + ndC (z :: r)) + ndT x - 1) ++ lay x (b + (ndT y + ndC (z :: r)))
    rw [ih, nxL_right (layC_ne (h z (by simp))), List.append_assoc]
    rw [show b + ndT y + ndC (z :: r) = b + (ndT y + ndC (z :: r)) by omega]
theorem rtC_snoc {x : Tr} {ts : List Tr} {b : Nat} : rtC (ts ++ [x]) b = if ts = [] then b + ndT x - 1 else rtC ts b := by
  cases ts with
  | nil => rfl
  | cons y r => rw [if_neg (by simp)]; rfl
section
variable {w : World} {ow : Nat → Nat} {t : Tr} {vs : List Value} {v : Value}
theorem TrM.lx0 (h : TrM w ow 0 t vs) : LX t := by
  rcases h.invE with ⟨_, rfl⟩ | ⟨_, rfl⟩ | ⟨_, rfl⟩ | ⟨_, rfl⟩ | ⟨_, _, rfl⟩ | ⟨_, _, rfl⟩ | ⟨_, _, _, rfl⟩ | ⟨_, rfl⟩ | ⟨_, _, _, rfl⟩ | ⟨_, _, rfl⟩ | ⟨_, _, rfl⟩ | ⟨_, _, rfl⟩
  · exact ⟨fun b => ⟨[], _, rfl, rfl⟩, Nat.le_refl 1, fun b => rfl⟩
  · exact ⟨fun b => ⟨[], _, rfl, rfl⟩, Nat.le_refl 1, fun b => rfl⟩
  · exact ⟨fun b => ⟨[], _, rfl, rfl⟩, Nat.le_refl 1, fun b => rfl⟩
  · exact ⟨fun b => ⟨[], _, rfl, rfl⟩, Nat.le_refl 1, fun b => rfl⟩
  · exact ⟨fun b => ⟨_, _, rfl, rfl⟩, by show 1 ≤ 1 + ndT _ + ndT _; omega, fun b => rfl⟩
  · exact ⟨fun b => ⟨_, _, rfl, rfl⟩, by show 1 ≤ 1 + ndT _ + ndT _; omega, fun b => rfl⟩
  · exact ⟨fun b => ⟨_, _, rfl, rfl⟩, by show 1 ≤ (1 + List.length _) + ndT _; omega, fun b => rfl⟩
  · exact ⟨fun b => ⟨_, _, rfl, rfl⟩, by show 1 ≤ 1 + ndT _; omega, fun b => rfl⟩
  · exact ⟨fun b => ⟨_, _, rfl, rfl⟩, by show 1 ≤ 1 + ndT _ + ndT _; omega, fun b => rfl⟩
  · exact ⟨fun b => ⟨_, _, rfl, rfl⟩, by show 1 ≤ 1 + ndT _; omega, fun b => rfl⟩
  · exact ⟨fun b => ⟨_, _, rfl, rfl⟩, by show 1 ≤ 1 + ndT _ + ndT _; omega, fun b => rfl⟩
  · exact ⟨fun b => ⟨_, _, rfl, rfl⟩, by show 1 ≤ 1 + ndT _ + ndT _; omega, fun b => rfl⟩
theorem TrM.lx2 (h : TrM w ow 2 t vs) : LX t := by
  rcases h.invS with ⟨_, rfl⟩ | ⟨_, _, rfl⟩ | ⟨_, _, _, _, rfl⟩ | ⟨_, _, _, _, rfl⟩ | ⟨s5, x5, rfl⟩ | ⟨_, _, _, rfl⟩ | ⟨_, _, rfl⟩ | ⟨_, _, _, rfl⟩ | ⟨_, _, rfl⟩ | ⟨_, _, _, _, rfl⟩ | ⟨_, _, _, _, _, rfl⟩ | ⟨s6, t6, x6, y6, rfl⟩ | rfl | ⟨_, rfl⟩ | ⟨_, _, rfl⟩ | rfl
  · exact ⟨fun b => ⟨[], _, rfl, rfl⟩, Nat.le_refl 1, fun b => rfl⟩
  · exact ⟨fun b => ⟨_, _, rfl, rfl⟩, by show 1 ≤ 1 + ndT _; omega, fun b => rfl⟩
  · exact ⟨fun b => ⟨_, _, rfl, rfl⟩, by show 1 ≤ 4 + ndT _ + ndT _; omega, fun b => rfl⟩
  · exact ⟨fun b => ⟨_, _, rfl, rfl⟩, by show 1 ≤ (2 + List.length _) + ndT _; omega, fun b => rfl⟩
  · exact ⟨fun b => ⟨⟨17, 0, 0, 0, 0, 0, s5⟩ :: lay x5 (b + 1), _, rfl, rfl⟩, by show 1 ≤ 2 + ndT _; omega, fun b => rfl⟩
  · exact ⟨fun b => ⟨_, _, rfl, rfl⟩, by show 1 ≤ 2 + ndT _ + ndT _ + ndT _; omega, fun b => rfl⟩
  · exact ⟨fun b => ⟨_, _, rfl, rfl⟩, by show 1 ≤ 2 + ndT _ + ndT _; omega, fun b => rfl⟩
  · exact ⟨fun b => ⟨_, _, rfl, rfl⟩, by show 1 ≤ 1 + ndT _ + ndT _ + ndT _; omega, fun b => rfl⟩
  · exact ⟨fun b => ⟨_, _, rfl, rfl⟩, by show 1 ≤ 1 + ndT _ + ndT _; omega, fun b => rfl⟩
  · exact ⟨fun b => ⟨_, _, rfl, rfl⟩, by show 1 ≤ 1 + ndT _ + ndT _ + ndT _; omega, fun b => rfl⟩
  · exact ⟨fun b => ⟨_, _, rfl, rfl⟩, by show 1 ≤ 1 + ndT _ + ndT _ + ndT _ + ndT _; omega, fun b => rfl⟩
  · exact ⟨fun b => ⟨[⟨17, 0, 0, 0, b + 1, 0, s6⟩, ⟨17, 0, 0, 0, 0, 0, t6⟩] ++ (lay x6 (b + 2) ++ lay y6 (b + 2 + ndT x6)), ⟨9, b, rt x6 (b + 2), rt y6 (b + 2 + ndT x6), 0, 0, []⟩, rfl, rfl⟩, by show 1 ≤ 3 + ndT _ + ndT _; omega, fun b => rfl⟩
  · exact ⟨fun b => ⟨[], _, rfl, rfl⟩, Nat.le_refl 1, fun b => rfl⟩
  · exact ⟨fun b => ⟨_, _, rfl, rfl⟩, by show 1 ≤ 1 + ndT _; omega, fun b => rfl⟩
  · exact ⟨fun b => ⟨_, _, rfl, rfl⟩, by show 1 ≤ 1 + ndT _ + ndT _; omega, fun b => rfl⟩
  · exact ⟨fun b => ⟨[], _, rfl, rfl⟩, Nat.le_refl 1, fun b => rfl⟩
end
/-- The elements of a list. -/
theorem TrM.els1 {w : World} {ow : Nat → Nat} : ∀ (n : Nat) {t : Tr} {vs : List Value}, vs.length ≤ n → TrM w ow 1 t vs → ∃ ts, ElM w ow 0 ts vs ∧ ndT t = ndC ts ∧ ∀ b, rt t b = rtC ts b ∧ lay t b = layC ts b := by
  intro n
  induction n with
  | zero =>
    intro t vs hn h
    rcases h.invEL with rfl | ⟨x, y, rfl⟩
    · exact ⟨[], TrM_enil.1 h, rfl, fun b => ⟨rfl, rfl⟩⟩
    · obtain ⟨v, r, rfl, _⟩ := TrM_econs.1 h
      simp at hn
  | succ n ih =>
    intro t vs hn h
    rcases h.invEL with rfl | ⟨x, y, rfl⟩
    · exact ⟨[], TrM_enil.1 h, rfl, fun b => ⟨rfl, rfl⟩⟩
    · obtain ⟨v, r, rfl, h1, h2⟩ := TrM_econs.1 h
      simp only [List.length_cons] at hn
      obtain ⟨ts, g1, g2, g3⟩ := ih (by omega) h2
      refine ⟨x :: ts, ⟨v, r, rfl, h1, g1⟩, by show 0 + ndT x + ndT y = ndT x + ndC ts; omega, fun b => ⟨rfl, ?_⟩⟩
      show nxL (lay x b) (rt y (b + ndT x)) ++ lay y (b + ndT x) = nxL (lay x b) (rtC ts (b + ndT x)) ++ layC ts (b + ndT x)
      rw [(g3 _).1, (g3 _).2]
theorem TrM.els3 {w : World} {ow : Nat → Nat} : ∀ (n : Nat) {t : Tr} {vs : List Value}, vs.length ≤ n → TrM w ow 3 t vs → ∃ ts, ElM w ow 2 ts vs ∧ ndT t = ndC ts ∧ ∀ b, rt t b = rtC ts b ∧ lay t b = layC ts b := by
  intro n
  induction n with
  | zero =>
    intro t vs hn h
    rcases h.invSL with rfl | ⟨x, y, rfl⟩
    · exact ⟨[], TrM_snil.1 h, rfl, fun b => ⟨rfl, rfl⟩⟩
    · obtain ⟨v, r, rfl, _⟩ := TrM_scons.1 h
      simp at hn
  | succ n ih =>
    intro t vs hn h
    rcases h.invSL with rfl | ⟨x, y, rfl⟩
    · exact ⟨[], TrM_snil.1 h, rfl, fun b => ⟨rfl, rfl⟩⟩
    · obtain ⟨v, r, rfl, h1, h2⟩ := TrM_scons.1 h
      simp only [List.length_cons] at hn
      obtain ⟨ts, g1, g2, g3⟩ := ih (by omega) h2
      refine ⟨x :: ts, ⟨v, r, rfl, h1, g1⟩, by show 0 + ndT x + ndT y = ndT x + ndC ts; omega, fun b => ⟨rfl, ?_⟩⟩
      show nxL (lay x b) (rt y (b + ndT x)) ++ lay y (b + ndT x) = nxL (lay x b) (rtC ts (b + ndT x)) ++ layC ts (b + ndT x)
      rw [(g3 _).1, (g3 _).2]
theorem nmM.els {w : World} {ow : Nat → Nat} : ∀ {l : List Str} {vs : List Value}, nmM w ow l vs → ElM w ow 0 (l.map Ex.name) vs
  | [], _, h => h
  | s :: l, _, ⟨b, p, r, h1, h2, h3⟩ => ⟨_, r, h1, TrM_name.2 ⟨b, p, rfl, h2⟩, h3.els⟩
theorem ndC_nm : ∀ l : List Str, ndC (l.map Ex.name) = l.length
  | [] => rfl
  | s :: l => by show 1 + ndC (l.map Ex.name) = l.length + 1; rw [ndC_nm l]; omega
theorem layC_nm : ∀ (l : List Str) (b : Nat), layC (l.map Ex.name) b = layN l b
  | [], _ => rfl
  | s :: l, b => by
    show nxL [⟨17, 0, 0, 0, 0, 0, s⟩] (rtC (l.map Ex.name) (b + 1)) ++ layC (l.map Ex.name) (b + 1) = ⟨17, 0, 0, 0, (if l = [] then 0 else b + 1), 0, s⟩ :: layN l (b + 1)
    rw [layC_nm l]
    cases l <;> rfl
theorem rtC_nm (l : List Str) (b : Nat) : rtC (l.map Ex.name) b = if l = [] then 0 else b := by cases l <;> rfl
/-- One node's link. -/
def lkG (G : List (Nd × Nat)) (i n : Nat) : List (Nd × Nat) := G.modify i fun x => ({ x.1 with Nx := n }, x.2)
theorem lkG_map {G : List (Nd × Nat)} {A l r : List Nd} {n : Nat} (h : G.map Prod.fst = A ++ l ++ r) (hl : l ≠ []) : (lkG G (A.length + l.length - 1) n).map Prod.fst = A ++ nxL l n ++ r := by
  have hp := List.length_pos_iff.2 hl
  have e1 : (lkG G (A.length + l.length - 1) n).map Prod.fst = (G.map Prod.fst).modify (A.length + l.length - 1) fun x => { x with Nx := n } := by
    refine List.ext_getElem? fun i => ?_
    unfold lkG
    rw [List.getElem?_map, List.getElem?_modify, List.getElem?_modify, List.getElem?_map]
    by_cases hi : A.length + l.length - 1 = i
    · simp [hi]
      cases G[i]? <;> rfl
    · simp [hi]
  rw [e1, h, ← nxL_right hl]
  refine List.ext_getElem? fun i => ?_
  rw [List.getElem?_modify]
  by_cases hi : i < (A ++ l).length
  · rw [List.getElem?_append_left hi, List.getElem?_append_left (l₁ := nxL (A ++ l) n) (by rw [nxL_len]; exact hi)]
    unfold nxL
    rw [List.getElem?_modify, List.length_append]
  · rw [List.getElem?_append_right (l₁ := A ++ l) (by omega), List.getElem?_append_right (l₁ := nxL (A ++ l) n) (by rw [nxL_len]; omega), nxL_len]
    rw [List.length_append] at hi
    have : ¬ A.length + l.length - 1 = i := by omega
    simp [this]
theorem lkG_set {G : List (Nd × Nat)} {i n : Nat} {x : Nd × Nat} (h : G[i]? = some x) : lkG G i n = G.set i ({ x.1 with Nx := n }, x.2) := by
  have hi := (List.getElem?_eq_some_iff.1 h).1
  refine List.ext_getElem? fun j => ?_
  unfold lkG
  rw [List.getElem?_modify, List.getElem?_set]
  by_cases hj : i = j
  · subst hj
    have hx : G[i] = x := by
      rw [List.getElem?_eq_getElem hi] at h
      injection h
    simp [hi, hx]
  · simp [hj]
theorem lkG_len (G : List (Nd × Nat)) (i n : Nat) : (lkG G i n).length = G.length := List.length_modify ..
end Go.Proofs.Qxb6500568aGreatDoor
