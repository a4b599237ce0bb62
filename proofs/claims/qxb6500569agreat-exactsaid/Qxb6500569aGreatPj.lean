import Derived.Test.Qxb6500569aGreatNe
/- Plain: the codes of texts are codes of terms. -/
namespace Go.Proofs.Qxb6500569aGreat
set_option linter.unusedVariables false
set_option linter.unusedSimpArgs false

theorem digit_ok {n : Nat} (h : n ≤ 4) : isD (UInt8.ofNat (48 + n)) = true ∧ (UInt8.ofNat (48 + n)).toNat - 48 = n := by
  match n, h with | 0, _ | 1, _ | 2, _ | 3, _ | 4, _ => exact ⟨rfl, rfl⟩

theorem letter_ok {k : Nat} (h : k < 6) : isV (UInt8.ofNat (65 + k)) = true := by
  match k, h with | 0, _ | 1, _ | 2, _ | 3, _ | 4, _ | 5, _ => rfl

theorem lo_ok {c : UInt8} (h : isLo c = true) : isF c = true ∧ isV c = false := by
  simp only [isLo, Bool.and_eq_true, decide_eq_true_eq] at h
  refine ⟨by simp [isF, h.1, h.2], ?_⟩
  simp [isV]; omega

/-- Any code of 'n' terms stands at the head of any code. -/
def Good (n : Nat) (code : List UInt8) : Prop := ∀ (tail : List UInt8) (env : List (Option Nat)) (b : Nat), ∃ ks env' ns, Ld n (code ++ tail) env b ks tail env' ns

theorem good_nil : Good 0 [] := fun tail env b => ⟨[], env, [], Ld.zero _ _ _⟩

theorem good_app {n m : Nat} {c d : List UInt8} (h : Good n c) (k : Good m d) : Good (n + m) (c ++ d) := by
  intro tail env b
  obtain ⟨ks, env1, ns, h1⟩ := h (d ++ tail) env b
  obtain ⟨ks2, env2, ns2, h2⟩ := k tail env1 (b + ns.length)
  exact ⟨_, _, _, by rw [List.append_assoc]; exact h1.append h2⟩

theorem good_var {k : Nat} (h : k < 6) : Good 1 [UInt8.ofNat (65 + k)] := by
  intro tail env b
  have hv := letter_ok h
  cases ha : env.getD ((UInt8.ofNat (65 + k)).toNat - 65) none with
  | none => exact ⟨_, _, _, Ld.mkNew hv ha (Ld.zero tail _ _)⟩
  | some a => exact ⟨_, _, _, Ld.mkOld hv ha (Ld.zero tail _ _)⟩

theorem good_str {n : Nat} {c : UInt8} {code : List UInt8} (hF : isF c = true) (hV : isV c = false) (hn : n ≤ 4) (h : Good n code) : Good 1 (c :: UInt8.ofNat (48 + n) :: code) := by
  intro tail env b
  obtain ⟨hD, hN⟩ := digit_ok hn
  obtain ⟨ks, env1, ns, h1⟩ := h tail env (b + 1)
  exact ⟨_, _, _, Ld.mkStr hV hF hD (by rw [hN]; exact h1) (Ld.zero tail _ _)⟩

/-- The count of terms in a mode. -/
def cntOf (m n : Nat) : Nat := if m ≤ 1 then 1 else n - (m - 2)

theorem pX_good : ∀ (f m : Nat) (t vs : List UInt8) (r : PR4), pX f m t vs = some r → r.vs.length ≤ 6 → Good (cntOf m r.n) r.code ∧ (2 ≤ m → m - 1 ≤ r.n ∧ r.n ≤ 3) ∧ r.code.length + r.rest.length ≤ t.length + 1
  | 0, m, t, vs, r, h, _ => by simp [pX] at h
  | f + 1, 0, t, vs, r, h, h6 => by
    rw [pX_e0] at h
    split at h
    · rename_i hu
      cases h
      have h1 := tail_len (t := t) rfl (isUp_ne hu)
      refine ⟨?_, by omega, by simp; omega⟩
      refine good_var ?_
      have : vs.idxOf (pk t) < (vAdd vs (pk t)).length := by
        unfold vAdd
        split
        · rename_i hm; exact List.idxOf_lt_length_iff.2 hm
        · rename_i hm; rw [List.idxOf_eq_length hm]; simp
      simp only at h6
      omega
    · obtain ⟨g1, g2, g3⟩ := pX_good f 1 t vs r h h6
      exact ⟨by simpa [cntOf] using g1, by omega, g3⟩
  | f + 1, 1, t, vs, r, h, h6 => by
    rw [pX_e1] at h
    split at h
    · rename_i hl
      have h1 := tail_len (t := t) rfl (isLo_ne hl)
      obtain ⟨hF, hV⟩ := lo_ok hl
      split at h
      · rename_i h40
        have h2 := tail_len h40 (by decide)
        cases hq : pX f 2 t.tail.tail vs with
        | none => rw [hq] at h; cases h
        | some q =>
          rw [hq] at h
          simp only [Option.bind_some] at h
          split at h
          · rename_i h41
            have h3 := tail_len h41 (by decide)
            cases h
            obtain ⟨g1, g2, g3⟩ := pX_good f 2 _ _ q hq h6
            obtain ⟨g4, g5⟩ := g2 (by omega)
            refine ⟨good_str hF hV (by omega) (by simpa [cntOf] using g1), by omega, ?_⟩
            simp at g3 ⊢
            omega
          · cases h
      · cases h
        exact ⟨good_str (n := 0) hF hV (by omega) good_nil, by omega, by simp; omega⟩
    · cases h
  | f + 1, k + 2, t, vs, r, h, h6 => by
    rw [pX_e2] at h
    cases hq : pX f 0 t vs with
    | none => rw [hq] at h; cases h
    | some q =>
      have hrest := pX_rest f 0 _ _ q hq
      rw [hq] at h
      simp only [Option.bind_some] at h
      split at h
      · cases h
      · rename_i hk3
        split at h
        · rename_i h44
          have h2 := tail_len h44 (by decide)
          cases hz : pX f (k + 3) q.rest.tail q.vs with
          | none => rw [hz] at h; cases h
          | some z =>
            have hvz := pX_vs f _ _ _ z hz
            rw [hz] at h; cases h
            simp only at h6
            obtain ⟨g1, g2, g3⟩ := pX_good f 0 _ _ q hq (by omega)
            obtain ⟨z1, z2, z3⟩ := pX_good f (k + 3) _ _ z hz h6
            obtain ⟨z4, z5⟩ := z2 (by omega)
            have hc : cntOf (k + 2) z.n = cntOf 0 q.n + cntOf (k + 3) z.n := by simp [cntOf]; omega
            refine ⟨by simp only; rw [hc]; exact good_app g1 z1, fun _ => ⟨by simp only; omega, z5⟩, ?_⟩
            simp at g3 z3 ⊢
            omega
        · cases h
          obtain ⟨g1, g2, g3⟩ := pX_good f 0 _ _ q hq h6
          have hc : cntOf (k + 2) (k + 1) = 1 := by simp [cntOf]
          refine ⟨by simp only; rw [hc]; exact g1, fun _ => ⟨by simp only; omega, by simp only; omega⟩, ?_⟩
          simp at g3 ⊢
          omega

theorem Px_good {m : Nat} {t vs : List UInt8} {r : PR4} (h : Px m t vs = some r) (h6 : r.vs.length ≤ 6) (hm : m ≤ 1) : Good 1 r.code ∧ r.code.length + r.rest.length ≤ t.length + 1 := by
  obtain ⟨g1, _, g3⟩ := pX_good _ _ _ _ _ h h6
  have : cntOf m r.n = 1 := by simp [cntOf, hm]
  rw [this] at g1
  exact ⟨g1, g3⟩

theorem good_cut : Good 1 [33, 48] := good_str (n := 0) (c := 33) rfl rfl (by omega) good_nil

theorem pG_good : ∀ (f : Nat) (t vs : List UInt8) (r : PR4), pG f t vs = some r → r.vs.length ≤ 6 → Good r.n r.code ∧ 1 ≤ r.n ∧ r.code.length + r.rest.length ≤ t.length + 1
  | 0, t, vs, r, h, _ => by simp [pG] at h
  | f + 1, t, vs, r, h, h6 => by
    simp only [pG] at h
    cases hq : pGoal t vs with
    | none => rw [hq] at h; cases h
    | some q =>
      have hg : q.vs.length ≤ 6 → Good 1 q.code ∧ q.code.length + q.rest.length ≤ t.length + 1 := by
        intro h6
        unfold pGoal at hq
        split at hq
        · rename_i h33
          have := tail_len h33 (by decide)
          cases hq
          exact ⟨good_cut, by simp; omega⟩
        · exact Px_good hq h6 (by omega)
      rw [hq] at h
      simp only [Option.bind_some] at h
      split at h
      · rename_i h44
        have h2 := tail_len h44 (by decide)
        cases hz : pG f q.rest.tail q.vs with
        | none => rw [hz] at h; cases h
        | some z =>
          have hvz := pG_vs f _ _ z hz
          rw [hz] at h; cases h
          simp only at h6
          obtain ⟨g1, g2⟩ := hg (by omega)
          obtain ⟨z1, z2, z3⟩ := pG_good f _ _ z hz h6
          refine ⟨?_, by simp only; omega, by simp; omega⟩
          have := good_app g1 z1
          rw [Nat.add_comm] at this
          exact this
      · cases h
        obtain ⟨g1, g2⟩ := hg h6
        exact ⟨g1, by simp, g2⟩

/-- What a text's code is. -/
theorem compS_ok {text code : List UInt8} {q : Bool} (h : compS text q = some code) : Good 1 code ∧ code.length ≤ text.length + 3 := by
  cases q with
  | true =>
    have h' : (bodyS (PG text [])).map (fun r => 63 :: UInt8.ofNat (48 + r.n) :: r.code) = some code := h
    cases hp : PG text [] with
    | none => rw [hp] at h'; cases h'
    | some r =>
      rw [hp] at h'
      simp only [bodyS, Option.bind_some] at h'
      split at h'
      · rename_i hc
        cases h'
        obtain ⟨g1, g2, g3⟩ := pG_good _ _ _ _ hp hc.2.2
        refine ⟨good_str (c := 63) rfl rfl (by omega) g1, ?_⟩
        rw [hc.1] at g3
        simp at g3 ⊢
        omega
      · cases h'
  | false =>
    have h' : (Px 1 text []).bind (fun h => if 6 < h.vs.length then none else if h.rest = [] then some (58 :: 49 :: h.code) else if pk h.rest = 58 ∧ pk h.rest.tail = 45 then (bodyS (PG h.rest.tail.tail h.vs)).map (fun r => 58 :: UInt8.ofNat (48 + (r.n + 1)) :: (h.code ++ r.code)) else none) = some code := h
    cases hp : Px 1 text [] with
    | none => rw [hp] at h'; cases h'
    | some d =>
      rw [hp] at h'
      simp only [Option.bind_some] at h'
      split at h'
      · cases h'
      · rename_i h6
        obtain ⟨g1, g2⟩ := Px_good hp (by omega) (by omega)
        split at h'
        · rename_i hr
          cases h'
          refine ⟨good_str (c := 58) (n := 1) rfl rfl (by omega) g1, ?_⟩
          rw [hr] at g2
          simp at g2 ⊢
          omega
        · split at h'
          · rename_i hr hc
            have h1 := tail_len hc.1 (by decide)
            have h2 := tail_len hc.2 (by decide)
            cases hb : PG d.rest.tail.tail d.vs with
            | none => rw [hb] at h'; cases h'
            | some r =>
              rw [hb] at h'
              simp only [bodyS, Option.bind_some] at h'
              split at h'
              · rename_i hc2
                cases h'
                obtain ⟨z1, z2, z3⟩ := pG_good _ _ _ _ hb hc2.2.2
                have := good_app g1 z1
                rw [Nat.add_comm] at this
                refine ⟨good_str (c := 58) (n := r.n + 1) rfl rfl (by omega) this, ?_⟩
                rw [hc2.1] at z3
                simp at z3 ⊢
                omega
              · cases h'
          · cases h'

theorem good_lays {code : List UInt8} (h : Good 1 code) (b : Nat) : ∃ ns, Lays code b ns := by
  obtain ⟨ks, env', ns, hL⟩ := h [] env0 b
  rw [List.append_nil] at hL
  have := (hL.facts (envLt0 b)).1
  match ks, this with
  | [k], _ => exact ⟨ns, k, env', hL⟩

end Go.Proofs.Qxb6500569aGreat

namespace Go.Proofs.Qxb6500569aGreat
set_option linter.unusedVariables false
set_option linter.unusedSimpArgs false

def ownK (c : List UInt8) : List UInt8 := if c.getD 3 0 ≠ 48 ∧ 97 ≤ (c.getD 4 0).toNat then (c.drop 4).take 2 else []
def prdK (c : List UInt8) : List UInt8 := (c.drop 2).take 2

/-- The shape of a clause's code. -/
structure ShapeC (c : List UInt8) : Prop where
  l4 : 4 ≤ c.length
  l5 : c.getD 3 0 ≠ 48 → 5 ≤ c.length
  l6 : c.getD 3 0 ≠ 48 → 97 ≤ (c.getD 4 0).toNat → 6 ≤ c.length

theorem Px1_code {t vs : List UInt8} {r : PR4} (h : Px 1 t vs = some r) : ∃ f d rest, r.code = f :: d :: rest ∧ isLo f = true ∧ ((d = 48 ∧ rest = []) ∨ (∃ n q, 1 ≤ n ∧ d = UInt8.ofNat (48 + n) ∧ Px 2 t.tail.tail vs = some q ∧ rest = q.code ∧ q.n = n ∧ r.vs = q.vs)) := by
  rw [Px1] at h
  split at h
  · rename_i hl
    split at h
    · cases hq : Px 2 t.tail.tail vs with
      | none => rw [hq] at h; cases h
      | some q =>
        rw [hq] at h
        simp only [Option.bind_some] at h
        split at h
        · cases h
          refine ⟨_, _, _, rfl, hl, .inr ⟨q.n, q, ?_, rfl, rfl, rfl, rfl, rfl⟩⟩
          rw [Px2 0] at hq
          cases hz : Px 0 t.tail.tail vs with
          | none => rw [hz] at hq; cases hq
          | some z =>
            rw [hz] at hq
            simp only [Option.bind_some] at hq
            split at hq
            · cases hq
            · split at hq
              · cases hy : Px (0 + 3) z.rest.tail z.vs with
                | none => rw [hy] at hq; cases hq
                | some y =>
                  rw [hy] at hq; cases hq
                  have hyg : 2 ≤ y.n := by
                    have key : ∀ (f k : Nat) (t vs : List UInt8) (r : PR4), pX f (k + 2) t vs = some r → k + 1 ≤ r.n := by
                      intro f
                      induction f with
                      | zero => intro k t vs r h; simp [pX] at h
                      | succ f ih =>
                        intro k t vs r h
                        rw [pX_e2] at h
                        cases ha : pX f 0 t vs with
                        | none => rw [ha] at h; cases h
                        | some a =>
                          rw [ha] at h
                          simp only [Option.bind_some] at h
                          split at h
                          · cases h
                          · split at h
                            · cases hb : pX f (k + 3) a.rest.tail a.vs with
                              | none => rw [hb] at h; cases h
                              | some b => rw [hb] at h; cases h; have := ih (k + 1) _ _ b hb; simp only; omega
                            · cases h; exact Nat.le_refl _
                    exact key _ 1 _ _ y hy
                  simp only; omega
              · cases hq; simp
        · cases h
    · cases h; exact ⟨_, _, _, rfl, hl, .inl ⟨rfl, rfl⟩⟩
  · cases h

theorem Px0_code {t vs : List UInt8} {r : PR4} (h : Px 0 t vs = some r) (h6 : r.vs.length ≤ 6) : (∃ k, k < 6 ∧ r.code = [UInt8.ofNat (65 + k)]) ∨ (∃ f d rest, r.code = f :: d :: rest ∧ isLo f = true) := by
  rw [Px0] at h
  split at h
  · cases h
    left
    refine ⟨_, ?_, rfl⟩
    have : vs.idxOf (pk t) < (vAdd vs (pk t)).length := by
      unfold vAdd
      split
      · rename_i hm; exact List.idxOf_lt_length_iff.2 hm
      · rename_i hm; rw [List.idxOf_eq_length hm]; simp
    simp only at h6
    omega
  · obtain ⟨f, d, rest, h1, h2, _⟩ := Px1_code h
    exact .inr ⟨f, d, rest, h1, h2⟩

theorem Px2_head {t vs : List UInt8} {q : PR4} (h : Px 2 t vs = some q) (h6 : q.vs.length ≤ 6) : ∃ z more, Px 0 t vs = some z ∧ q.code = z.code ++ more ∧ z.vs.length ≤ 6 := by
  rw [Px2 0] at h
  cases hz : Px 0 t vs with
  | none => rw [hz] at h; cases h
  | some z =>
    rw [hz] at h
    simp only [Option.bind_some] at h
    split at h
    · cases h
    · split at h
      · cases hy : Px (0 + 3) z.rest.tail z.vs with
        | none => rw [hy] at h; cases h
        | some y =>
          have hv := Px_vs hy
          rw [hy] at h; cases h
          simp only at h6
          exact ⟨z, y.code, rfl, rfl, by omega⟩
      · cases h; exact ⟨z, [], rfl, by simp, h6⟩

theorem shape_of {t : List UInt8} {d : PR4} (h : Px 1 t [] = some d) (h6 : d.vs.length ≤ 6) (a b : UInt8) (more : List UInt8) : ShapeC (a :: b :: (d.code ++ more)) := by
  obtain ⟨f, e, rest, h1, h2, h3⟩ := Px1_code h
  rw [h1]
  rcases h3 with ⟨rfl, rfl⟩ | ⟨n, q, hn, rfl, hq, rfl, hqn, hv⟩
  · exact ⟨by simp, fun h => by simp at h, fun h => by simp at h⟩
  · obtain ⟨z, more', hz, hqc, hz6⟩ := Px2_head hq (by rw [← hv]; exact h6)
    rw [hqc]
    rcases Px0_code hz hz6 with ⟨k, hk, hzc⟩ | ⟨f', d', rest', hzc, hl⟩
    · rw [hzc]
      refine ⟨by simp, fun _ => by simp, fun _ hh => ?_⟩
      simp at hh
      omega
    · rw [hzc]
      exact ⟨by simp, fun _ => by simp, fun _ _ => by simp⟩

theorem compS_shape {text code : List UInt8} (h : compS text false = some code) : ShapeC code := by
  have h' : (Px 1 text []).bind (fun h => if 6 < h.vs.length then none else if h.rest = [] then some (58 :: 49 :: h.code) else if pk h.rest = 58 ∧ pk h.rest.tail = 45 then (bodyS (PG h.rest.tail.tail h.vs)).map (fun r => 58 :: UInt8.ofNat (48 + (r.n + 1)) :: (h.code ++ r.code)) else none) = some code := h
  cases hp : Px 1 text [] with
  | none => rw [hp] at h'; cases h'
  | some d =>
    rw [hp] at h'
    simp only [Option.bind_some] at h'
    split at h'
    · cases h'
    · rename_i h6
      split at h'
      · cases h'
        have := shape_of hp (by omega) 58 49 []
        simpa using this
      · split at h'
        · cases hb : bodyS (PG d.rest.tail.tail d.vs) with
          | none => rw [hb] at h'; cases h'
          | some r => rw [hb] at h'; cases h'; exact shape_of hp (by omega) _ _ _
        · cases h'

end Go.Proofs.Qxb6500569aGreat
