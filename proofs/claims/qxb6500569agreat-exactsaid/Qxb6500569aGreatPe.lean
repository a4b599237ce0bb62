import Derived.Test.Qxb6500569aGreatPd
/- Plain: what a prefix code lays. -/
namespace Go.Proofs.Qxb6500569aGreat
set_option linter.unusedVariables false
set_option linter.unusedSimpArgs false

def isV (c : UInt8) : Bool := decide (65 ≤ c.toNat) && decide (c.toNat < 71)
def isF (c : UInt8) : Bool := (decide (97 ≤ c.toNat) && decide (c.toNat ≤ 122)) || decide (c.toNat = 33) || decide (c.toNat = 58) || decide (c.toNat = 63)
def isD (d : UInt8) : Bool := decide (48 ≤ d.toNat) && decide (d.toNat ≤ 52)

def Env := List (Option Nat)

def vnd (b : Nat) : Nd := ⟨[], b, [0, 0, 0, 0]⟩

/-- fuel, how many terms, the code, where the variables stand, the next address: the roots, the code behind, the variables, the new nodes. -/
def ld : Nat → Nat → List UInt8 → List (Option Nat) → Nat → Option (List Nat × List UInt8 × List (Option Nat) × List Nd)
  | 0, _, _, _, _ => none
  | _ + 1, 0, code, env, _ => some ([], code, env, [])
  | _ + 1, _ + 1, [], _, _ => none
  | f + 1, n + 1, c :: code, env, b =>
    if isV c then
      match env.getD (c.toNat - 65) none with
      | some a => (ld f n code env b).map (fun r => (a :: r.1, r.2.1, r.2.2.1, r.2.2.2))
      | none => (ld f n code (env.set (c.toNat - 65) (some b)) (b + 1)).map (fun r => (b :: r.1, r.2.1, r.2.2.1, vnd b :: r.2.2.2))
    else if isF c then
      match code with
      | [] => none
      | d :: code' => if isD d then
          (ld f (d.toNat - 48) code' env (b + 1)).bind (fun r => (ld f n r.2.1 r.2.2.1 (b + 1 + r.2.2.2.length)).map (fun q => (b :: q.1, q.2.1, q.2.2.1, (⟨[c, d], 0, pad4 r.1⟩ : Nd) :: (r.2.2.2 ++ q.2.2.2))))
        else none
    else none

theorem ld_cons (f n : Nat) (c : UInt8) (code : List UInt8) (env : List (Option Nat)) (b : Nat) : ld (f + 1) (n + 1) (c :: code) env b =
    if isV c then
      match env.getD (c.toNat - 65) none with
      | some a => (ld f n code env b).map (fun r => (a :: r.1, r.2.1, r.2.2.1, r.2.2.2))
      | none => (ld f n code (env.set (c.toNat - 65) (some b)) (b + 1)).map (fun r => (b :: r.1, r.2.1, r.2.2.1, vnd b :: r.2.2.2))
    else if isF c then
      match code with
      | [] => none
      | d :: code' => if isD d then
          (ld f (d.toNat - 48) code' env (b + 1)).bind (fun r => (ld f n r.2.1 r.2.2.1 (b + 1 + r.2.2.2.length)).map (fun q => (b :: q.1, q.2.1, q.2.2.1, (⟨[c, d], 0, pad4 r.1⟩ : Nd) :: (r.2.2.2 ++ q.2.2.2))))
        else none
    else none := by cases code <;> rfl

/-- 'n' terms at the head of the code. -/
def Ld (n : Nat) (code : List UInt8) (env : List (Option Nat)) (b : Nat) (ks : List Nat) (r : List UInt8) (env' : List (Option Nat)) (ns : List Nd) : Prop := ∃ f, ld f n code env b = some (ks, r, env', ns)

theorem ld_mono : ∀ (f n : Nat) (code : List UInt8) (env : List (Option Nat)) (b : Nat) (x : List Nat × List UInt8 × List (Option Nat) × List Nd), ld f n code env b = some x → ld (f + 1) n code env b = some x
  | 0, n, code, env, b, x, h => by simp [ld] at h
  | f + 1, 0, code, env, b, x, h => by simp only [ld] at h ⊢; exact h
  | f + 1, n + 1, [], env, b, x, h => by simp [ld] at h
  | f + 1, n + 1, c :: code, env, b, x, h => by
    rw [ld_cons] at h
    rw [ld_cons]
    split at h
    · rename_i h1
      rw [if_pos h1]
      split at h
      · rename_i a ha
        cases hr : ld f n code env b with
        | none => rw [hr] at h; cases h
        | some r => rw [ld_mono f n code env b r hr]; rw [hr] at h; exact h
      · rename_i ha
        cases hr : ld f n code (env.set (c.toNat - 65) (some b)) (b + 1) with
        | none => rw [hr] at h; cases h
        | some r => rw [ld_mono f n _ _ _ r hr]; rw [hr] at h; exact h
    · rename_i h1
      rw [if_neg h1]
      split at h
      · rename_i h2
        rw [if_pos h2]
        cases code with
        | nil => cases h
        | cons d code' =>
          simp only at h ⊢
          split at h
          · rename_i h3
            rw [if_pos h3]
            cases hr : ld f (d.toNat - 48) code' env (b + 1) with
            | none => rw [hr] at h; cases h
            | some r =>
              rw [hr] at h
              rw [ld_mono f _ _ _ _ r hr]
              simp only [Option.bind_some] at h ⊢
              cases hq : ld f n r.2.1 r.2.2.1 (b + 1 + r.2.2.2.length) with
              | none => rw [hq] at h; cases h
              | some q => rw [ld_mono f _ _ _ _ q hq]; rw [hq] at h; exact h
          · cases h
      · cases h

theorem ld_le {f g n : Nat} {code : List UInt8} {env : List (Option Nat)} {b : Nat} {x : List Nat × List UInt8 × List (Option Nat) × List Nd} (h : ld f n code env b = some x) (hg : f ≤ g) : ld g n code env b = some x := by
  obtain ⟨k, rfl⟩ : ∃ k, g = f + k := ⟨g - f, by omega⟩
  clear hg
  induction k with
  | zero => exact h
  | succ k ih => exact ld_mono _ _ _ _ _ _ ih

variable {n b : Nat} {code r : List UInt8} {env env' : List (Option Nat)} {ks : List Nat} {ns : List Nd} {c d : UInt8}

theorem Ld.zero (code : List UInt8) (env : List (Option Nat)) (b : Nat) : Ld 0 code env b [] code env [] := ⟨1, rfl⟩

theorem Ld.inv0 (h : Ld 0 code env b ks r env' ns) : ks = [] ∧ r = code ∧ env' = env ∧ ns = [] := by
  obtain ⟨f, h⟩ := h
  cases f with
  | zero => simp [ld] at h
  | succ f => simp [ld] at h; exact ⟨h.1, h.2.1.symm, h.2.2.1.symm, h.2.2.2⟩

theorem Ld.ne (h : Ld (n + 1) code env b ks r env' ns) : ∃ c code', code = c :: code' := by
  obtain ⟨f, h⟩ := h
  cases f with
  | zero => simp [ld] at h
  | succ f =>
    cases code with
    | nil => simp [ld] at h
    | cons c code => exact ⟨c, code, rfl⟩

theorem Ld.var (hv : isV c = true) (h : Ld (n + 1) (c :: code) env b ks r env' ns) :
    (∃ a ks', env.getD (c.toNat - 65) none = some a ∧ ks = a :: ks' ∧ Ld n code env b ks' r env' ns) ∨
    (∃ ks' ns', env.getD (c.toNat - 65) none = none ∧ ks = b :: ks' ∧ ns = vnd b :: ns' ∧ Ld n code (env.set (c.toNat - 65) (some b)) (b + 1) ks' r env' ns') := by
  obtain ⟨f, h⟩ := h
  cases f with
  | zero => simp [ld] at h
  | succ f =>
    rw [ld_cons, if_pos hv] at h
    split at h
    · rename_i a ha
      cases hr : ld f n code env b with
      | none => rw [hr] at h; cases h
      | some x => rw [hr] at h; cases h; exact .inl ⟨a, _, ha, rfl, f, hr⟩
    · rename_i ha
      cases hr : ld f n code (env.set (c.toNat - 65) (some b)) (b + 1) with
      | none => rw [hr] at h; cases h
      | some x => rw [hr] at h; cases h; exact .inr ⟨_, _, ha, rfl, rfl, f, hr⟩

theorem Ld.str (hv : isV c = false) (h : Ld (n + 1) (c :: code) env b ks r env' ns) :
    ∃ d code' ks1 r1 env1 ns1 ks2 ns2, isF c = true ∧ code = d :: code' ∧ isD d = true ∧ Ld (d.toNat - 48) code' env (b + 1) ks1 r1 env1 ns1 ∧ Ld n r1 env1 (b + 1 + ns1.length) ks2 r env' ns2 ∧ ks = b :: ks2 ∧ ns = ⟨[c, d], 0, pad4 ks1⟩ :: (ns1 ++ ns2) := by
  obtain ⟨f, h⟩ := h
  cases f with
  | zero => simp [ld] at h
  | succ f =>
    rw [ld_cons, if_neg (by simp [hv])] at h
    split at h
    · rename_i h2
      cases code with
      | nil => cases h
      | cons d code' =>
        simp only at h
        split at h
        · rename_i h3
          cases hr : ld f (d.toNat - 48) code' env (b + 1) with
          | none => rw [hr] at h; cases h
          | some x =>
            rw [hr] at h
            simp only [Option.bind_some] at h
            cases hq : ld f n x.2.1 x.2.2.1 (b + 1 + x.2.2.2.length) with
            | none => rw [hq] at h; cases h
            | some q => rw [hq] at h; cases h; exact ⟨d, code', _, _, _, _, _, _, h2, rfl, h3, ⟨f, hr⟩, ⟨f, hq⟩, rfl, rfl⟩
        · cases h
    · cases h

theorem Ld.mkOld {a : Nat} (hv : isV c = true) (ha : env.getD (c.toNat - 65) none = some a) (h : Ld n code env b ks r env' ns) : Ld (n + 1) (c :: code) env b (a :: ks) r env' ns := by
  obtain ⟨f, h⟩ := h
  refine ⟨f + 1, ?_⟩
  rw [ld_cons, if_pos hv, ha]
  simp [h]

theorem Ld.mkNew (hv : isV c = true) (ha : env.getD (c.toNat - 65) none = none) (h : Ld n code (env.set (c.toNat - 65) (some b)) (b + 1) ks r env' ns) : Ld (n + 1) (c :: code) env b (b :: ks) r env' (vnd b :: ns) := by
  obtain ⟨f, h⟩ := h
  refine ⟨f + 1, ?_⟩
  rw [ld_cons, if_pos hv, ha]
  simp [h]

theorem Ld.mkStr {r1 : List UInt8} {env1 : List (Option Nat)} {ks1 : List Nat} {ns1 : List Nd} (hv : isV c = false) (hf : isF c = true) (hd : isD d = true) (h1 : Ld (d.toNat - 48) code env (b + 1) ks1 r1 env1 ns1) (h2 : Ld n r1 env1 (b + 1 + ns1.length) ks r env' ns) :
    Ld (n + 1) (c :: d :: code) env b (b :: ks) r env' (⟨[c, d], 0, pad4 ks1⟩ :: (ns1 ++ ns)) := by
  obtain ⟨f, h1⟩ := h1
  obtain ⟨g, h2⟩ := h2
  refine ⟨max f g + 1, ?_⟩
  rw [ld_cons, if_neg (by simp [hv]), if_pos hf]
  simp only [hd, if_true]
  rw [ld_le h1 (Nat.le_max_left f g)]
  simp only [Option.bind_some]
  rw [ld_le h2 (Nat.le_max_right f g)]
  simp

/-- One after the other. -/
theorem Ld.app : ∀ {f a : Nat} {code : List UInt8} {env : List (Option Nat)} {b : Nat} {ks : List Nat} {r : List UInt8} {env1 : List (Option Nat)} {ns : List Nd} {n : Nat} {ks2 : List Nat} {r2 : List UInt8} {env2 : List (Option Nat)} {ns2 : List Nd},
    ld f a code env b = some (ks, r, env1, ns) → Ld n r env1 (b + ns.length) ks2 r2 env2 ns2 → Ld (a + n) code env b (ks ++ ks2) r2 env2 (ns ++ ns2) := by
  intro f
  induction f with
  | zero => intro a code env b ks r env1 ns n ks2 r2 env2 ns2 h; simp [ld] at h
  | succ f ih =>
    intro a code env b ks r env1 ns n ks2 r2 env2 ns2 h h2
    cases a with
    | zero =>
      obtain ⟨rfl, rfl, rfl, rfl⟩ := Ld.inv0 ⟨_, h⟩
      simpa using h2
    | succ a =>
      cases code with
      | nil => simp [ld] at h
      | cons c code =>
        rw [show a + 1 + n = (a + n) + 1 by omega]
        rw [ld_cons] at h
        split at h
        · rename_i hv
          split at h
          · rename_i x hx
            cases hr : ld f a code env b with
            | none => rw [hr] at h; cases h
            | some y => rw [hr] at h; cases h; exact Ld.mkOld hv hx (ih hr h2)
          · rename_i hx
            cases hr : ld f a code (env.set (c.toNat - 65) (some b)) (b + 1) with
            | none => rw [hr] at h; cases h
            | some y =>
              rw [hr] at h; cases h
              refine Ld.mkNew hv hx (ih hr ?_)
              have e : b + (vnd b :: y.2.2.2).length = b + 1 + y.2.2.2.length := by simp; omega
              rw [e] at h2
              exact h2
        · rename_i hv
          split at h
          · rename_i hf
            cases code with
            | nil => cases h
            | cons d code' =>
              simp only at h
              split at h
              · rename_i hd
                cases hr : ld f (d.toNat - 48) code' env (b + 1) with
                | none => rw [hr] at h; cases h
                | some x =>
                  rw [hr] at h
                  simp only [Option.bind_some] at h
                  cases hq : ld f a x.2.1 x.2.2.1 (b + 1 + x.2.2.2.length) with
                  | none => rw [hq] at h; cases h
                  | some q =>
                    rw [hq] at h; cases h
                    have e : b + (⟨[c, d], 0, pad4 x.1⟩ :: (x.2.2.2 ++ q.2.2.2) : List Nd).length = b + 1 + x.2.2.2.length + q.2.2.2.length := by simp; omega
                    rw [e] at h2
                    have := Ld.mkStr (by simpa using hv) hf hd ⟨f, hr⟩ (ih hq h2)
                    simpa [List.append_assoc] using this
              · cases h
          · cases h

theorem Ld.append {a : Nat} {r1 : List UInt8} {env1 : List (Option Nat)} {ks1 : List Nat} {ns1 : List Nd} (h1 : Ld a code env b ks1 r1 env1 ns1) (h2 : Ld n r1 env1 (b + ns1.length) ks r env' ns) : Ld (a + n) code env b (ks1 ++ ks) r env' (ns1 ++ ns) := by
  obtain ⟨f, h1⟩ := h1
  exact Ld.app h1 h2

/-- The first, and the others. -/
theorem Ld.split1 (h : Ld (n + 1) code env b ks r env' ns) : ∃ k ks2 r1 env1 ns1 ns2, Ld 1 code env b [k] r1 env1 ns1 ∧ Ld n r1 env1 (b + ns1.length) ks2 r env' ns2 ∧ ks = k :: ks2 ∧ ns = ns1 ++ ns2 := by
  obtain ⟨c, code', rfl⟩ := h.ne
  cases hv : isV c with
  | true =>
    rcases h.var hv with ⟨a, ks', ha, rfl, h2⟩ | ⟨ks', ns', ha, rfl, rfl, h2⟩
    · exact ⟨a, ks', code', env, [], ns, Ld.mkOld hv ha (Ld.zero _ _ _), by simpa using h2, rfl, rfl⟩
    · exact ⟨b, ks', code', _, [vnd b], ns', Ld.mkNew hv ha (Ld.zero _ _ _), by simpa using h2, rfl, rfl⟩
  | false =>
    obtain ⟨d, code1, ks1, r1, env1, ns1, ks2, ns2, hf, rfl, hd, h1, h2, rfl, rfl⟩ := h.str hv
    refine ⟨b, ks2, r1, env1, ⟨[c, d], 0, pad4 ks1⟩ :: (ns1 ++ []), ns2, Ld.mkStr hv hf hd h1 (Ld.zero _ _ _), ?_, rfl, by simp⟩
    have e : b + (⟨[c, d], 0, pad4 ks1⟩ :: (ns1 ++ []) : List Nd).length = b + 1 + ns1.length := by simp; omega
    rw [e]; exact h2

/-- What a code behind some variables can be: its facts. -/
def envLt (env : List (Option Nat)) (b : Nat) : Prop := ∀ i a, env.getD i none = some a → a < b

theorem envLt_set {i : Nat} (h : envLt env b) : envLt (env.set i (some b)) (b + 1) := by
  intro j a ha
  rw [List.getD_eq_getElem?_getD, List.getElem?_set] at ha
  split at ha
  · split at ha
    · cases ha; omega
    · cases ha
  · have := h j a (by rw [List.getD_eq_getElem?_getD]; exact ha); omega

theorem ld_facts : ∀ (f : Nat) {n : Nat} {code : List UInt8} {env : List (Option Nat)} {b : Nat} {ks : List Nat} {r : List UInt8} {env' : List (Option Nat)} {ns : List Nd}, ld f n code env b = some (ks, r, env', ns) → envLt env b →
    ks.length = n ∧ env'.length = env.length ∧ envLt env' (b + ns.length) ∧ (∀ k ∈ ks, k < b + ns.length) ∧ n + r.length ≤ code.length ∧ ns.length + r.length ≤ code.length := by
  intro f
  induction f with
  | zero => intro n code env b ks r env' ns h; simp [ld] at h
  | succ f ih =>
    intro n code env b ks r env' ns h he
    cases n with
    | zero =>
      obtain ⟨rfl, rfl, rfl, rfl⟩ := Ld.inv0 ⟨_, h⟩
      exact ⟨rfl, rfl, by simpa using he, by simp, by omega, by simp⟩
    | succ n =>
      cases code with
      | nil => simp [ld] at h
      | cons c code =>
        rw [ld_cons] at h
        split at h
        · rename_i hv
          split at h
          · rename_i x hx
            cases hr : ld f n code env b with
            | none => rw [hr] at h; cases h
            | some y =>
              obtain ⟨y1, y2, y3, y4⟩ := y
              rw [hr] at h; cases h
              obtain ⟨h1, h2, h3, h4, h5, h6⟩ := ih hr he
              refine ⟨by simp [h1], h2, h3, ?_, by simp; omega, by simp; omega⟩
              intro k hk
              rcases List.mem_cons.1 hk with rfl | hk
              · have := he _ _ hx; omega
              · exact h4 k hk
          · rename_i hx
            cases hr : ld f n code (env.set (c.toNat - 65) (some b)) (b + 1) with
            | none => rw [hr] at h; cases h
            | some y =>
              obtain ⟨y1, y2, y3, y4⟩ := y
              rw [hr] at h; cases h
              obtain ⟨h1, h2, h3, h4, h5, h6⟩ := ih hr (envLt_set he)
              refine ⟨by simp [h1], by simpa using h2, ?_, ?_, by simp; omega, by simp; omega⟩
              · have e : b + (vnd b :: y4).length = b + 1 + y4.length := by simp; omega
                rw [e]; exact h3
              · intro k hk
                rcases List.mem_cons.1 hk with rfl | hk
                · simp
                · have := h4 k hk; simp; omega
        · rename_i hv
          split at h
          · rename_i hf
            cases code with
            | nil => cases h
            | cons d code' =>
              simp only at h
              split at h
              · rename_i hd
                cases hr : ld f (d.toNat - 48) code' env (b + 1) with
                | none => rw [hr] at h; cases h
                | some x =>
                  obtain ⟨x1, x2, x3, x4⟩ := x
                  rw [hr] at h
                  simp only [Option.bind_some] at h
                  cases hq : ld f n x2 x3 (b + 1 + x4.length) with
                  | none => rw [hq] at h; cases h
                  | some q =>
                    obtain ⟨q1, q2, q3, q4⟩ := q
                    rw [hq] at h; cases h
                    obtain ⟨h1, h2, h3, h4, h5, h6⟩ := ih hr (fun i a ha => by have := he i a ha; omega)
                    obtain ⟨g1, g2, g3, g4, g5, g6⟩ := ih hq h3
                    refine ⟨by simp [g1], by simp only; omega, ?_, ?_, by simp; omega, by simp; omega⟩
                    · have e : b + (⟨[c, d], 0, pad4 x1⟩ :: (x4 ++ q4) : List Nd).length = b + 1 + x4.length + q4.length := by simp; omega
                      rw [e]; exact g3
                    · intro k hk
                      rcases List.mem_cons.1 hk with rfl | hk
                      · simp
                      · have := g4 k hk; simp; omega
              · cases h
          · cases h

theorem Ld.facts (h : Ld n code env b ks r env' ns) (he : envLt env b) : ks.length = n ∧ env'.length = env.length ∧ envLt env' (b + ns.length) ∧ (∀ k ∈ ks, k < b + ns.length) ∧ n + r.length ≤ code.length ∧ ns.length + r.length ≤ code.length := by
  obtain ⟨f, h⟩ := h
  exact ld_facts f h he

def env0 : List (Option Nat) := [none, none, none, none, none, none]

theorem envLt0 (b : Nat) : envLt env0 b := by
  intro i a h
  match i with
  | 0 | 1 | 2 | 3 | 4 | 5 => simp [env0] at h
  | _ + 6 => simp [env0] at h

/-- The whole code is one term, whose nodes from address b on are these. -/
def Lays (code : List UInt8) (b : Nat) (ns : List Nd) : Prop := ∃ k env, Ld 1 code env0 b [k] [] env ns

end Go.Proofs.Qxb6500569aGreat
