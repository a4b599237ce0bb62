import Derived.Test.Qxb6500569aGreatRa
/- Plain: the nodes of a code; the model's search. -/
namespace Go.Proofs.Qxb6500569aGreat
set_option linter.unusedVariables false
set_option linter.unusedSimpArgs false

/-- So much fuel is enough. -/
theorem ld_enough : ∀ (f n : Nat) (code : List UInt8) (env : List (Option Nat)) (b : Nat) (x : List Nat × List UInt8 × List (Option Nat) × List Nd), ld f n code env b = some x → x.2.1.length + n ≤ code.length ∧ ld (2 * code.length + n + 1) n code env b = some x
  | 0, n, code, env, b, x, h => by simp [ld] at h
  | f + 1, 0, code, env, b, x, h => by
    simp only [ld] at h ⊢
    cases h
    exact ⟨by simp, rfl⟩
  | f + 1, n + 1, [], env, b, x, h => by simp [ld] at h
  | f + 1, n + 1, c :: code, env, b, x, h => by
    rw [ld_cons] at h
    rw [show 2 * (c :: code).length + (n + 1) + 1 = (2 * code.length + n + 3) + 1 by simp; omega, ld_cons]
    split at h
    · rename_i hv
      rw [if_pos hv]
      split at h
      · rename_i a ha
        cases hr : ld f n code env b with
        | none => rw [hr] at h; cases h
        | some r =>
          obtain ⟨h1, h2⟩ := ld_enough f n code env b r hr
          rw [ld_le h2 (by omega)]
          rw [hr] at h; cases h
          exact ⟨by simp; omega, rfl⟩
      · rename_i ha
        cases hr : ld f n code (env.set (c.toNat - 65) (some b)) (b + 1) with
        | none => rw [hr] at h; cases h
        | some r =>
          obtain ⟨h1, h2⟩ := ld_enough f n code _ _ r hr
          rw [ld_le h2 (by omega)]
          rw [hr] at h; cases h
          exact ⟨by simp; omega, rfl⟩
    · rename_i hv
      rw [if_neg hv]
      split at h
      · rename_i hF
        rw [if_pos hF]
        cases code with
        | nil => cases h
        | cons d code' =>
          simp only at h ⊢
          split at h
          · rename_i hD
            rw [if_pos hD]
            cases hr : ld f (d.toNat - 48) code' env (b + 1) with
            | none => rw [hr] at h; cases h
            | some r =>
              obtain ⟨h1, h2⟩ := ld_enough f _ code' _ _ r hr
              rw [hr] at h
              simp only [Option.bind_some] at h
              cases hq : ld f n r.2.1 r.2.2.1 (b + 1 + r.2.2.2.length) with
              | none => rw [hq] at h; cases h
              | some q =>
                obtain ⟨h3, h4⟩ := ld_enough f n _ _ _ q hq
                rw [hq] at h; cases h
                have hdd : 48 ≤ d.toNat ∧ d.toNat ≤ 52 := by simpa [isD] using hD
                rw [ld_le h2 (by simp; omega)]
                simp only [Option.bind_some]
                rw [ld_le h4 (by simp; omega)]
                exact ⟨by simp; omega, rfl⟩
          · cases h
      · cases h

/-- The nodes that a code lays from address b on. -/
def nsOf (code : List UInt8) (b : Nat) : List Nd := match ld (2 * code.length + 2) 1 code env0 b with | some x => x.2.2.2 | none => []

theorem nsOf_eq {code : List UInt8} {b : Nat} {ns : List Nd} (h : Lays code b ns) : nsOf code b = ns := by
  obtain ⟨k, env, f, h⟩ := h
  have := (ld_enough f 1 code env0 b _ h).2
  unfold nsOf
  rw [this]

theorem good_nsOf {code : List UInt8} (h : Good 1 code) (b : Nat) : Lays code b (nsOf code b) := by
  obtain ⟨ns, hn⟩ := good_lays h b
  rw [nsOf_eq hn]; exact hn

structure SSt where
  inf : Nat
  tried : Nat
  fin : Nat
  list : List (Nat × Nat × Nat × List UInt8)

/-- The trials of a goal's candidates, one by one. -/
def tryL (cls : List Cl2) (fuel : Nat) (rec : List Nd → List Gl → List UInt8 → Nat → Nat → SSt → Int × SSt) (hp : List Nd) (g : Nat) (gs : List Gl) (proof : List UInt8) (lvl left : Nat) : List UInt8 → SSt → Int × SSt
  | [], st => (-1, st)
  | id :: ids, st =>
    let code := (cls.getD (id.toNat - 48) ([], [])).2
    let ns := nsOf code hp.length
    if 64 < hp.length + ns.length then (-1, { st with tried := st.tried + 1, fin := 6 })
    else
      let u := uniS [(g, (argOf (hp ++ ns) hp.length 0).getD 0)] (hp ++ ns) 0
      if u.2.1 = 8 then (-1, { st with tried := st.tried + 1, fin := 8 })
      else if u.2.1 ≠ 0 then tryL cls fuel rec hp g gs proof lvl left ids { st with tried := st.tried + 1 }
      else if fuel < st.inf + 1 then (-1, { st with tried := st.tried + 1, inf := st.inf + 1, fin := 10 })
      else
        let r := rec u.2.2 (kidsS u.2.2 hp.length 1 lvl left ++ gs) (proof ++ [id]) (lvl + 1) (if ids = [] then left else left + 1) { st with tried := st.tried + 1, inf := st.inf + 1 }
        if r.2.fin ≠ 0 ∨ r.1 = (lvl : Int) then (-1, r.2)
        else if 0 ≤ r.1 then r
        else tryL cls fuel rec hp g gs proof lvl left ids r.2

def dfsF (cls : List Cl2) (fuel : Nat) : Nat → List Nd → List Gl → List UInt8 → Nat → Nat → SSt → Int × SSt
  | 0, _, _, _, _, _, st => (-1, st)
  | f + 1, hp, [], proof, lvl, left, st =>
    if (putF 49 hp 0 [] []).1 then (-1, { st with list := st.list ++ [(0, st.inf, st.tried, (putF 49 hp 0 [] []).2.1 ++ [35] ++ proof ++ [if 0 < left then 59 else 46])] })
    else (-1, { st with fin := 8 })
  | f + 1, hp, g :: gs, proof, lvl, left, st =>
    if hd hp g.1 = [33, 48] then
      let r := dfsF cls fuel f hp gs proof lvl g.2.2 st
      if 0 ≤ r.1 ∧ r.1 < (g.2.1 : Int) then r else ((g.2.1 : Int), r.2)
    else tryL cls fuel (dfsF cls fuel f) hp g.1 gs proof lvl left (matchS cls (hd hp g.1) (hdO hp (argOf hp g.1 0))) st

end Go.Proofs.Qxb6500569aGreat
