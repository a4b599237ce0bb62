import Derived.Test.Qxb6500569aGreatPk
/- Plain: soundness of the heap along the search. -/
namespace Go.Proofs.Qxb6500569aGreat
set_option linter.unusedVariables false
set_option linter.unusedSimpArgs false

/-- A fresh node at address a, in a heap of T nodes. -/
def FreshN (T a : Nat) (nd : Nd) : Prop := nd = vnd a ∨ ∃ (c d : UInt8) (ks : List Nat), nd = ⟨[c, d], 0, pad4 ks⟩ ∧ isD d = true ∧ ks.length = d.toNat - 48 ∧ ∀ k ∈ ks, k < T

theorem ld_nodes : ∀ (f : Nat) {n : Nat} {code : List UInt8} {env : List (Option Nat)} {b : Nat} {ks : List Nat} {r : List UInt8} {env' : List (Option Nat)} {ns : List Nd}, ld f n code env b = some (ks, r, env', ns) → envLt env b → ∀ (T : Nat), b + ns.length ≤ T → ∀ (i : Nat) (nd : Nd), ns[i]? = some nd → FreshN T (b + i) nd := by
  intro f
  induction f with
  | zero => intro n code env b ks r env' ns h; simp [ld] at h
  | succ f ih =>
    intro n code env b ks r env' ns h he T hT i nd hi
    cases n with
    | zero =>
      obtain ⟨rfl, rfl, rfl, rfl⟩ := Ld.inv0 ⟨_, h⟩
      simp at hi
    | succ n =>
      cases code with
      | nil => simp [ld] at h
      | cons c code =>
        rw [ld_cons] at h
        split at h
        · rename_i hv
          split at h
          · rename_i x hx
            cases hr : ld f n code env b with
            | none => rw [hr] at h; cases h
            | some y =>
              obtain ⟨y1, y2, y3, y4⟩ := y
              rw [hr] at h; cases h
              exact ih hr he T hT i nd hi
          · rename_i hx
            cases hr : ld f n code (env.set (c.toNat - 65) (some b)) (b + 1) with
            | none => rw [hr] at h; cases h
            | some y =>
              obtain ⟨y1, y2, y3, y4⟩ := y
              rw [hr] at h; cases h
              simp only [List.length_cons] at hT
              cases i with
              | zero => simp at hi; exact .inl hi.symm
              | succ i =>
                simp at hi
                have := ih hr (envLt_set he) T (by omega) i nd hi
                rw [show b + (i + 1) = b + 1 + i by omega]; exact this
        · rename_i hv
          split at h
          · rename_i hF
            cases code with
            | nil => cases h
            | cons d code' =>
              simp only at h
              split at h
              · rename_i hD
                cases hr : ld f (d.toNat - 48) code' env (b + 1) with
                | none => rw [hr] at h; cases h
                | some x =>
                  obtain ⟨x1, x2, x3, x4⟩ := x
                  rw [hr] at h
                  simp only [Option.bind_some] at h
                  cases hq : ld f n x2 x3 (b + 1 + x4.length) with
                  | none => rw [hq] at h; cases h
                  | some q =>
                    obtain ⟨q1, q2, q3, q4⟩ := q
                    rw [hq] at h; cases h
                    simp only [List.length_cons, List.length_append] at hT
                    have he1 : envLt env (b + 1) := fun i a ha => by have := he i a ha; omega
                    obtain ⟨f1, f2, f3, f4, f5, f6⟩ := ld_facts f hr he1
                    cases i with
                    | zero =>
                      simp at hi
                      exact .inr ⟨c, d, x1, hi.symm, hD, f1, fun k hk => by have := f4 k hk; omega⟩
                    | succ i =>
                      simp only [List.getElem?_cons_succ, List.getElem?_append] at hi
                      split at hi
                      · have := ih hr he1 T (by omega) i nd hi
                        rw [show b + (i + 1) = b + 1 + i by omega]; exact this
                      · rename_i hge
                        have := ih hq f3 T (by omega) (i - x4.length) nd hi
                        rw [show b + (i + 1) = b + 1 + x4.length + (i - x4.length) by omega]; exact this
              · cases h
          · cases h

theorem lays_hok {hp ns : List Nd} {code : List UInt8} (hok : HOK hp) (h : Lays code hp.length ns) (hc : hp.length + ns.length ≤ 64) : HOK (hp ++ ns) ∧ (A4 hp → A4 (hp ++ ns)) := by
  obtain ⟨k, env, f, hld⟩ := h
  have hn := ld_nodes f hld (envLt0 _) (hp.length + ns.length) (Nat.le_refl _)
  have hget : ∀ (a : Nat) (nd : Nd), (hp ++ ns)[a]? = some nd → (hp[a]? = some nd) ∨ (hp.length ≤ a ∧ FreshN (hp.length + ns.length) a nd) := by
    intro a nd ha
    rw [List.getElem?_append] at ha
    split at ha
    · exact .inl ha
    · rename_i hge
      have := hn (a - hp.length) nd ha
      rw [show hp.length + (a - hp.length) = a by omega] at this
      exact .inr ⟨by omega, this⟩
  have hmem : ∀ nd ∈ hp ++ ns, nd ∈ hp ∨ ∃ a, hp.length ≤ a ∧ FreshN (hp.length + ns.length) a nd := by
    intro nd hm
    obtain ⟨a, ha⟩ := List.getElem?_of_mem hm
    rcases hget a nd ha with h | h
    · exact .inl (List.mem_of_getElem? h)
    · exact .inr ⟨a, h⟩
  refine ⟨⟨⟨?_, ?_⟩, ?_, by simpa using hc⟩, ?_⟩
  · intro a nd ha hv
    simp only [List.length_append]
    have hal := (List.getElem?_eq_some_iff.1 ha).1
    simp only [List.length_append] at hal
    rcases hget a nd ha with h | ⟨hge, h | ⟨c, d, ks, rfl, _⟩⟩
    · obtain ⟨h1, h2⟩ := hok.wf.var a nd h hv
      refine ⟨by omega, ?_⟩
      rcases h2 with h2 | ⟨m, hm, hmh⟩
      · exact .inl h2
      · exact .inr ⟨m, by rw [List.getElem?_append_left h1]; exact hm, hmh⟩
    · subst h
      exact ⟨by simp only [vnd]; omega, .inl (Nat.le_refl _)⟩
    · simp at hv
  · intro a nd ha hv
    simp only [List.length_append]
    rcases hget a nd ha with h | ⟨hge, h | ⟨c, d, ks, rfl, hD, hl, hk⟩⟩
    · obtain ⟨h1, h2, h3⟩ := hok.wf.str a nd h hv
      exact ⟨h1, h2, fun i x hx hi => by have := h3 i x hx hi; omega⟩
    · subst h; simp [vnd] at hv
    · have hdd : 48 ≤ d.toNat ∧ d.toNat ≤ 52 := by simpa [isD] using hD
      refine ⟨⟨c, d, rfl, hdd.1, hdd.2⟩, pad4_length _, ?_⟩
      intro i x hx hi
      simp only [ar] at hi
      rw [pad4_get (by omega) (by omega)] at hx
      exact hk x (List.mem_of_getElem? hx)
  · intro nd hm hv
    rcases hmem nd hm with h | ⟨a, _, h | ⟨c, d, ks, rfl, _⟩⟩
    · exact hok.vz nd h hv
    · subst h; rfl
    · simp at hv
  · intro h4 nd hm
    rcases hmem nd hm with h | ⟨a, _, h | ⟨c, d, ks, rfl, _⟩⟩
    · exact h4 nd h
    · subst h; rfl
    · exact pad4_length _

end Go.Proofs.Qxb6500569aGreat

namespace Go.Proofs.Qxb6500569aGreat
set_option linter.unusedVariables false
set_option linter.unusedSimpArgs false

theorem hOf_node {hp : List Nd} {x : Nat} {nd : Nd} (h : hp[x]? = some nd) : hOf hp x = nd.h := by simp [hOf, h]

theorem hok_bnd {hp : List Nd} (hok : HOK hp) {v t : Nat} {nd m : Nd} (hv : hp[v]? = some nd) (hn : nd.h = []) (ht : hp[t]? = some m) (ho : t < v ∨ m.h ≠ []) : HOK (bnd hp v t) ∧ Stay hp (bnd hp v t) :=
  ⟨⟨wfh_bnd hok.wf hv hn ht ho, vz_bnd hok.vz _ _, by rw [bnd_len]; exact hok.cap⟩, stay_bnd hv hn⟩

/-- A unification that succeeds leaves a sound heap. -/
theorem uniL_ok : ∀ (f : Nat) (st : List (Nat × Nat)) (hp : List Nd) (n : Nat), HOK hp → A4 hp → (∀ p ∈ st, p.1 < hp.length ∧ p.2 < hp.length) → (uniL f st hp n).2.1 = 0 → HOK (uniL f st hp n).2.2 ∧ A4 (uniL f st hp n).2.2 ∧ Stay hp (uniL f st hp n).2.2
  | 0, st, hp, n, hok, h4, hst, h => by simp [uniL] at h
  | f + 1, [], hp, n, hok, h4, hst, h => ⟨hok, h4, Stay.refl _⟩
  | f + 1, (a, b) :: st, hp, n, hok, h4, hst, h => by
    obtain ⟨ha, hb⟩ := hst (a, b) (by simp)
    have hst' : ∀ p ∈ st, p.1 < hp.length ∧ p.2 < hp.length := fun p hp' => hst p (by simp [hp'])
    have hdx := deref_lt hok.wf ha
    have hdy := deref_lt hok.wf hb
    obtain ⟨nx, hnx⟩ : ∃ nd, hp[deref hp a]? = some nd := ⟨_, List.getElem?_eq_getElem hdx⟩
    obtain ⟨ny, hny⟩ : ∃ nd, hp[deref hp b]? = some nd := ⟨_, List.getElem?_eq_getElem hdy⟩
    have hox := hOf_node hnx
    have hoy := hOf_node hny
    simp only [uniL] at h ⊢
    split at h
    · simp at h
    · rename_i h40
      rw [if_neg h40]
      split at h
      · rename_i hxy
        rw [if_pos hxy]
        exact uniL_ok f st hp (n + 1) hok h4 hst' h
      · rename_i hxy
        rw [if_neg hxy]
        split at h
        · rename_i h00
          rw [if_pos h00]
          rw [hox, hoy] at h00
          by_cases hlt : deref hp a < deref hp b
          · rw [if_pos hlt] at h ⊢
            obtain ⟨k1, k2⟩ := hok_bnd hok hny h00.2 hnx (.inl hlt)
            obtain ⟨i1, i2, i3⟩ := uniL_ok f st _ (n + 1) k1 (a4_bnd h4 _ _) (by rw [bnd_len]; exact hst') h
            exact ⟨i1, i2, k2.trans i3⟩
          · rw [if_neg hlt] at h ⊢
            obtain ⟨k1, k2⟩ := hok_bnd hok hnx h00.1 hny (.inl (by omega))
            obtain ⟨i1, i2, i3⟩ := uniL_ok f st _ (n + 1) k1 (a4_bnd h4 _ _) (by rw [bnd_len]; exact hst') h
            exact ⟨i1, i2, k2.trans i3⟩
        · rename_i h00
          rw [if_neg h00]
          rw [hox, hoy] at h00
          split at h
          · rename_i hx0
            rw [if_pos hx0]
            rw [hox] at hx0
            cases hocc : occS hp (deref hp a) [deref hp b] (n + 1) with
            | mk m e =>
              rw [hocc] at h
              cases e with
              | zero =>
                simp only at h ⊢
                obtain ⟨k1, k2⟩ := hok_bnd hok hnx hx0 hny (.inr (fun hy => h00 ⟨hx0, hy⟩))
                obtain ⟨i1, i2, i3⟩ := uniL_ok f st _ m k1 (a4_bnd h4 _ _) (by rw [bnd_len]; exact hst') h
                exact ⟨i1, i2, k2.trans i3⟩
              | succ e => simp at h
          · rename_i hx0
            rw [if_neg hx0]
            rw [hox] at hx0
            split at h
            · rename_i hy0
              rw [if_pos hy0]
              rw [hoy] at hy0
              cases hocc : occS hp (deref hp b) [deref hp a] (n + 1) with
              | mk m e =>
                rw [hocc] at h
                cases e with
                | zero =>
                  simp only at h ⊢
                  obtain ⟨k1, k2⟩ := hok_bnd hok hny hy0 hnx (.inr hx0)
                  obtain ⟨i1, i2, i3⟩ := uniL_ok f st _ m k1 (a4_bnd h4 _ _) (by rw [bnd_len]; exact hst') h
                  exact ⟨i1, i2, k2.trans i3⟩
                | succ e => simp at h
            · rename_i hy0
              rw [if_neg hy0]
              split at h
              · simp at h
              · rename_i hne
                rw [if_neg hne]
                refine uniL_ok f _ hp (n + 1) hok h4 ?_ h
                intro p hp'
                rcases List.mem_append.1 hp' with h' | h'
                · have := List.of_mem_zip h'
                  exact ⟨kids_lt hok.wf hnx this.1, kids_lt hok.wf hny this.2⟩
                · exact hst' p h'

theorem uniS_okS {hp : List Nd} {a b : Nat} (hok : HOK hp) (h4 : A4 hp) (ha : a < hp.length) (hb : b < hp.length) (h : (uniS [(a, b)] hp 0).2.1 = 0) : HOK (uniS [(a, b)] hp 0).2.2 ∧ A4 (uniS [(a, b)] hp 0).2.2 ∧ Stay hp (uniS [(a, b)] hp 0).2.2 :=
  uniL_ok _ _ _ _ hok h4 (by simp; exact ⟨ha, hb⟩) h

end Go.Proofs.Qxb6500569aGreat

namespace Go.Proofs.Qxb6500569aGreat
set_option linter.unusedVariables false
set_option linter.unusedSimpArgs false

theorem compS_head {text code : List UInt8} (h : compS text false = some code) : ∃ n rest, 1 ≤ n ∧ n ≤ 4 ∧ code = 58 :: UInt8.ofNat (48 + n) :: rest := by
  have h' : (Px 1 text []).bind (fun h => if 6 < h.vs.length then none else if h.rest = [] then some (58 :: 49 :: h.code) else if pk h.rest = 58 ∧ pk h.rest.tail = 45 then (bodyS (PG h.rest.tail.tail h.vs)).map (fun r => 58 :: UInt8.ofNat (48 + (r.n + 1)) :: (h.code ++ r.code)) else none) = some code := h
  cases hp : Px 1 text [] with
  | none => rw [hp] at h'; cases h'
  | some d =>
    rw [hp] at h'
    simp only [Option.bind_some] at h'
    split at h'
    · cases h'
    · split at h'
      · cases h'; exact ⟨1, _, by omega, by omega, rfl⟩
      · split at h'
        · cases hb : PG d.rest.tail.tail d.vs with
          | none => rw [hb] at h'; cases h'
          | some r =>
            rw [hb] at h'
            simp only [bodyS, Option.bind_some] at h'
            split at h'
            · rename_i hc
              cases h'
              exact ⟨r.n + 1, _, by omega, by omega, rfl⟩
            · cases h'
        · cases h'

/-- The root of a clause has a first argument. -/
theorem root_arg {hp ns : List Nd} {n : Nat} {rest : List UInt8} (hok : HOK (hp ++ ns)) (hn1 : 1 ≤ n) (hn4 : n ≤ 4) (h : Lays (58 :: UInt8.ofNat (48 + n) :: rest) hp.length ns) : ∃ k, argOf (hp ++ ns) hp.length 0 = some k ∧ k < (hp ++ ns).length ∧ hp.length < (hp ++ ns).length := by
  obtain ⟨hD, hN⟩ := digit_ok hn4
  obtain ⟨k, env, hl⟩ := h
  obtain ⟨d, code1, ks1, r1, env1, ns1, ks2, ns2, hF, hc, hD', h1, h2, h3, rfl⟩ := hl.str (c := 58) rfl
  cases hc
  obtain ⟨f1, f2, f3, f4, f5, f6⟩ := h1.facts (fun i a ha => by have := envLt0 hp.length i a ha; omega)
  rw [hN] at f1
  have hget : (hp ++ (⟨[58, UInt8.ofNat (48 + n)], 0, pad4 ks1⟩ :: (ns1 ++ ns2) : List Nd))[hp.length]? = some ⟨[58, UInt8.ofNat (48 + n)], 0, pad4 ks1⟩ := by simp
  have hdr := deref_stop hok.wf hget (.inl (by simp))
  obtain ⟨q, hq⟩ : ∃ q, ks1[0]? = some q := ⟨_, List.getElem?_eq_getElem (by omega)⟩
  refine ⟨q, ?_, ?_, by simp⟩
  · simp only [argOf, hdr, hget]
    rw [if_pos (by simp only [ar]; rw [hN]; omega), pad4_get (by omega) (by omega)]
    exact hq
  · have := f4 q (List.mem_of_getElem? hq)
    simp
    omega

end Go.Proofs.Qxb6500569aGreat
