import Derived.Test.Qxb6500568aGreatDoorYc
namespace Go.Proofs.Qxb6500568aGreatDoor
open Ieee
set_option linter.unusedVariables false
set_option linter.unusedSimpArgs false
set_option linter.unusedSectionVars false

/-! Calls and the whole step keep the shape; the shape at every step of a run. -/

section
variable {G : Arena} {root E h n x e k : Nat} {r T : List Tk} {t : Tk} {s : IS} {v : PV}

theorem countP_set1 : ∀ {l : List ITh} {i : Nat} {a b : ITh}, l[i]? = some a → isF a = true → isF b = false → (l.set i b).countP isF + 1 = l.countP isF
  | [], i, a, b, h, q, p => by cases h
  | c :: l, 0, a, b, h, q, p => by simp at h; subst h; simp [List.countP_cons, q, p]
  | c :: l, i + 1, a, b, h, q, p => by
    simp at h
    have := countP_set1 h q p
    simp only [List.set_cons_succ, List.countP_cons]
    omega
theorem PW.resume (hG : 0 < G.length) (P : PW G root s T h) (hT : TkI G s.envs.length T (h + 2)) {a b : PV} (hs : (s.ths.getD a.N ITh.zero).st = 1 ∨ (s.ths.getD a.N ITh.zero).st = 2) (ha : a.N < s.ths.length) : IWd G root (iresume G root a b s) := by
  have B := P.b
  obtain ⟨c, hc⟩ : ∃ c, s.ths[a.N]? = some c := ⟨_, List.getElem?_eq_getElem ha⟩
  have hcd : s.ths.getD a.N ITh.zero = c := by rw [List.getD_eq_getElem?_getD, hc]; rfl
  rw [hcd] at hs
  have hne : a.N ≠ s.cur := fun q => by
    rw [q, th_at B.cl] at hc
    have := Option.some.inj hc
    rw [← this, P.st] at hs; omega
  have hcI := B.ot a.N c hne hc
  unfold iresume
  rw [hcd]
  simp only
  have hs2 : IS.th { (s.setT { s.th with st := 3 }) with stack := (s.setT { s.th with st := 3 }).cur :: (s.setT { s.th with st := 3 }).stack, cur := a.N } = c := by
    unfold IS.th IS.setT
    simp only [List.getD_eq_getElem?_getD]
    rw [List.getElem?_set_ne (fun q => hne q.symm), hc]; rfl
  rw [hs2]
  have hl : ({ (s.setT { s.th with st := 3 }) with stack := (s.setT { s.th with st := 3 }).cur :: (s.setT { s.th with st := 3 }).stack, cur := a.N } : IS).cur < ({ (s.setT { s.th with st := 3 }) with stack := (s.setT { s.th with st := 3 }).cur :: (s.setT { s.th with st := 3 }).stack, cur := a.N } : IS).ths.length := by
    show a.N < (s.ths.set s.cur _).length; simpa using ha
  have hg : ∀ k, k ≠ a.N → k ≠ s.cur → ((s.ths.set s.cur { s.th with st := 3 }).set a.N { c with st := 4 })[k]? = s.ths[k]? := fun k q1 q2 => by
    rw [List.getElem?_set_ne (fun q => q1 q.symm), List.getElem?_set_ne (fun q => q2 q.symm)]
  have key : ∀ d, (c.st = 1 → d = 1) → (c.st = 2 → d = 0) → BW G root { ({ (s.setT { s.th with st := 3 }) with stack := (s.setT { s.th with st := 3 }).cur :: (s.setT { s.th with st := 3 }).stack, cur := a.N } : IS).setT { c with st := 4 } with first := s.first + d } := by
    intro d hd1 hd2
    refine ⟨?_, fun k x hk hx => ?_, fun z hz => ?_, ?_, ?_, B.ev, B.cs, B.out, ?_, ?_, B.fu, B.dn⟩
    · show a.N < ((s.ths.set s.cur _).set a.N _).length; simpa using ha
    · have hk : k ≠ a.N := hk
      have hx : ((s.ths.set s.cur { s.th with st := 3 }).set a.N { c with st := 4 })[k]? = some x := hx
      by_cases e : k = s.cur
      · subst e
        rw [List.getElem?_set_ne (fun q => hk q.symm), List.getElem?_set_self B.cl] at hx
        have := Option.some.inj hx
        subst this
        refine ⟨(fun q => by cases q), fun _ => by show TkI G s.envs.length s.th.tasks (s.th.vals.length + 2); rw [P.t, P.v]; exact hT, (fun q => by cases q), (fun q => by cases q), ⟨(show 1 ≤ 3 by decide), (show 3 ≤ 5 by decide)⟩, by show s.th.depth = nR s.th.tasks; rw [P.t]; exact P.d, by show s.th.depth ≤ 8; rw [P.d]; exact P.d8⟩
      · rw [hg k hk e] at hx
        exact B.ot k x e hx
    · have hz : z ∈ s.cur :: s.stack := hz
      show z ≠ a.N ∧ ∃ x, ((s.ths.set s.cur { s.th with st := 3 }).set a.N { c with st := 4 })[z]? = some x ∧ x.st = 3
      rcases List.mem_cons.1 hz with rfl | hz
      · exact ⟨fun q => hne q.symm, { s.th with st := 3 }, by rw [List.getElem?_set_ne hne, List.getElem?_set_self B.cl], rfl⟩
      · obtain ⟨a1, x1, b1, d1⟩ := B.sk z hz
        have e1 : z ≠ a.N := fun q => by
          rw [q, hc] at b1
          have := Option.some.inj b1
          rw [← this] at d1; omega
        exact ⟨e1, x1, by rw [hg z e1 a1]; exact b1, d1⟩
    · show (s.cur :: s.stack).Nodup
      exact List.nodup_cons.2 ⟨fun q => (B.sk _ q).1 rfl, B.nd⟩
    · show (a.N :: s.cur :: s.stack).getLast? = some 0
      rw [List.getLast?_cons_cons]; exact B.bt
    · have := th_setT hl { c with st := 4 }
      have e : IS.th { ({ (s.setT { s.th with st := 3 }) with stack := (s.setT { s.th with st := 3 }).cur :: (s.setT { s.th with st := 3 }).stack, cur := a.N } : IS).setT { c with st := 4 } with first := s.first + d } = { c with st := 4 } := this
      rw [e]; show (4 : Nat) ≠ 1; decide
    · show s.first + d + ((s.ths.set s.cur { s.th with st := 3 }).set a.N { c with st := 4 }).countP isF < ((s.ths.set s.cur { s.th with st := 3 }).set a.N { c with st := 4 }).length
      have h0 : (s.ths.set s.cur { s.th with st := 3 }).countP isF = s.ths.countP isF := countP_set (th_at B.cl) (by rw [isF_no B.c1]; rfl)
      have hx : (s.ths.set s.cur { s.th with st := 3 })[a.N]? = some c := by rw [List.getElem?_set_ne (fun q => hne q.symm)]; exact hc
      have hfi := B.fi
      rw [List.length_set, List.length_set]
      rcases hs with hs | hs
      · have := countP_set1 (b := { c with st := 4 }) hx (by unfold isF; simp [hs]) rfl
        rw [hd1 hs]; omega
      · have := countP_set (b := { c with st := 4 }) hx (by rw [isF_no (by omega)]; rfl)
        rw [hd2 hs]; omega
  have hth : ∀ f, IS.th { ({ (s.setT { s.th with st := 3 }) with stack := (s.setT { s.th with st := 3 }).cur :: (s.setT { s.th with st := 3 }).stack, cur := a.N } : IS).setT { c with st := 4 } with first := f } = { c with st := 4 } := fun f => th_setT hl _
  refine IWd.ite (fun h1 => ?_) (fun h1 => ?_)
  · obtain ⟨e1, e2, e3⟩ := hcI.s1 h1
    have hd := hcI.dp
    rw [e1] at hd
    have hd : c.depth = 0 := hd
    refine PW.enter hG (T := []) (h := 0) ⟨key 1 (fun _ => rfl) (fun q => by omega), by rw [hth]; exact e1, by rw [hth]; show c.vals.length = 0; rw [e2]; rfl, by rw [hth]; exact hd, Nat.zero_le _, by rw [hth]⟩ (fun q => absurd rfl q) e3 (by decide) (by decide) (fun _ => ⟨rfl, rfl⟩) (Nat.zero_le _) _
  · have h2 : c.st = 2 := by omega
    have P2 : PW G root (({ (s.setT { s.th with st := 3 }) with stack := (s.setT { s.th with st := 3 }).cur :: (s.setT { s.th with st := 3 }).stack, cur := a.N } : IS).setT { c with st := 4 }) c.tasks c.vals.length :=
      ⟨key 0 (fun q => by omega) (fun _ => rfl), by rw [th_setT hl], by rw [th_setT hl], by rw [th_setT hl]; exact hcI.dp, by rw [← hcI.dp]; exact hcI.d8, by rw [th_setT hl]⟩
    exact ((P2.push _).push _).iw (hcI.s23 (.inl h2))
end

end Go.Proofs.Qxb6500568aGreatDoor
