import Derived.Test.Qxb6500568aGreatDoorYt
/- The interpreter: more laws for step. -/
namespace Go.Proofs.Qxb6500568aGreatDoor
open Ieee
set_option linter.unusedVariables false
set_option linter.unusedSimpArgs false
set_option linter.unusedSectionVars false

section
variable {G : Arena} {root E h h' n : Nat} {T r : List Tk} {s : IS}
theorem StP.of (hn0 : n ≠ 0) (hS : SB G n r h 1) (P : PW G root s r h) : StP G n s := by
  obtain ⟨ll, lp, m, hS, hw, hlb, -⟩ := hS
  rcases hS.inv with rfl | ⟨st, l, rfl⟩
  · exact absurd (IsSL_nil.1 hS) hn0
  obtain ⟨-, hS, -⟩ := IsSL_cons.1 hS
  have hlt := hS.lt
  have hw : W st lp m ∧ W l lp (aftN m st) := hw
  have hw := hw.1
  rcases hS.inv with ⟨s1, rfl⟩ | ⟨s1, v, rfl⟩ | ⟨s1, s2, g, zs, rfl⟩ | ⟨s1, k, ps, bd, rfl⟩ | ⟨s1, v, rfl⟩ | ⟨u, k, v, rfl⟩ | ⟨g, zs, rfl⟩ | ⟨g, t, r, rfl⟩ | ⟨g, bd, rfl⟩ | ⟨s1, u, v, bd, rfl⟩ | ⟨s1, u, v, w, bd, rfl⟩ | ⟨s1, s2, u, bd, rfl⟩ | rfl | ⟨a, rfl⟩ | ⟨a, b, rfl⟩ | rfl
  · have hh := IsS_loc.1 hS
    exact ⟨hlt, by omega, fun q => by omega, fun q => by omega, fun q => by omega, fun q => by omega⟩
  · have hh := (IsS_locV.1 hS).2.1
    exact ⟨hlt, by omega, fun q => by omega, fun q => by omega, fun q => by omega, fun q => by omega⟩
  · obtain ⟨m0, m1, m2, m3, m4, m5, m6⟩ := IsS_loc2.1 hS
    exact ⟨hlt, by omega, fun q => by omega, fun q => by omega, fun q => ⟨Nd.lt (by omega), zs, m6⟩, fun q => by omega⟩
  · have hh := (IsS_locFn.1 hS).2.1
    exact ⟨hlt, by omega, fun q => by omega, fun q => by omega, fun q => by omega, fun q => by omega⟩
  · obtain ⟨m0, m1, m2, m3, m4, m5⟩ := IsS_setN.1 hS
    exact ⟨hlt, by omega, fun q => Nd.lt (by omega), fun q => by omega, fun q => by omega, fun q => by omega⟩
  · obtain ⟨m0, m1, m2, m3, m4⟩ := IsS_setI.1 hS
    exact ⟨hlt, by omega, fun q => Nd.lt (by omega), fun q => by omega, fun q => by omega, fun q => by omega⟩
  · have hh := (IsS_call.1 hS).2.1
    exact ⟨hlt, by omega, fun q => by omega, fun q => by omega, fun q => by omega, fun q => by omega⟩
  · have hh := (IsS_iff.1 hS).2.1
    exact ⟨hlt, by omega, fun q => by omega, fun q => by omega, fun q => by omega, fun q => by omega⟩
  · have hh := (IsS_whl.1 hS).2.1
    exact ⟨hlt, by omega, fun q => by omega, fun q => by omega, fun q => by omega, fun q => by omega⟩
  · obtain ⟨m0, m1, m2, m3, m4, m5, m6, m7, m8⟩ := IsS_for2.1 hS
    exact ⟨hlt, by omega, fun q => m4.lt, fun q => m6.lt, fun q => by omega, fun q => by omega⟩
  · obtain ⟨m0, m1, m2, m3, m4, m5, m6, m7⟩ := IsS_for3.1 hS
    exact ⟨hlt, by omega, fun q => m4.lt, fun q => m6.lt, fun q => by omega, fun q => by omega⟩
  · have hh := (IsS_forIn.1 hS).2.1
    exact ⟨hlt, by omega, fun q => by omega, fun q => by omega, fun q => by omega, fun q => by omega⟩
  · have hh := (IsS_ret0.1 hS).2.1
    exact ⟨hlt, by omega, fun q => by omega, fun q => by omega, fun q => by omega, fun q => by omega⟩
  · have hh := (IsS_ret1.1 hS).2.1
    exact ⟨hlt, by omega, fun q => by omega, fun q => by omega, fun q => by omega, fun q => by omega⟩
  · have hh := (IsS_ret2.1 hS).2.1
    exact ⟨hlt, by omega, fun q => by omega, fun q => by omega, fun q => by omega, fun q => by omega⟩
  · have hh := (IsS_brk.1 hS).2
    refine ⟨hlt, by omega, fun q => by omega, fun q => by omega, fun q => by omega, fun _ t r' hb => ?_⟩
    have hlp : lp = true := hw
    obtain ⟨t2, r2, h1, h2⟩ := hlb hlp
    rw [P.t, brk1_brkL h1] at hb
    cases hb
    rw [P.v]; exact h2
end
section
variable {G : Arena} {root : Nat} {np : Value} {tb rb : Nat} {nv : Value} {w w' : World} {ow : Nat → Nat} {β τ : List Nat} {m : Nat} {s : IS} {v : PV}
/-- a variable turned. -/
theorem RM.setE (h : RM G root np tb rb nv w ow β τ m s) {e b : Nat} {z : Env} (h0 : e ≠ 0) (hb : β[e - 1]? = some b) (hz : s.envs[e - 1]? = some z) (ht : ow b = 1000 + (e - 1)) (f : Fram (one b) w w') (hB : Blk w'.heap b (evc β { z with v := v }) 159) : RM G root np tb rb nv w' ow β τ m (Go.Proofs.Qxb6500568aGreatDoor.setE e v s) := by
  have hn : ∀ {c t : Nat}, ow c = t → t ≠ 1000 + (e - 1) → ¬ one b c := fun {c t} e1 q z => by
    have z : c = b := z
    rw [z, ht] at e1; omega
  have hE := Xt.refl w ow
  have hlen := setE_len (s := s) e v
  have hmo : ∀ (k : Nat) (y : Env), (Go.Proofs.Qxb6500568aGreatDoor.setE e v s).envs[k]? = some y → ∃ y0, s.envs[k]? = some y0 ∧ y = if k = e - 1 then { y0 with v := v } else y0 := fun k y hy => by
    have hy : (s.envs.modify (e - 1) fun x => { x with v := v })[k]? = some y := hy
    rw [List.getElem?_modify] at hy
    cases hq : s.envs[k]? with
    | none => rw [hq] at hy; cases hy
    | some y0 =>
      rw [hq] at hy
      have hy := Option.some.inj hy
      refine ⟨y0, rfl, ?_⟩
      rw [← hy]
      by_cases e1 : k = e - 1
      · rw [if_pos e1]; exact if_pos e1.symm
      · rw [if_neg e1]; exact if_neg (Ne.symm e1)
  obtain ⟨cv, hv, a0, a1, a2, a3, a4, h1, h2, h3, h4⟩ := h.r
  refine ⟨⟨cv, hv, a0, a1, a2, a3, a4, h1.fram f (hn h.t70 (by omega)), h2.far f (fun b q l => hn q (by omega)) hE, h3.far f (fun b q l => hn q (by omega)) hE, h4⟩, h.t70, fun i x hx => ?_, h.tl, h.t5, fun k y hy => ?_, by rw [hlen]; exact h.el, fun k y hy => ?_, by rw [hlen]; exact h.te, by rw [hlen]; exact h.ce, h.M.far f (fun b q l => hn rfl (by have := h.M.len; unfold mtag at q; omega)) hE, ?_, h.dfN f, h.cl, h.sk, h.bd, h.fu⟩
  · obtain ⟨b', tv, vv, q1, q2⟩ := h.T i x hx
    have hi : i < s.ths.length := (List.getElem?_eq_some_iff.1 hx).1
    have h5 := h.t5
    exact ⟨b', tv, vv, q1, q2.far f (fun b q l => hn rfl (by unfold thT at q; omega)) hE⟩
  · obtain ⟨y0, hy0, rfl⟩ := hmo k y hy
    by_cases e1 : k = e - 1
    · rw [if_pos e1]
      subst e1
      rw [hz] at hy0
      cases hy0
      exact ⟨b, hb, hB, ht⟩
    · rw [if_neg e1]
      obtain ⟨b', q1, q2, q3⟩ := h.E k y0 hy0
      exact ⟨b', q1, q2.fram f (hn q3 (by omega)), q3⟩
  · obtain ⟨y0, hy0, rfl⟩ := hmo k y hy
    have := h.up k y0 hy0
    split <;> exact this
  · obtain ⟨Gp, q1, q2⟩ := h.N
    exact ⟨Gp, q1.far f (fun b q l => hn q (by omega)) hE, q2⟩
theorem rev_set {l : List PV} {j : Nat} {x : PV} (hj : j < l.length) : l.reverse.set (l.length - 1 - j) x = (l.set j x).reverse := by
  apply List.ext_getElem?
  intro i
  rcases Nat.lt_or_ge i l.length with hi | hi
  · have h1 : (l.set j x).reverse[i]? = (l.set j x)[l.length - 1 - i]? := by
      rw [List.getElem?_reverse (by rw [List.length_set]; exact hi), List.length_set]
    rw [h1, List.getElem?_set, List.getElem?_set, List.length_reverse, List.getElem?_reverse hi]
    by_cases e : l.length - 1 - j = i
    · rw [if_pos e, if_pos (by omega), if_pos (by omega), if_pos hj]
    · rw [if_neg e, if_neg (by omega)]
  · rw [List.getElem?_eq_none (by simp; omega), List.getElem?_eq_none (by simp; omega)]
/-- a value on the stack turned in place; j counts from the top. -/
theorem RM.vput (h : RM G root np tb rb nv w ow β τ m s) {b g cap j jj mm : Nat} {tv : Value} {l l' cs : List Value} {x x' : PV} (hb : τ[s.cur]? = some b) (hT : ThV w ow s.cur β s.th b tv (.slice (some ⟨g, 0, none⟩) s.th.vals.length cap)) (hV : Blk w.heap g l 119) (hj : s.th.vals[j]? = some x) (f : Fram (one g) w w') (hB : Blk w'.heap g l' 119)
    (hl : l' = l.take ((s.th.vals.length - 1 - j) * 3 + jj) ++ cs ++ l.drop ((s.th.vals.length - 1 - j) * 3 + jj + mm)) (hm : cs.length = mm) (hjm : jj + mm ≤ 3) (he : pvc x' = (pvc x).take jj ++ cs ++ (pvc x).drop (jj + mm)) : RM G root np tb rb nv w' ow β τ m (s.setT { s.th with vals := s.th.vals.set j x' }) := by
  have hjl := (List.getElem?_eq_some_iff.1 hj).1
  have hc := h.cl
  have h5 := h.t5
  have hrl : s.th.vals.reverse.length = s.th.vals.length := List.length_reverse
  have hx : s.th.vals.reverse[s.th.vals.length - 1 - j]? = some x := by rw [List.getElem?_reverse (by omega), show s.th.vals.length - 1 - (s.th.vals.length - 1 - j) = j by omega]; exact hj
  have hvs := hT.vs
  rw [← hrl] at hvs
  obtain ⟨g', cap', l0, e1, hB0, k1, k2, k3, k4, k5⟩ := hvs.at pvc_len hx
  cases e1
  obtain ⟨rfl, -⟩ := Blk.uniq hB0 hV
  have hcap := hvs.capge
  have hff : Fram (tg ow (thT s.cur)) w w' := f.mono (fun c _ q => by have q : c = g := q; show thT s.cur (ow c); rw [q, k4]; exact .inr (.inr rfl))
  have hvs' : OwT w' ow (85 + s.cur) (.slice (some ⟨g, 0, none⟩) s.th.vals.reverse.length cap) 119 3 s.th.vals.reverse.length (rws pvc (s.th.vals.reverse.set (s.th.vals.length - 1 - j) x')) := OwT.put pvc_len hB k1 (by obtain ⟨_, _, _, z1, _, _, z4, _⟩ := hvs.o.pos (by omega); cases z1; exact z4) k2 k3 k4 hl hx hm hjm he
  rw [rev_set hjl, hrl] at hvs'
  have hlen : (s.th.vals.set j x').length = s.th.vals.length := List.length_set
  have hbd := h.bdm
  refine h.turnT hff (Xt.refl _ _) (h.dfN f) hb (tv := tv) (vv := .slice (some ⟨g, 0, none⟩) s.th.vals.length cap) ⟨hT.k.fram f (fun q => by have q : b = g := q; have := hT.t; rw [q, k4] at this; omega), hT.t, hT.ts.far f (fun c q _ z => by have z : c = g := z; rw [z, k4] at q; omega) (Xt.refl _ _), by rw [hlen]; exact hvs'⟩ h.tem (Nat.le_refl _) ⟨hbd.1, by rw [hlen]; exact hbd.2⟩
end
end Go.Proofs.Qxb6500568aGreatDoor
