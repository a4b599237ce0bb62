import Derived.Test.Qxb6500568aGreatDoorZq
/- The compiler: lists of expressions, calls, tables (written by tools/mk_zx.py). -/
namespace Go.Proofs.Qxb6500568aGreatDoor
open Ieee
set_option linter.unusedVariables false
set_option linter.unusedSimpArgs false
set_option linter.unusedSectionVars false

theorem isEL_nx {G : Arena} : ∀ (k : Nat) {zs : Tr} {n : Nat}, szT zs ≤ k → IsEL G n zs → ∃ ns, NxL G n ns ∧ ns.length = lenE zs
  | 0, zs, n, hk, h => by have := szT_pos zs; omega
  | k + 1, zs, n, hk, h => by
    rcases h.inv with rfl | ⟨e, l, rfl⟩
    · exact ⟨[], IsEL_nil.1 h, rfl⟩
    · obtain ⟨hn0, he, hl⟩ := IsEL_cons.1 h
      have hk : 1 + szT e + szT l ≤ k + 1 := hk
      obtain ⟨ns, h1, h2⟩ := isEL_nx k (by omega) hl
      exact ⟨n :: ns, ⟨rfl, hn0, he.lt, h1⟩, by rw [List.length_cons, h2]; rfl⟩
section
variable {E : ZEnv} {w : World} {ow : Nat → Nat} {O : List Nat} {S : Fns} {f : ZAct} {q : List ZAct}
/-- a walk over arguments: what is still to come. -/
structure AI (E : ZEnv) (f : ZAct) (q : List ZAct) (k : Nat) (ns : List Nat) (w : World) (ow : Nat → Nat) (Cf : Cod) (Sf : Fns) (Of : List Nat) (md : Nat) (i : Nat) (u : World) : Prop where
  ex : ∃ zs' n' c' S' O' ow', NxL E.G n' (ns.drop i) ∧ IsEL E.G n' zs' ∧ szT zs' ≤ k ∧ W zs' false f.L.length ∧ PaT E.pa zs' f.j ∧ FX E S' { f with code := c' } q (numsT zs') (100 * ndT zs') ∧ c' ++ (cmp zs' md (chn (f :: q)) 0 c'.length S').1 65535 = Cf ∧ (cmp zs' md (chn (f :: q)) 0 c'.length S').2 = Sf ∧ O' ++ numsT zs' = Of ∧ Xt w ow ow' ∧ Fram (tg ow cpT) w u ∧ CM E u ow' O' S' ({ f with code := c' } :: q)
theorem args138 {k : Nat} (hk : ∀ t, szT t ≤ k → XE t) {zs : Tr} {n : Nat} (hR : CM E w ow O S (f :: q)) (hi : IsEL E.G n zs) (hz : szT zs ≤ k) (hw : W zs false f.L.length) (hpa : PaT E.pa zs f.j) (hx : FX E S f q (numsT zs) (100 * ndT zs)) (hG0 : 0 < E.G.length) (hle : lenE zs ≤ 3) :
    Ret Tryz.prog 138 [fptr E f.j, i64c n, .func (.func 186) #[fptr E f.j] #[]] w (fun r w' => r = i64c (lenE zs) ∧ ZP E w ow (O ++ numsT zs) (cmp zs 0 (chn (f :: q)) 0 f.code.length S).2 ({ f with code := f.code ++ (cmp zs 0 (chn (f :: q)) 0 f.code.length S).1 65535 } :: q) w') := by
  obtain ⟨ns, hns, hnl⟩ := isEL_nx k hz hi
  have h := each138 (E := E) (j := f.j) (v := .func (.func 186) #[fptr E f.j] #[]) (w := w) (AI E f q k ns w ow (f.code ++ (cmp zs 0 (chn (f :: q)) 0 f.code.length S).1 65535) (cmp zs 0 (chn (f :: q)) 0 f.code.length S).2 (O ++ numsT zs) 0) hns ⟨zs, n, f.code, S, O, ow, hns, hi, hz, hw, hpa, hx, rfl, rfl, rfl, Xt.refl _ _, Fram.refl _ _, hR⟩ (fun i u hI => ?_) (fun i m u hm hI => ?_) (by omega)
  · rw [hnl] at h
    refine Calls.mono h (fun en w' ⟨v, e, hv, hI⟩ => ⟨v, e, hv, ?_⟩)
    obtain ⟨zs', n', c', S', O', ow', h1, h2, h3, h4, h5, h6, h7, h8, h9, h10, h11, h12⟩ := hI.ex
    rw [← hnl, List.drop_length] at h1
    have h1 : n' = 0 := h1
    rcases h2.inv with rfl | ⟨e, l, rfl⟩
    · have h7 : c' ++ [] = _ := h7
      have h8 : S' = _ := h8
      have h9 : O' ++ [] = _ := h9
      rw [List.append_nil] at h7 h9
      subst h7 h8 h9
      exact ⟨ow', h10, h11, h12⟩
    · exact ((IsEL_cons.1 h2).1 h1).elim
  · obtain ⟨zs', n', c', S', O', ow', h1, h2, h3, h4, h5, h6, h7, h8, h9, h10, h11, h12⟩ := hI.ex
    exact h12.rdn hG0
  · obtain ⟨zs', n', c', S', O', ow', h1, h2, h3, h4, h5, h6, h7, h8, h9, h10, h11, h12⟩ := hI.ex
    have hd : ns.drop i = m :: ns.drop (i + 1) := by
      have hil := (List.getElem?_eq_some_iff.1 hm).1
      rw [List.drop_eq_getElem_cons hil]
      congr 1
      rw [List.getElem?_eq_getElem hil] at hm
      injection hm
    rw [hd] at h1
    obtain ⟨rfl, hm0, hmG, hmx⟩ := h1
    rcases h2.inv with rfl | ⟨e, l, rfl⟩
    · exact (hm0 (IsEL_nil.1 h2)).elim
    · obtain ⟨-, he, hl⟩ := IsEL_cons.1 h2
      have h3 : 1 + szT e + szT l ≤ k := h3
      obtain ⟨w1, w2⟩ : W e false f.L.length ∧ W l false f.L.length := h4
      obtain ⟨p1, p2⟩ : PaT E.pa e f.j ∧ PaT E.pa l f.j := h5
      have h6 : FX E S' { f with code := c' } q (numsT e ++ numsT l) (100 * (0 + ndT e + ndT l)) := h6
      have h6 : FX E S' { f with code := c' } q (numsT e ++ numsT l) (100 * ndT e + 100 * ndT l) := h6.le (by omega)
      have hx1 := h6.eE he w1
      have hln := FX.ln (t := e) (md := 0) (base := 0) h6
      have hln : ((cmp e 0 (chn (f :: q)) 0 c'.length S').1 65535).length = ln (cmp e 0 (chn (f :: q)) 0 c'.length S') := hln
      refine ⟨186, [fptr E f.j], [], rfl, en_186, ?_⟩
      refine Calls.mono (hk e (by omega) E _ _ _ _ { f with code := c' } q _ h12 he w1 p1 (h6.left.le (by omega))) (fun en w' ⟨v, ev, hv, ow1, x1, f1, r1⟩ => ⟨v, ev, ?_⟩)
      refine ⟨l, _, c' ++ (cmp e 0 (chn (f :: q)) 0 c'.length S').1 65535, (cmp e 0 (chn (f :: q)) 0 c'.length S').2, O' ++ numsT e, ow1, hmx, hl, by omega, w2, p2, hx1, ?_, ?_, ?_, h10.trans h11.size x1, cp_trans' h10 h11 f1, r1⟩
      · have h7 : c' ++ ((cmp e 0 (chn (f :: q)) 0 c'.length S').1 65535 ++ (cmp l 0 (chn (f :: q)) 0 (c'.length + ln (cmp e 0 (chn (f :: q)) 0 c'.length S')) (cmp e 0 (chn (f :: q)) 0 c'.length S').2).1 65535) = _ := h7
        rw [← h7, List.length_append, hln, List.append_assoc]
      · have h8 : (cmp l 0 (chn (f :: q)) 0 (c'.length + ln (cmp e 0 (chn (f :: q)) 0 c'.length S')) (cmp e 0 (chn (f :: q)) 0 c'.length S').2).2 = _ := h8
        rw [← h8, List.length_append, hln]
      · have h9 : O' ++ (numsT e ++ numsT l) = _ := h9
        rw [← h9, List.append_assoc]
end
end Go.Proofs.Qxb6500568aGreatDoor
