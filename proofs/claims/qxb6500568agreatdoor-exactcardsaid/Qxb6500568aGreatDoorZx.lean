import Derived.Test.Qxb6500568aGreatDoorZw
/- The compiler: blocks. -/
namespace Go.Proofs.Qxb6500568aGreatDoor
open Ieee
set_option linter.unusedVariables false
set_option linter.unusedSimpArgs false
set_option linter.unusedSectionVars false

theorem isSL_nx {G : Arena} : ∀ (k : Nat) {zs : Tr} {n : Nat}, szT zs ≤ k → IsSL G n zs → ∃ ns, NxL G n ns ∧ ns.length ≤ szT zs
  | 0, zs, n, hk, h => by have := szT_pos zs; omega
  | k + 1, zs, n, hk, h => by
    rcases h.inv with rfl | ⟨e, l, rfl⟩
    · exact ⟨[], IsSL_nil.1 h, Nat.zero_le _⟩
    · obtain ⟨hn0, he, hl⟩ := IsSL_cons.1 h
      have hk : 1 + szT e + szT l ≤ k + 1 := hk
      obtain ⟨ns, h1, h2⟩ := isSL_nx k (by omega) hl
      exact ⟨n :: ns, ⟨rfl, hn0, he.lt, h1⟩, by rw [List.length_cons]; show _ ≤ 1 + szT e + szT l; omega⟩
theorem nd_posS {G : Arena} {n : Nat} {t : Tr} (h : IsS G n t) : 1 ≤ ndT t := by
  rcases h.inv with ⟨s, rfl⟩ | ⟨s, v, rfl⟩ | ⟨s, t, f, zs, rfl⟩ | ⟨s, c, ps, b, rfl⟩ | ⟨s, v, rfl⟩ | ⟨a, b, v, rfl⟩ | ⟨f, zs, rfl⟩ | ⟨c, t, e, rfl⟩ | ⟨c, b, rfl⟩ | ⟨s, a, l, b, rfl⟩ | ⟨s, a, l, p, b, rfl⟩ | ⟨s, t, x, b, rfl⟩ | rfl | ⟨a, rfl⟩ | ⟨a, b, rfl⟩ | rfl <;> simp [ndT, St.loc, St.locV, St.loc2, St.locFn, St.setN, St.setI, St.call, St.iff, St.whl, St.for2, St.for3, St.forIn, St.ret0, St.ret1, St.ret2, St.brk] <;> omega
theorem isSL_nd {G : Arena} : ∀ (k : Nat) {zs : Tr} {n : Nat}, szT zs ≤ k → IsSL G n zs → ∃ ns, NxL G n ns ∧ ns.length ≤ ndT zs
  | 0, zs, n, hk, h => by have := szT_pos zs; omega
  | k + 1, zs, n, hk, h => by
    rcases h.inv with rfl | ⟨e, l, rfl⟩
    · exact ⟨[], IsSL_nil.1 h, Nat.zero_le _⟩
    · obtain ⟨hn0, he, hl⟩ := IsSL_cons.1 h
      have hk : 1 + szT e + szT l ≤ k + 1 := hk
      obtain ⟨ns, h1, h2⟩ := isSL_nd k (by omega) hl
      have := nd_posS he
      exact ⟨n :: ns, ⟨rfl, hn0, he.lt, h1⟩, by rw [List.length_cons]; show _ ≤ 0 + ndT e + ndT l; omega⟩
theorem aftS_pre (L : List Str) (t : Tr) : ∃ M, aftS L t = L ++ M := by
  unfold aftS
  split
  · exact ⟨_, rfl⟩
  · split
    · exact ⟨_, rfl⟩
    · exact ⟨[], (List.append_nil _).symm⟩
section
variable {E : ZEnv} {w : World} {ow : Nat → Nat} {O : List Nat} {S : Fns} {f : ZAct} {q : List ZAct}
theorem addB_mem {l : List (Nat × List Nat)} {p : List Nat} {x : Nat × List Nat} (h : x ∈ addB l p) : x ∈ l ∨ ∃ y ∈ l, x = (y.1, y.2 ++ p) := by
  cases l with
  | nil => cases h
  | cons y r =>
    rcases List.mem_cons.1 h with rfl | h
    · exact .inr ⟨y, List.mem_cons_self, rfl⟩
    · exact .inl (List.mem_cons_of_mem _ h)
/-- behind a statement. -/
theorem FX.sS {t : Tr} {lp : Bool} {n B : Nat} {N : List Nat} (h : FX E S f q (numsT t ++ N) (100 * ndT t + B)) (hi : IsS E.G n t) (hw : W t lp f.L.length) :
    FX E (cmp t 0 (chn (f :: q)) (Go.Proofs.Qxb6500568aGreatDoor.lpB f.lps) f.code.length S).2 ⟨f.j, aftS f.L t, f.code ++ (cmp t 0 (chn (f :: q)) (Go.Proofs.Qxb6500568aGreatDoor.lpB f.lps) f.code.length S).1 65535, addB f.lps (hp f.code.length ((cmp t 0 (chn (f :: q)) (Go.Proofs.Qxb6500568aGreatDoor.lpB f.lps) f.code.length S).1 65535))⟩ q N B := by
  have htt := h.tt
  have hln := FX.ln (t := t) (md := 0) (base := Go.Proofs.Qxb6500568aGreatDoor.lpB f.lps) h
  refine h.step ((bd_all E.G (szT t)).2.2.1 t n lp hi (Nat.le_refl _)) hw h.lpB (by omega) (Nat.zero_le _) (by omega) (by rw [aftN_len]; exact aft_le hi _ hw h.L) (by rw [addB_len]; have := h.lq; omega) (fun x hx => ?_)
  have hpl := hp_len f.code.length ((cmp t 0 (chn (f :: q)) (Go.Proofs.Qxb6500568aGreatDoor.lpB f.lps) f.code.length S).1 65535)
  rw [hln] at hpl
  rcases addB_mem hx with hx | ⟨y, hy, rfl⟩
  · obtain ⟨h1, h2, h3⟩ := h.lb x hx
    exact ⟨h1, by omega, fun p hp => by have := h3 p hp; omega⟩
  · obtain ⟨h1, h2, h3⟩ := h.lb y hy
    refine ⟨h1, by show (y.2 ++ _).length ≤ _; rw [List.length_append]; omega, fun p hp => ?_⟩
    rcases List.mem_append.1 hp with hp | hp
    · have := h3 p hp; omega
    · have := (hp_lt hp).2; rw [hln] at this; exact this
/-- a walk over statements: what is still to come. -/
structure SI (E : ZEnv) (f : ZAct) (q : List ZAct) (k : Nat) (lp : Bool) (ns : List Nat) (w : World) (ow : Nat → Nat) (Cf : Cod) (Sf : Fns) (Of : List Nat) (Lf : List (Nat × List Nat)) (i : Nat) (u : World) : Prop where
  ex : ∃ t' n' g S' O' ow', NxL E.G n' (ns.drop i) ∧ IsSL E.G n' t' ∧ szT t' ≤ k ∧ W t' lp g.L.length ∧ PaT E.pa t' f.j ∧ FX E S' g q (numsT t') (100 * ndT t' + 3) ∧ g.code ++ (cmp t' f.L.length (chn (g :: q)) (lpB f.lps) g.code.length S').1 65535 = Cf ∧ (cmp t' f.L.length (chn (g :: q)) (lpB f.lps) g.code.length S').2 = Sf ∧ O' ++ numsT t' = Of ∧ addB g.lps (hp g.code.length ((cmp t' f.L.length (chn (g :: q)) (lpB f.lps) g.code.length S').1 65535)) = Lf ∧ Xt w ow ow' ∧ Fram (tg ow cpT) w u ∧ CM E u ow' O' S' (g :: q) ∧ g.j = f.j ∧ lpB g.lps = lpB f.lps ∧ (lp = true → g.lps ≠ []) ∧ ∃ M, g.L = f.L ++ M
theorem stmts138 {k : Nat} {lp : Bool} (hk : ∀ t, szT t ≤ k → XS t lp) {t : Tr} {n : Nat} (hR : CM E w ow O S (f :: q)) (hi : IsSL E.G n t) (hz : szT t ≤ k) (hw : W t lp f.L.length) (hpa : PaT E.pa t f.j) (hlp : lp = true → f.lps ≠ []) (hx : FX E S f q (numsT t) (100 * ndT t + 3)) :
    Ret Tryz.prog 138 [fptr E f.j, i64c n, .func (.func 139) #[fptr E f.j] #[]] w (fun r w' => ∃ g S' ow', g.j = f.j ∧ (∃ M, g.L = f.L ++ M) ∧ g.L.length ≤ 12 ∧ 3 * g.code.length ≤ 31000 ∧ g.code ++ (if f.L.length < g.L.length then [(29, f.L.length)] else []) = f.code ++ (cmp t f.L.length (chn (f :: q)) (lpB f.lps) f.code.length S).1 65535 ∧ S' = (cmp t f.L.length (chn (f :: q)) (lpB f.lps) f.code.length S).2 ∧ g.lps = addB f.lps (hp f.code.length ((cmp t f.L.length (chn (f :: q)) (lpB f.lps) f.code.length S).1 65535)) ∧ Xt w ow ow' ∧ Fram (tg ow cpT) w w' ∧ CM E w' ow' (O ++ numsT t) S' (g :: q)) := by
  obtain ⟨ns, hns, hnl⟩ := isSL_nd k hz hi
  have htt := hx.tt
  have h := each138 (E := E) (j := f.j) (v := .func (.func 139) #[fptr E f.j] #[]) (w := w) (SI E f q k lp ns w ow (f.code ++ (cmp t f.L.length (chn (f :: q)) (lpB f.lps) f.code.length S).1 65535) (cmp t f.L.length (chn (f :: q)) (lpB f.lps) f.code.length S).2 (O ++ numsT t) (addB f.lps (hp f.code.length ((cmp t f.L.length (chn (f :: q)) (lpB f.lps) f.code.length S).1 65535)))) hns ⟨t, n, f, S, O, ow, hns, hi, hz, hw, hpa, hx, rfl, rfl, rfl, rfl, Xt.refl _ _, Fram.refl _ _, hR, rfl, rfl, hlp, [], (List.append_nil _).symm⟩ (fun i u hI => ?_) (fun i m u hm hI => ?_) (by omega)
  · refine Calls.mono h (fun en w' ⟨v, e, hv, hI⟩ => ⟨v, e, ?_⟩)
    obtain ⟨t', n', g, S', O', ow', h1, h2, h3, h4, h5, h6, h7, h8, h9, h10, h11, h12, h13, h14, h15, h16, h17⟩ := hI.ex
    rw [List.drop_length] at h1
    have h1 : n' = 0 := h1
    rcases h2.inv with rfl | ⟨e, l, rfl⟩
    · have h7 : g.code ++ (if f.L.length < g.L.length then [(29, f.L.length)] else []) = _ := h7
      have h8 : S' = _ := h8
      have h9 : O' ++ [] = _ := h9
      have h10 : addB g.lps (hp g.code.length (if f.L.length < g.L.length then [(29, f.L.length)] else [])) = _ := h10
      rw [hp_none (by split
                      · exact .cons (by show 29 < 256; decide) (by show f.L.length < 65535; have := hx.L; omega) .nil
                      · exact .nil), addB_nil] at h10
      rw [List.append_nil] at h9
      subst h9
      exact ⟨g, S', ow', h14, h17, h6.L, h6.clen, h7, h8, h10, h11, h12, h13⟩
    · exact ((IsSL_cons.1 h2).1 h1).elim
  · obtain ⟨t', n', g, S', O', ow', h1, h2, h3, h4, h5, h6, h7, h8, h9, h10, h11, h12, h13, h14, h15, h16, h17⟩ := hI.ex
    rw [← h14]
    exact h13.rdn hx.g0.1
  · obtain ⟨t', n', g, S', O', ow', h1, h2, h3, h4, h5, h6, h7, h8, h9, h10, h11, h12, h13, h14, h15, h16, h17⟩ := hI.ex
    have hil := (List.getElem?_eq_some_iff.1 hm).1
    have hd : ns.drop i = m :: ns.drop (i + 1) := by
      rw [List.drop_eq_getElem_cons hil]
      congr 1
      rw [List.getElem?_eq_getElem hil] at hm
      injection hm
    rw [hd] at h1
    obtain ⟨rfl, hm0, hmG, hmx⟩ := h1
    rcases h2.inv with rfl | ⟨st, l, rfl⟩
    · exact (hm0 (IsSL_nil.1 h2)).elim
    · obtain ⟨-, he, hl⟩ := IsSL_cons.1 h2
      have h3 : 1 + szT st + szT l ≤ k := h3
      obtain ⟨w1, w2⟩ : W st lp g.L.length ∧ W l lp (aftN g.L.length st) := h4
      obtain ⟨p1, p2⟩ : PaT E.pa st f.j ∧ PaT E.pa l f.j := h5
      have h6 : FX E S' g q (numsT st ++ numsT l) (100 * (0 + ndT st + ndT l) + 3) := h6
      have h6 : FX E S' g q (numsT st ++ numsT l) (100 * ndT st + (100 * ndT l + 3)) := h6.le (by omega)
      have hx1 := h6.sS he w1
      have hln : ((cmp st 0 (chn (g :: q)) (lpB g.lps) g.code.length S').1 65535).length = ln (cmp st 0 (chn (g :: q)) (lpB g.lps) g.code.length S') := FX.ln (t := st) (md := 0) (base := lpB g.lps) h6
      refine ⟨139, [fptr E f.j], [], rfl, en_139, ?_⟩
      show Ret Tryz.prog 139 [fptr E f.j, i64c n'] u _
      rw [← h14]
      refine Calls.mono (hk st (by omega) E _ _ _ _ g q _ h13 he w1 (by rw [h14]; exact p1) h16 (h6.left.le (by omega))) (fun en w' ⟨v, ev, hv, ow1, x1, f1, r1⟩ => ⟨v, ev, ?_⟩)
      have e7 : g.code ++ ((cmp st 0 (chn (g :: q)) (lpB f.lps) g.code.length S').1 65535 ++ (cmp l f.L.length (loc (chn (g :: q)) (aftS g.L st)) (lpB f.lps) (g.code.length + ln (cmp st 0 (chn (g :: q)) (lpB f.lps) g.code.length S')) (cmp st 0 (chn (g :: q)) (lpB f.lps) g.code.length S').2).1 65535) = _ := h7
      have e8 : (cmp l f.L.length (loc (chn (g :: q)) (aftS g.L st)) (lpB f.lps) (g.code.length + ln (cmp st 0 (chn (g :: q)) (lpB f.lps) g.code.length S')) (cmp st 0 (chn (g :: q)) (lpB f.lps) g.code.length S').2).2 = _ := h8
      have e10 : addB g.lps (hp g.code.length ((cmp st 0 (chn (g :: q)) (lpB f.lps) g.code.length S').1 65535 ++ (cmp l f.L.length (loc (chn (g :: q)) (aftS g.L st)) (lpB f.lps) (g.code.length + ln (cmp st 0 (chn (g :: q)) (lpB f.lps) g.code.length S')) (cmp st 0 (chn (g :: q)) (lpB f.lps) g.code.length S').2).1 65535)) = _ := h10
      rw [h15] at hx1 hln r1
      rw [← hln] at e7 e8 e10
      rw [hp_app, ← addB_app] at e10
      obtain ⟨M, hM⟩ := h17
      obtain ⟨M2, hM2⟩ := aftS_pre g.L st
      refine ⟨l, _, ⟨g.j, aftS g.L st, g.code ++ (cmp st 0 (chn (g :: q)) (lpB f.lps) g.code.length S').1 65535, addB g.lps (hp g.code.length ((cmp st 0 (chn (g :: q)) (lpB f.lps) g.code.length S').1 65535))⟩, (cmp st 0 (chn (g :: q)) (lpB f.lps) g.code.length S').2, O' ++ numsT st, ow1, hmx, hl, by omega, by rw [← aftN_len] at w2; exact w2, p2, hx1, ?_, ?_, ?_, ?_, h11.trans h12.size x1, cp_trans' h11 h12 f1, r1, h14, by rw [addB_B]; exact h15, fun h => ?_, M ++ M2, ?_⟩
      · rw [← e7, List.append_assoc]
        simp only [List.length_append]
        rfl
      · rw [← e8]
        simp only [List.length_append]
        rfl
      · have h9 : O' ++ (numsT st ++ numsT l) = _ := h9
        rw [← h9, List.append_assoc]
      · rw [← e10]
        simp only [List.length_append]
        rfl
      · have := h16 h
        cases hg : g.lps with
        | nil => exact (this hg).elim
        | cons x r => simp [addB]
      · show aftS g.L st = _
        rw [hM2, hM, List.append_assoc]
set_option maxHeartbeats 8000000 in
theorem xb_of {k : Nat} {lp : Bool} (hk : ∀ t, szT t ≤ k → XS t lp) {t : Tr} (hz : szT t ≤ k) : XB t lp := by
  intro E w ow O S f q n hR hi hw hpa hlp hx
  have hF : Fram (tg ow cpT) w w := Fram.refl _ _
  have hX : Xt w ow ow := Xt.refl _ _
  refine retd_of Tryz.func79 rfl Tryz.ntmps79 rfl ?_
  refine c_seq (fun K1 hK1 => ?_)
  obtain ⟨R_, z_, op⟩ := hR.open (f := f) (by simp)
  have hG := op.B
  have hC := hR.cb
  have khG := hR.ta
  have khC := hR.tc
  refine c_reg ?_ -- region 0 fn.go:102
  refine wl (ro_move rfl) ?_
  refine wl (ro_move rfl) ?_
  refine wl (ro_nilCheck rfl) ?_
  refine wl (ro_fieldAddr (k := 3) rfl fo_199_3) ?_
  refine wl (ro_loadB rfl sc_192 hG (op.row 3 (by decide))) ?_
  refine wl (ro_lenL rfl se_192) ?_
  refine wl_deferA rfl ?_
  refine wl_nil (x_then (hK1 _ _ ?_))
  clear hK1 K1
  refine c_reg ?_ -- region 1 fn.go:103
  refine wl (ro_move rfl) ?_
  refine wl (ro_move rfl) ?_
  refine wl (ro_move rfl) ?_
  refine wl (ro_makeBound rfl) ?_
  refine wl_call rfl en_138 (stmts138 hk hR hi hz hw hpa hlp hx) ?_
  rintro v9 u9 ⟨g, S9, ow9, g1, ⟨M, g2⟩, g3, g4, g5, g6, g7, x9, f9, r9⟩
  refine wl_nil ?_
  have hlv := leave137W (base := f.L.length) r9 (by omega) (by omega)
  rw [show fptr E g.j = fptr E f.j by rw [g1]] at hlv
  refine bpd_one (args := [fptr E f.j, i64c f.L.length]) rfl en_137 hlv (fun v w' hv ↦ ⟨rfl, ZP.tr (hX.trans hF.size x9) (cp_trans' hX hF f9) ?_⟩)
  have hz := hv.2
  rw [g5, g6, g7, g1, show g.L.take f.L.length = f.L by rw [g2, List.take_left]] at hz
  exact hz
end
end Go.Proofs.Qxb6500568aGreatDoor
