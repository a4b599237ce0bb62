import Derived.Test.Qxb6500568aGreatDoorZu
/- The compiler: functions. -/
namespace Go.Proofs.Qxb6500568aGreatDoor
open Ieee
set_option linter.unusedVariables false
set_option linter.unusedSimpArgs false
set_option linter.unusedSectionVars false

theorem isNm_nx {G : Arena} : ∀ {ps : List Str} {n : Nat}, IsNm G n ps → ∃ ns, NxL G n ns ∧ ns.length = ps.length ∧ ∀ (i m : Nat), ns[i]? = some m → ps[i]? = some (nd G m).S ∧ m < G.length
  | [], n, h => ⟨[], h, rfl, fun i m hm => by cases hm⟩
  | s :: l, n, h => by
    obtain ⟨h1, h2, h3, h4⟩ := h
    have hl := nd_lt (G := G) (n := n) (by rw [h2]; decide)
    obtain ⟨ns, k1, k2, k3⟩ := isNm_nx h4
    refine ⟨n :: ns, ⟨rfl, h1, hl, k1⟩, by rw [List.length_cons, k2]; rfl, fun i m hm => ?_⟩
    cases i with
    | zero =>
      simp only [List.getElem?_cons_zero, Option.some.injEq] at hm
      subst hm
      exact ⟨by rw [h3]; rfl, hl⟩
    | succ i => exact k3 i m hm
section
variable {E : ZEnv} {w : World} {ow : Nat → Nat} {O : List Nat} {S : Fns} {f g : ZAct} {q : List ZAct}
theorem params138 {ps : List Str} {n : Nat} (hR : CM E w ow O S (g :: q)) (hg : g.L = []) (hi : IsNm E.G n ps) (hps : ps.length ≤ 3) (hl : g.j < S.length) (hG0 : 0 < E.G.length) :
    Ret Tryz.prog 138 [fptr E g.j, i64c n, .func (.func 257) #[fptr E g.j] #[]] w (fun r w' => r = i64c ps.length ∧ ∃ S', S'.length = S.length ∧ (∀ k, k ≠ g.j → fsAt S' k = fsAt S k) ∧ fsAt S' g.j = { fsAt S g.j with ns := max (fsAt S g.j).ns ps.length } ∧ ZP E w ow O S' ({ g with L := ps } :: q) w') := by
  obtain ⟨ns, k1, k2, k3⟩ := isNm_nx hi
  have h := each138 (E := E) (j := g.j) (v := .func (.func 257) #[fptr E g.j] #[]) (w := w) (fun i u => ∃ S', S'.length = S.length ∧ (∀ k, k ≠ g.j → fsAt S' k = fsAt S k) ∧ fsAt S' g.j = { fsAt S g.j with ns := max (fsAt S g.j).ns i } ∧ ZP E w ow O S' ({ g with L := ps.take i } :: q) u) k1 ⟨S, rfl, fun _ _ => rfl, by rw [Nat.max_eq_left (Nat.zero_le _)], ow, Xt.refl _ _, Fram.refl _ _, by rw [List.take_zero, ← hg]; exact hR⟩ (fun i u hI => ?_) (fun i m u hm hI => ?_) (by omega)
  · rw [k2] at h
    refine Calls.mono h (fun en w' ⟨v, e, hv, hI⟩ => ⟨v, e, hv, ?_⟩)
    rw [List.take_length] at hI
    exact hI
  · obtain ⟨S', -, -, -, ow', -, -, h4⟩ := hI
    exact h4.rdn hG0
  · obtain ⟨S', h1, h2, h3, ow', x1, f1, h4⟩ := hI
    obtain ⟨hp, hm2⟩ := k3 i m hm
    have hil := (List.getElem?_eq_some_iff.1 hm).1
    have ht : (ps.take i).length = i := by rw [List.length_take]; omega
    refine ⟨257, [fptr E g.j], [], rfl, en_257, ?_⟩
    refine Calls.mono (param257 (f := { g with L := ps.take i }) h4 hm2 (by show (ps.take i).length ≤ _; omega) (by rw [h1]; exact hl)) (fun en w' ⟨v, e, hv, hz⟩ => ⟨v, e, ?_⟩)
    have hz : ZP E u ow' O (declF g.j ((ps.take i).length + 1) S') ({ g with L := ps.take i ++ [(nd E.G m).S] } :: q) w' := hz
    rw [ht, show ps.take i ++ [(nd E.G m).S] = ps.take (i + 1) by rw [List.take_add_one, hp]; rfl] at hz
    have hl' : g.j < S'.length := by rw [h1]; exact hl
    refine ⟨declF g.j (i + 1) S', by unfold declF; rw [List.length_modify, h1], fun k hk => by unfold declF; rw [fsAt_mod hl', if_neg hk]; exact h2 k hk, ?_, ZP.tr x1 f1 hz⟩
    unfold declF
    rw [fsAt_mod hl', if_pos rfl, h3]
    simp only
    congr 1
    omega
/-- the state in which a function's body is met. -/
def fnS (n : Nat) (ps : List Str) (f : ZAct) (S : Fns) : Fns := S.set n ⟨ps.length, ps.length, [], [], [], (vis f.L).map (·.1) ++ (fsAt S f.j).outer, []⟩
theorem fnS_at {n : Nat} {ps : List Str} (hl : n < S.length) (k : Nat) : fsAt (fnS n ps f S) k = if k = n then ⟨ps.length, ps.length, [], [], [], (vis f.L).map (·.1) ++ (fsAt S f.j).outer, []⟩ else fsAt S k := fsAt_set hl
theorem FX.fn {n : Nat} {ps : List Str} {N M : List Nat} {B B' : Nat} (h : FX E S f q (n :: N) B) (hW : FnW n ps) (hpa : E.pa n = f.j) (hB : B' ≤ B) : FX E (fnS n ps f S) ⟨n, ps, [], []⟩ (f :: q) N B' := by
  have hn : n ∉ chF f.j (chn q) := fun q => (List.nodup_append.1 h.fit.nd).2.2 n q n List.mem_cons_self rfl
  have hl : n < S.length := h.fit.lt n (by simp)
  have hm := fnS_at (f := f) (ps := ps) hl
  have hps := hW.2.2
  obtain ⟨h1, h2⟩ := fnF_mid (ps := ps) (L := f.L) h.ch h.fit
  have ht1 : tot (fnS n ps f S) ≤ tot S := tot_set rfl S n
  have htt := h.tt
  have hlq := h.lq
  refine ⟨h1, h2, ⟨fun k => ?_, ⟨?_, h.bd.c.same fun k hk => ?_⟩, fun p hp => ?_, by show (fnS n ps f S).length ≤ 13; unfold fnS; rw [List.length_set]; exact h.bd.n⟩, by show ps.length ≤ 12; omega, ⟨hW.1, hpa, h.cp⟩, by show tot _ + 3 * 0 + B' ≤ _; omega, by show 3 * 0 + B' ≤ _; omega, (fun x hx => by cases hx), h.g0⟩
  · show FOK (fsAt (fnS n ps f S) k)
    rw [hm]
    by_cases hk : k = n
    · rw [if_pos hk]
      exact ⟨by show ps.length ≤ 12; omega, hps, Nat.le_refl _, (fun v hv => by cases hv), .nil, 0, by omega, .nil⟩
    · rw [if_neg hk]; exact h.bd.f k
  · show UOK (fsAt (fnS n ps f S) n).ups _
    rw [hm, if_pos rfl]; exact .nil
  · rw [hm, if_neg fun (q : k = n) => hn (q ▸ hk)]
  · rcases List.mem_cons.1 hp with rfl | hp
    · exact h.L
    · exact h.bd.l p hp
set_option maxHeartbeats 8000000 in
theorem body36 {b : Tr} (hb : XB b false) {n : Nat} (hR : CM E w ow O S (g :: q)) (hi : IsSL E.G n b) (hw : W b false g.L.length) (hpa : PaT E.pa b g.j) (hx : FX E S g q (numsT b) (100 * ndT b + 3)) (hl0 : g.lps = []) (hc0 : g.code = []) :
    Ret Tryz.prog 36 [fptr E g.j, i64c n] w (fun r w' => r = .tuple #[] ∧ ZP E w ow (O ++ numsT b) (cmp b g.L.length (chn (g :: q)) 0 0 S).2 ({ g with code := (cmp b g.L.length (chn (g :: q)) 0 0 S).1 0 ++ [(2, 0), (2, 0), (27, 0)] } :: q) w') := by
  have hF : Fram (tg ow cpT) w w := Fram.refl _ _
  have hX : Xt w ow ow := Xt.refl _ _
  have hbc := (bd_all E.G (szT b)).2.2.2 b n false hi (Nat.le_refl _) g.L.length g.j g.L (chn q) 0 0 S hx.ch hx.fit hx.bd hw hx.L (Nat.zero_le _) (by have := hx.tt; have := hx.L; omega) (by have := hx.tt; omega)
  have hco := (co_w E.G (szT b)).2 b n _ hi hw (Nat.le_refl _) g.L.length (chn (g :: q)) 0 0 S 65535 0
  have hmo := (mo_all b g.L.length g.j g.L (chn q) 0 0 S hx.ch hx.fit).ln 65535
  have hmo : ((cmp b g.L.length (chn (g :: q)) 0 0 S).1 65535).length = ln (cmp b g.L.length (chn (g :: q)) 0 0 S) := hmo
  have htl := hbc.tl
  have htl : tot (cmp b g.L.length (chn (g :: q)) 0 0 S).2 + 3 * ln (cmp b g.L.length (chn (g :: q)) 0 0 S) + 0 ≤ tot S + 100 * ndT b + 3 := htl
  have htt := hx.tt
  have hops := hbc.ops 0 (by decide)
  refine ret_of Tryz.func36 rfl Tryz.ntmps36 rfl ?_
  refine c_seq (fun K1 hK1 => ?_)
  refine c_reg ?_ -- region 0 fn.go:108
  refine wl (ro_move rfl) ?_
  refine wl (ro_move rfl) ?_
  refine wl_call rfl en_79 (hb E _ _ _ _ g q _ hR.dr hi hw hpa (fun h ↦ by cases h) hx) ?_
  rintro _ u1 ⟨rfl, ow1, x1, f1, r1⟩
  have hs1 := hF.size
  replace hF := cp_trans hX hF f1
  replace hX := hX.trans hs1 x1
  replace hR := r1
  rw [hl0, hc0] at hR
  have hR : CM E _ _ (O ++ numsT b) (cmp b g.L.length (chn (g :: q)) 0 0 S).2 ({ g with code := (cmp b g.L.length (chn (g :: q)) 0 0 S).1 65535, lps := [] } :: q) := hR
  obtain ⟨c1, hc1⟩ : ∃ c, c = (cmp b g.L.length (chn (g :: q)) 0 0 S).1 65535 := ⟨_, rfl⟩
  have hk1 : 3 * c1.length ≤ 31000 := by rw [hc1, hmo]; omega
  rw [← hc1] at hR
  refine wl_nil (x_then (hK1 _ _ ?_))
  clear hK1 K1
  refine c_reg ?_ -- region 1 fn.go:109
  refine wl (ro_move rfl) ?_
  refine wl (ro_build rfl bld_203_0) ?_
  refine wl (ro_build rfl bld_203_0) ?_
  refine wl (ro_build rfl bld_203_0) ?_
  refine wl_em (is := [(2, 0), (2, 0), (27, 0)]) (eo_bsI3 rfl rfl rfl se_196 zx_203) rfl hR rfl (by simp; omega) ?_
  intro u2 ow2 x2 f2 r2
  have hs2 := hF.size
  replace hF := cp_trans' hX hF f2
  replace hX := hX.trans hs2 x2
  replace hR := r2
  refine wl_nil ?_
  refine bp_end Tryz.results36 rfl ?_
  refine ⟨rfl, _, hX, hF, ?_⟩
  rw [← hco, ← hc1]
  have e9 : g = { g with lps := [] } := by rw [← hl0]
  rw [hl0]
  exact hR
end
end Go.Proofs.Qxb6500568aGreatDoor
