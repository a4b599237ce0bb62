import Derived.Test.Qxb6500568aGreatDoorZs
/- The compiler: tables (written by tools/mk_zx.py). -/
namespace Go.Proofs.Qxb6500568aGreatDoor
open Ieee
set_option linter.unusedVariables false
set_option linter.unusedSimpArgs false
set_option linter.unusedSectionVars false

theorem lenE_nd {G : Arena} : ∀ (k : Nat) {zs : Tr} {n : Nat}, szT zs ≤ k → IsEL G n zs → lenE zs ≤ ndT zs
  | 0, zs, n, hk, h => by have := szT_pos zs; omega
  | k + 1, zs, n, hk, h => by
    rcases h.inv with rfl | ⟨e, l, rfl⟩
    · exact Nat.zero_le _
    · obtain ⟨hn0, he, hl⟩ := IsEL_cons.1 h
      have hk : 1 + szT e + szT l ≤ k + 1 := hk
      have h1 := lenE_nd k (by omega) hl
      have h2 := nd_pos he
      show lenE l + 1 ≤ 0 + ndT e + ndT l
      omega
section
variable {E : ZEnv} {w : World} {ow : Nat → Nat} {O : List Nat} {S : Fns} {f : ZAct} {q : List ZAct}
def cpB (ow : Nat → Nat) (b7 : Nat) : Nat → Prop := fun b => cpT (ow b) ∨ b = b7
set_option maxHeartbeats 16000000 in
theorem item232 {el : Tr} (he : XE el) {m i b7 b2 : Nat} (hR : CM E w ow O S (f :: q)) (h7 : Blk w.heap b7 [u16c i] 201) (kh7 : ow b7 = 66) (h2 : Blk w.heap b2 [fptr E f.j] 128) (kh2 : ow b2 = 66) (hie : IsE E.G m el) (hw : W el false f.L.length) (hpa : PaT E.pa el f.j) (hx : FX E S f q (numsT el) (100 * ndT el)) (hi : i ≤ 60000) :
    Ret Tryz.prog 232 [i64c m, ptr b7, ptr b2] w (fun r w' => ∃ ow', Xt w ow ow' ∧ Fram (cpB ow b7) w w' ∧ CM E w' ow' (O ++ numsT el) (cmp el 0 (chn (f :: q)) 0 f.code.length S).2 ({ f with code := f.code ++ ((cmp el 0 (chn (f :: q)) 0 f.code.length S).1 65535 ++ [(13, i + 1)]) } :: q) ∧ Blk w'.heap b7 [u16c (i + 1)] 201 ∧ ow' b7 = 66 ∧ Blk w'.heap b2 [fptr E f.j] 128 ∧ ow' b2 = 66) := by
  have hX : Xt w ow ow := Xt.refl _ _
  have h72 : b7 ≠ b2 := fun e => by subst e; exact absurd (Blk.uniq h7 h2).2 (by decide)
  have hx0 : FX E S f q (numsT el ++ []) (100 * ndT el + 0) := hx.of0
  refine ret_of Tryz.func232 rfl Tryz.ntmps232 rfl ?_
  refine c_seq (fun K1 hK1 => ?_)
  refine c_reg ?_ -- region 0 expr.go:36
  refine wl (ro_loadB rfl sc_201 (h7) rfl) ?_
  refine wl (ro_arith rfl rfl rfl (Go.IntWalk.u16_in _ (by omega))) ?_
  refine wl_put rfl rfl rfl sz_201 h7 (by simp) (rfl) (fun w1 h7 F1 => ?_)
  replace h2 := F1.blkO h2 (by first | omega | exact ow_ne (by assumption) (by assumption) (by omega))
  replace hR := hR.hbput ((Fram.refl (one b7) _).thenDrew.thenO F1 (.inl rfl))
  have hFa := F1
  have e1 : ((i : Int) + 1) = ((i + 1 : Nat) : Int) := by omega
  rw [e1] at h7
  have hF : Fram (tg ow cpT) w1 w1 := Fram.refl _ _
  replace hX : Xt w1 ow ow := Xt.refl _ _
  refine wl_nil (x_then (hK1 _ _ ?_))
  clear hK1 K1
  refine forget [(0, _), (1, _), (2, _)] ⟨rfl, rfl, rfl, trivial⟩ (fun e => ?_)
  refine c_seq (fun K2 hK2 => ?_)
  refine c_reg ?_ -- region 1 expr.go:37
  refine wl (ro_loadB rfl sc_128 (h2) rfl) ?_
  refine wl (ro_move rfl) ?_
  refine wl_call rfl en_186 (he E _ _ _ _ f q _ hR.dr hie hw hpa (hx0.left.le (by omega))) ?_
  rintro _ u2 ⟨rfl, ow2, x2, f2, r2⟩
  obtain ⟨h7, kh7⟩ := cp_loc x2 f2 h7 kh7
  obtain ⟨h2, kh2⟩ := cp_loc x2 f2 h2 kh2
  have hs2 := hF.size
  replace hF := cp_trans hX hF f2
  replace hX := hX.trans hs2 x2
  replace hR := r2
  have hx1 := hx0.eE hie hw
  obtain ⟨S1, hS1⟩ : ∃ z9, z9 = (cmp el 0 (chn (f :: q)) 0 f.code.length S).2 := ⟨_, rfl⟩
  obtain ⟨c1, hc1⟩ : ∃ z9, z9 = f.code ++ (cmp el 0 (chn (f :: q)) 0 f.code.length S).1 65535 := ⟨_, rfl⟩
  have hl1 : c1.length = f.code.length + ln (cmp el 0 (chn (f :: q)) 0 f.code.length S) := by rw [hc1, List.length_append]; congr 1; exact hx0.ln
  replace hx1 : FX E (cmp el 0 (chn (f :: q)) 0 f.code.length S).2 { f with code := f.code ++ (cmp el 0 (chn (f :: q)) 0 f.code.length S).1 65535 } q _ _ := hx1
  have hR : CM E _ _ _ (cmp el 0 (chn (f :: q)) 0 f.code.length S).2 ({ f with code := f.code ++ (cmp el 0 (chn (f :: q)) 0 f.code.length S).1 65535 } :: q) := hR
  rw [← hS1, ← hc1] at hR hx1
  have hk1 : 3 * c1.length ≤ 31000 := hx1.clen
  refine wl_nil (x_then (hK2 _ _ ?_))
  clear hK2 K2
  refine c_reg ?_ -- region 2 expr.go:38
  refine wl (ro_loadB rfl sc_128 (h2) rfl) ?_
  refine wl (ro_loadB rfl sc_201 (h7) rfl) ?_
  refine wl (ro_build rfl bld_203_0_1) ?_
  refine wl_em (is := [(13, i + 1)]) (eo_bsI1 rfl se_196 zx_203) rfl hR rfl (by simp; omega) ?_
  intro u3 ow3 x3 f3 r3
  obtain ⟨h7, kh7⟩ := cp_loc' x3 f3 h7 kh7
  obtain ⟨h2, kh2⟩ := cp_loc' x3 f3 h2 kh2
  have hs3 := hF.size
  replace hF := cp_trans' hX hF f3
  replace hX := hX.trans hs3 x3
  replace hR := r3
  refine wl_nil ?_
  refine bp_end Tryz.results232 rfl ?_
  refine ⟨_, Xt.trans (w1 := _) (Xt.refl _ _) hFa.size hX, (hFa.mono (fun b _ y ↦ .inr y)).trans' hF (fun b _ y ↦ .inl y), ?_, h7, kh7, h2, kh2⟩
  rw [← hS1, ← List.append_assoc, ← hc1]
  exact hR
structure ZTI (E : ZEnv) (f : ZAct) (q : List ZAct) (k : Nat) (ns : List Nat) (w : World) (ow : Nat → Nat) (Cf : Cod) (Sf : Fns) (Of : List Nat) (b7 b2 : Nat) (i : Nat) (u : World) : Prop where
  ex : ∃ zs' n' c' S' O' ow', NxL E.G n' (ns.drop i) ∧ IsEL E.G n' zs' ∧ szT zs' ≤ k ∧ W zs' false f.L.length ∧ PaT E.pa zs' f.j ∧ FX E S' { f with code := c' } q (numsT zs') (100 * ndT zs') ∧ c' ++ (cmp zs' (i + 1) (chn (f :: q)) 0 c'.length S').1 65535 = Cf ∧ (cmp zs' (i + 1) (chn (f :: q)) 0 c'.length S').2 = Sf ∧ O' ++ numsT zs' = Of ∧ Xt w ow ow' ∧ Fram (cpB ow b7) w u ∧ CM E u ow' O' S' ({ f with code := c' } :: q) ∧ Blk u.heap b7 [u16c i] 201 ∧ ow' b7 = 66 ∧ Blk u.heap b2 [fptr E f.j] 128 ∧ ow' b2 = 66
theorem items138 {k : Nat} (hk : ∀ t, szT t ≤ k → XE t) {zs : Tr} {n b7 b2 : Nat} (hR : CM E w ow O S (f :: q)) (h7 : Blk w.heap b7 [u16c 0] 201) (kh7 : ow b7 = 66) (h2 : Blk w.heap b2 [fptr E f.j] 128) (kh2 : ow b2 = 66) (hi : IsEL E.G n zs) (hz : szT zs ≤ k) (hw : W zs false f.L.length) (hpa : PaT E.pa zs f.j) (hx : FX E S f q (numsT zs) (100 * ndT zs)) (hG0 : 0 < E.G.length) :
    Ret Tryz.prog 138 [fptr E f.j, i64c n, .func (.func 232) #[] #[ptr b7, ptr b2]] w (fun r w' => ∃ ow', Xt w ow ow' ∧ Fram (cpB ow b7) w w' ∧ CM E w' ow' (O ++ numsT zs) (cmp zs 1 (chn (f :: q)) 0 f.code.length S).2 ({ f with code := f.code ++ (cmp zs 1 (chn (f :: q)) 0 f.code.length S).1 65535 } :: q)) := by
  obtain ⟨ns, hns, hnl⟩ := isEL_nx k hz hi
  have hlen := lenE_nd k hz hi
  have htt := hx.tt
  have h := each138 (E := E) (j := f.j) (v := .func (.func 232) #[] #[ptr b7, ptr b2]) (w := w) (ZTI E f q k ns w ow (f.code ++ (cmp zs 1 (chn (f :: q)) 0 f.code.length S).1 65535) (cmp zs 1 (chn (f :: q)) 0 f.code.length S).2 (O ++ numsT zs) b7 b2) hns ⟨zs, n, f.code, S, O, ow, hns, hi, hz, hw, hpa, hx, rfl, rfl, rfl, Xt.refl _ _, Fram.refl _ _, hR, h7, kh7, h2, kh2⟩ (fun i u hI => ?_) (fun i m u hm hI => ?_) (by omega)
  · refine Calls.mono h (fun en w' ⟨v, e, hv, hI⟩ => ⟨v, e, ?_⟩)
    obtain ⟨zs', n', c', S', O', ow', h1, h2, h3, h4, h5, h6, h7, h8, h9, h10, h11, h12, -⟩ := hI.ex
    rw [List.drop_length] at h1
    have h1 : n' = 0 := h1
    rcases h2.inv with rfl | ⟨e, l, rfl⟩
    · have h7 : c' ++ [] = _ := h7
      have h8 : S' = _ := h8
      have h9 : O' ++ [] = _ := h9
      rw [List.append_nil] at h7 h9
      subst h7 h8 h9
      exact ⟨ow', h10, h11, h12⟩
    · exact ((IsEL_cons.1 h2).1 h1).elim
  · obtain ⟨zs', n', c', S', O', ow', h1, h2, h3, h4, h5, h6, h7, h8, h9, h10, h11, h12, -⟩ := hI.ex
    exact h12.rdn hG0
  · obtain ⟨zs', n', c', S', O', ow', h1, h2, h3, h4, h5, h6, h7, h8, h9, h10, h11, h12, g1, g2, g3, g4⟩ := hI.ex
    have hil := (List.getElem?_eq_some_iff.1 hm).1
    have hd : ns.drop i = m :: ns.drop (i + 1) := by
      rw [List.drop_eq_getElem_cons hil]
      congr 1
      rw [List.getElem?_eq_getElem hil] at hm
      injection hm
    rw [hd] at h1
    obtain ⟨rfl, hm0, hmG, hmx⟩ := h1
    rcases h2.inv with rfl | ⟨e, l, rfl⟩
    · exact (hm0 (IsEL_nil.1 h2)).elim
    · obtain ⟨-, he, hl⟩ := IsEL_cons.1 h2
      have h3 : 1 + szT e + szT l ≤ k := h3
      obtain ⟨w1, w2⟩ : W e false f.L.length ∧ W l false f.L.length := h4
      obtain ⟨p1, p2⟩ : PaT E.pa e f.j ∧ PaT E.pa l f.j := h5
      have h6 : FX E S' { f with code := c' } q (numsT e ++ numsT l) (100 * (0 + ndT e + ndT l)) := h6
      have hnp := nd_pos he
      have hsl := (bd_all E.G (szT e)).1 e n' false he (Nat.le_refl _)
      have htt6 := h6.tt
      have h6' : FX E S' { f with code := c' } q (numsT e ++ numsT l) (100 * ndT e + 100 * ndT l) := h6.le (by omega)
      have hx1 : FX E (cmp e 0 (chn (f :: q)) 0 c'.length S').2 { f with code := c' ++ (cmp e 0 (chn (f :: q)) 0 c'.length S').1 65535 } q (numsT l) (100 * ndT l + 3) := by
        have hx9 := FX.step (base := 0) (md := 0) (B' := 100 * ndT l + 3) (lps' := f.lps) (L' := f.L) h6' hsl w1 (Nat.zero_le _) (by have := h6'.tt; omega) (Nat.zero_le _) (by omega) h6'.L (by have := h6'.lq; have := h6'.tt; simp only at *; omega) (fun x hx => by
          obtain ⟨a1, a2, a3⟩ := h6'.lb x hx
          exact ⟨a1, by simp only at *; omega, fun p hp => by have := a3 p hp; simp only at *; omega⟩)
        exact hx9
      have hln : ((cmp e 0 (chn (f :: q)) 0 c'.length S').1 65535).length = ln (cmp e 0 (chn (f :: q)) 0 c'.length S') := FX.ln (t := e) (md := 0) (base := 0) h6'
      refine ⟨232, [], [ptr b7, ptr b2], rfl, en_232, ?_⟩
      refine Calls.mono (item232 (f := { f with code := c' }) (hk e (by omega)) h12 g1 g2 g3 g4 he w1 p1 (h6'.left.le (by omega)) (by omega)) (fun en w' ⟨v, ev, ow1, x1, f1, r1, r2, r3, r4, r5⟩ => ⟨v, ev, ?_⟩)
      have hx2 := FX.emit (B' := 100 * ndT l) (is := [(13, i + 1)]) hx1 (by simp; omega)
      have hl2 : (c' ++ (cmp e 0 (chn (f :: q)) 0 c'.length S').1 65535 ++ [(13, i + 1)]).length = c'.length + ln (cmp e 0 (chn (f :: q)) 0 c'.length S') + 1 := by rw [List.length_append, List.length_append, hln]; rfl
      have r1 : CM E w' ow1 (O' ++ numsT e) (cmp e 0 (chn (f :: q)) 0 c'.length S').2 ({ f with code := c' ++ ((cmp e 0 (chn (f :: q)) 0 c'.length S').1 65535 ++ [(13, i + 1)]) } :: q) := r1
      rw [← List.append_assoc] at r1
      refine ⟨l, _, _, (cmp e 0 (chn (f :: q)) 0 c'.length S').2, O' ++ numsT e, ow1, hmx, hl, by omega, w2, p2, hx2, ?_, ?_, ?_, h10.trans h11.size x1, h11.transG f1 (fun b hb y => by
        rcases y with y | y
        · rw [h10 b hb] at y; exact .inl y
        · exact .inr y), r1, r2, r3, r4, r5⟩
      · have h7 : c' ++ ((cmp e 0 (chn (f :: q)) 0 c'.length S').1 65535 ++ [(13, i + 1)] ++ (cmp l (i + 1 + 1) (chn (f :: q)) 0 (c'.length + ln (cmp e 0 (chn (f :: q)) 0 c'.length S') + 1) (cmp e 0 (chn (f :: q)) 0 c'.length S').2).1 65535) = _ := h7
        rw [← h7, hl2]; simp only [List.append_assoc]
      · have h8 : (cmp l (i + 1 + 1) (chn (f :: q)) 0 (c'.length + ln (cmp e 0 (chn (f :: q)) 0 c'.length S') + 1) (cmp e 0 (chn (f :: q)) 0 c'.length S').2).2 = _ := h8
        rw [← h8, hl2]
      · have h9 : O' ++ (numsT e ++ numsT l) = _ := h9
        rw [← h9, List.append_assoc]
end
set_option maxHeartbeats 16000000 in
theorem xe_table {k : Nat} (hk : ∀ t, szT t ≤ k → XE t) {zs : Tr} (hzz : szT zs ≤ k) : XE (Ex.table zs) := by
  intro E w ow O S f q n hR hi hw hpa hx
  obtain ⟨hn0, hK, hi1⟩ := IsE_table.1 hi
  have hn : n < E.G.length := nd_lt (by rw [hK]; decide)
  have hw1 : W zs false f.L.length := hw
  have hp1 : PaT E.pa zs f.j := hpa
  have hx0 : FX E S f q (numsT zs) (100 * ndT zs + 100) := by
    have hx : FX E S f q (numsT zs) (100 * (1 + ndT zs)) := hx
    exact hx.le (by omega)
  have hF : Fram (tg ow cpT) w w := Fram.refl _ _
  have hX : Xt w ow ow := Xt.refl _ _
  obtain ⟨gn, capn, ln_, env, hN, khN, hcapn, hrow⟩ := hR.nodes (by omega)
  obtain ⟨pn, hpn⟩ := hrow n hn
  have hcl : 3 * f.code.length ≤ 31000 := hx.clen
  refine ret_of Tryz.func186 rfl Tryz.ntmps186 rfl ?_
  refine c_seq (fun K1 hK1 => ?_)
  refine c_reg ?_ -- region 0 expr.go:6
  refine wl_box rfl rfl (fun b2 w1 hbb2 h2 F1 => ?_)
  have hbsb2 := Nat.le_trans hF.size hbb2
  have hnegnb2 : gn < b2 := Nat.lt_of_lt_of_le hN.lt hbb2
  have kh2 := hR.df b2 hbb2
  replace hF := hF.thenDrew.thenN F1
  replace hR := hR.thruN ((Fram.refl none' _).thenDrew.thenN F1)
  replace hN := F1.blkN hN
  refine wl_nil (x_then (hK1 _ _ ?_))
  clear hK1 K1
  refine forget [(1, _), (2, _)] ⟨rfl, rfl, trivial⟩ (fun e => ?_)
  refine c_seq (fun K2 hK2 => ?_)
  obtain ⟨R_, z_, op⟩ := hR.open (f := f) (by simp)
  have hG := op.B
  have hC := hR.cb
  have khG := hR.ta
  have khC := hR.tc
  rw [env] at hC
  refine c_reg ?_ -- region 1 expr.go:7
  refine wl (ro_loadB rfl sc_128 (by assumption) rfl) ?_
  refine wl (ro_nilCheck rfl) ?_
  refine wl (ro_fieldAddr (k := 0) rfl fo_199_0) ?_
  refine wl (ro_loadB rfl sc_22 hG (op.row 0 (by decide))) ?_
  refine wl (ro_nilCheck rfl) ?_
  refine wl (ro_fieldAddr (k := 2) rfl fo_94_2) ?_
  refine wl (ro_loadB rfl sc_77 (hC) rfl) ?_
  refine wl (ro_move rfl) ?_
  refine wl (ro_indexAddr (et := 148) (k := 8) rfl rfl se_77 (rfl) (hn)) ?_
  refine wl (ro_loadAggB rfl ag_148 (hN) (rfl) (hpn)) ?_
  refine wl_new (ze_148) (fun b4 w2 hbb4 h4 F2 => ?_)
  have hbsb4 := Nat.le_trans hF.size hbb4
  have hnegnb4 : gn < b4 := Nat.lt_of_lt_of_le hN.lt hbb4
  have hneb2b4 : b2 < b4 := Nat.lt_of_lt_of_le h2.lt hbb4
  have hneE.gbb4 : E.gb < b4 := Nat.lt_of_lt_of_le hG.lt hbb4
  have hneE.cbb4 : E.cb < b4 := Nat.lt_of_lt_of_le hC.lt hbb4
  have kh4 := hR.df b4 hbb4
  replace hF := hF.thenDrew.thenN F2
  replace hR := hR.thruN ((Fram.refl none' _).thenDrew.thenN F2)
  replace hN := F2.blkN hN
  replace h2 := F2.blkN h2
  replace hG := F2.blkN hG
  replace hC := F2.blkN hC
  refine wl_puta rfl rfl ((ndc_one _)) sz_148 (rfl) h4 ((by simp)) (rfl) (fun w3 h4 F3 => ?_)
  replace hF := hF.thenDrew.thenO F3 (by first | exact .inr (by omega) | exact .inl rfl | exact .inl (by assumption) | assumption)
  replace hR := hR.hbput ((Fram.refl (one b4) _).thenDrew.thenO F3 (.inl rfl))
  replace hN := F3.blkO hN (by first | omega | exact ow_ne (by assumption) (by assumption) (by omega))
  replace h2 := F3.blkO h2 (by first | omega | exact ow_ne (by assumption) (by assumption) (by omega))
  replace hG := F3.blkO hG (by first | omega | exact ow_ne (by assumption) (by assumption) (by omega))
  replace hC := F3.blkO hC (by first | omega | exact ow_ne (by assumption) (by assumption) (by omega))
  have h4 : Blk (w3).heap b4 [i64c 21, i64c (nd E.G n).A, i64c (nd E.G n).B, i64c (nd E.G n).C, i64c (nd E.G n).Nx, u64c (nd E.G n).N, Go.Proofs.Qxb6500568aGreatDoor.S (nd E.G n).S, i64c pn] 148 := by rw [← hK]; exact h4
  refine wl_nil (x_then (hK2 _ _ ?_))
  clear hK2 K2
  refine forget [(1, _), (2, _), (4, _)] ⟨rfl, rfl, rfl, trivial⟩ (fun e => ?_)
  refine c_seq (fun K3 hK3 => ?_)
  refine c_reg ?_ -- region 2 expr.go:8
  refine wl (ro_fieldAddr (k := 0) rfl fo_148_0) ?_
  refine wl (ro_loadB rfl sc_3 (by assumption) rfl) ?_
  refine wl_nil (x_then (hK3 _ _ ?_))
  clear hK3 K3
  refine c_block ?_
  refine c_seq (fun K4 hK4 => ?_)
  refine c_seq (fun K5 hK5 => ?_)
  refine c_reg ?_ -- region 3 expr.go:9
  refine wl (ro_cmp rfl rfl rfl) ?_
  refine wl (ro_assign rfl) ?_
  refine wl_nil (x_then (hK5 _ _ ?_))
  clear hK5 K5
  refine wc_condF rfl ?_
  refine c_reg ?_ -- region 4 expr.go:9
  refine wl (ro_cmp rfl rfl rfl) ?_
  refine wl (ro_assign rfl) ?_
  refine wl_nil (x_then (hK4 _ _ ?_))
  clear hK4 K4
  refine wc_condF rfl ?_
  refine c_seq (fun K6 hK6 => ?_)
  refine c_reg ?_ -- region 6 expr.go:11
  refine wl (ro_cmp rfl rfl rfl) ?_
  refine wl (ro_assign rfl) ?_
  refine wl_nil (x_then (hK6 _ _ ?_))
  clear hK6 K6
  refine wc_condF rfl ?_
  refine c_seq (fun K7 hK7 => ?_)
  refine c_reg ?_ -- region 8 expr.go:13
  refine wl (ro_cmp rfl rfl rfl) ?_
  refine wl (ro_assign rfl) ?_
  refine wl_nil (x_then (hK7 _ _ ?_))
  clear hK7 K7
  refine wc_condF rfl ?_
  refine c_seq (fun K8 hK8 => ?_)
  refine c_reg ?_ -- region 10 expr.go:15
  refine wl (ro_cmp rfl rfl rfl) ?_
  refine wl (ro_assign rfl) ?_
  refine wl_nil (x_then (hK8 _ _ ?_))
  clear hK8 K8
  refine wc_condF rfl ?_
  refine c_seq (fun K9 hK9 => ?_)
  refine c_reg ?_ -- region 13 expr.go:18
  refine wl (ro_cmp rfl rfl rfl) ?_
  refine wl (ro_assign rfl) ?_
  refine wl_nil (x_then (hK9 _ _ ?_))
  clear hK9 K9
  refine wc_condF rfl ?_
  refine c_seq (fun K10 hK10 => ?_)
  refine c_reg ?_ -- region 16 expr.go:21
  refine wl (ro_cmp rfl rfl rfl) ?_
  refine wl (ro_assign rfl) ?_
  refine wl_nil (x_then (hK10 _ _ ?_))
  clear hK10 K10
  refine wc_condF rfl ?_
  refine c_seq (fun K11 hK11 => ?_)
  refine c_reg ?_ -- region 18 expr.go:23
  refine wl (ro_cmp rfl rfl rfl) ?_
  refine wl (ro_assign rfl) ?_
  refine wl_nil (x_then (hK11 _ _ ?_))
  clear hK11 K11
  refine wc_condF rfl ?_
  refine c_seq (fun K12 hK12 => ?_)
  refine c_reg ?_ -- region 22 expr.go:27
  refine wl (ro_cmp rfl rfl rfl) ?_
  refine wl (ro_assign rfl) ?_
  refine wl_nil (x_then (hK12 _ _ ?_))
  clear hK12 K12
  refine wc_condF rfl ?_
  refine c_seq (fun K13 hK13 => ?_)
  refine c_reg ?_ -- region 25 expr.go:30
  refine wl (ro_cmp rfl rfl rfl) ?_
  refine wl (ro_assign rfl) ?_
  refine wl_nil (x_then (hK13 _ _ ?_))
  clear hK13 K13
  refine wc_condF rfl ?_
  refine c_seq (fun K14 hK14 => ?_)
  refine c_reg ?_ -- region 27 expr.go:32
  refine wl (ro_cmp rfl rfl rfl) ?_
  refine wl (ro_assign rfl) ?_
  refine wl_nil (x_then (hK14 _ _ ?_))
  clear hK14 K14
  refine wc_condT rfl ?_
  refine c_seq (fun K15 hK15 => ?_)
  refine c_reg ?_ -- region 28 expr.go:33
  refine wl (ro_loadB rfl sc_128 (by assumption) rfl) ?_
  refine wl (ro_build rfl bld_203_0) ?_
  refine wl_em (is := [(14, 0)]) (eo_bsI1 rfl se_196 zx_203) rfl hR rfl (by simp; omega) ?_
  intro u4 ow4 x4 f4 r4
  obtain ⟨hN, khN⟩ := cp_loc' x4 f4 hN khN
  obtain ⟨h2, kh2⟩ := cp_loc' x4 f4 h2 kh2
  obtain ⟨h4, kh4⟩ := cp_loc' x4 f4 h4 kh4
  have hs4 := hF.size
  replace hF := cp_trans' hX hF f4
  replace hX := hX.trans hs4 x4
  replace hR := r4
  obtain ⟨c1, hc1⟩ : ∃ z9, z9 = f.code ++ [(14, 0)] := ⟨_, rfl⟩
  have hlc1 : c1.length = f.code.length + 1 := by rw [hc1, List.length_append]; rfl
  have hx1 : FX E _ { f with code := f.code ++ [(14, 0)] } q _ (100 * ndT zs + 90) := FX.emit (B' := 100 * ndT zs + 90) hx0 (by simp; omega)
  have hR : CM E _ _ _ _ ({ f with code := f.code ++ [(14, 0)] } :: q) := hR
  rw [← hc1] at hR hx1
  have hkc1 : 3 * c1.length ≤ 31000 := hx1.clen
  refine wl_nil (x_then (hK15 _ _ ?_))
  clear hK15 K15
  refine forget [(2, _), (4, _)] ⟨rfl, rfl, trivial⟩ (fun e => ?_)
  refine c_seq (fun K16 hK16 => ?_)
  refine c_reg ?_ -- region 29 expr.go:34
  refine wl_new (ze_201) (fun b7 w5 hbb7 h7 F5 => ?_)
  have hbsb7 := Nat.le_trans hF.size hbb7
  have hnegnb7 : gn < b7 := Nat.lt_of_lt_of_le hN.lt hbb7
  have hneb2b7 : b2 < b7 := Nat.lt_of_lt_of_le h2.lt hbb7
  have hneb4b7 : b4 < b7 := Nat.lt_of_lt_of_le h4.lt hbb7
  have kh7 := hR.df b7 hbb7
  replace hF := hF.thenDrew.thenN F5
  replace hR := hR.thruN ((Fram.refl none' _).thenDrew.thenN F5)
  replace hN := F5.blkN hN
  replace h2 := F5.blkN h2
  replace h4 := F5.blkN h4
  refine wl_put rfl rfl rfl sz_201 h7 (by simp) (rfl) (fun w6 h7 F6 => ?_)
  replace hF := hF.thenDrew.thenO F6 (by first | exact .inr (by omega) | exact .inl rfl | exact .inl (by assumption) | assumption)
  replace hR := hR.hbput ((Fram.refl (one b7) _).thenDrew.thenO F6 (.inl rfl))
  replace hN := F6.blkO hN (by first | omega | exact ow_ne (by assumption) (by assumption) (by omega))
  replace h2 := F6.blkO h2 (by first | omega | exact ow_ne (by assumption) (by assumption) (by omega))
  replace h4 := F6.blkO h4 (by first | omega | exact ow_ne (by assumption) (by assumption) (by omega))
  refine wl_nil (x_then (hK16 _ _ ?_))
  clear hK16 K16
  refine c_reg ?_ -- region 30 expr.go:35
  refine wl (ro_loadB rfl sc_128 (by assumption) rfl) ?_
  refine wl (ro_fieldAddr (k := 1) rfl fo_148_1) ?_
  refine wl (ro_loadB rfl sc_3 (by assumption) rfl) ?_
  refine wl (ro_makeFunc (caps := [.tmp 7, .tmp 2]) rfl) ?_
  refine wl_call rfl en_138 (items138 (f := { f with code := c1 }) hk hR h7 kh7 h2 kh2 hi1 hzz hw1 hp1 (hx1.le (by omega)) (by omega)) ?_
  rintro v9 u9 ⟨ow9, x9, f9, r9⟩
  have hsz := hF.size
  have hb7n : w.heap.size ≤ b7 := hbsb7
  refine wl_nil (x_blk ?_)
  refine bp_end Tryz.results186 rfl ?_
  refine ⟨rfl, ow9, hX.trans hsz x9, hF.transG f9 (fun b hb y ↦ ?_), ?_⟩
  · rcases y with y | y
    · rw [hX b hb] at y; exact y
    · omega
  · show CM E _ _ (O ++ numsT zs) (cmp zs 1 (chn (f :: q)) 0 (f.code.length + 1) S).2 ({ f with code := f.code ++ ((14, 0) :: (cmp zs 1 (chn (f :: q)) 0 (f.code.length + 1) S).1 65535) } :: q)
    rw [← hlc1, show f.code ++ ((14, 0) :: (cmp zs 1 (chn (f :: q)) 0 c1.length S).1 65535) = c1 ++ (cmp zs 1 (chn (f :: q)) 0 c1.length S).1 65535 by rw [hc1]; simp only [List.append_assoc, List.cons_append, List.nil_append]]
    exact r9
end Go.Proofs.Qxb6500568aGreatDoor
