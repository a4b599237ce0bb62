import Derived.Test.Qxb6500570aGreatDl
import Derived.Test.Qxb6500570aGreatPs
/- The model: what a tree is worth. -/
namespace Go.Proofs.Qxb6500570aGreat
set_option linter.unusedVariables false
set_option linter.unusedSimpArgs false

theorem bit_and (m c : Nat) : (((m &&& 2 ^ c : Nat) : Int) != 0) = m.testBit c := by
  have h : (m &&& 2 ^ c) = if m.testBit c = true then 2 ^ c else 0 := by
    apply Nat.eq_of_testBit_eq
    intro j
    rw [Nat.testBit_and, Nat.testBit_two_pow]
    by_cases e : c = j
    · subst e
      cases hb : m.testBit c
      · simp
      · simp [Nat.testBit_two_pow]
    · split
      · simp [e, Nat.testBit_two_pow]
      · simp [e]
  rw [h]
  have hp : 0 < 2 ^ c := Nat.two_pow_pos c
  cases hb : m.testBit c
  · rfl
  · simp only [if_true]
    have : ((2 ^ c : Nat) : Int) ≠ 0 := by omega
    simpa using this
/-- What stands before both. -/
structure WoP (w : World) (nb vb : Nat) (n : List Nd) (EL : List Vl) : Prop where
  hN : Blk w.heap nb (rws ndc n) 143
  hV : Blk w.heap vb (rws vlc EL) 104
  el : EL.length = 24
  lw : ∀ c, c < 24 → Lw (envF EL c)
  l24 : n.length ≤ 24
theorem WoP.far {w w' : World} {nb vb : Nat} {n : List Nd} {EL : List Vl} (h : WoP w nb vb n EL) (F : Fram none' w w') : WoP w' nb vb n EL := ⟨F.blkN h.hN, F.blkN h.hV, h.el, h.lw, h.l24⟩
def WoC (f : Nat) : Prop := ∀ {w : World} {nb vb : Nat} {n : List Nd} {EL : List Vl} {lo i : Nat} {arg : Bool} {i' : Int}, i' = (i : Int) → WoP w nb vb n EL → SgF n f false 0 lo i arg → isRng n i = false →
  Ret Tryz.prog 191 [sl nb n.length, icv i', sl vb 24] w (fun v w' => v = vlA (evF n (envF EL) f 0 (i : Nat)).1 ∧ Fram none' w w')
def FoC (f : Nat) : Prop := ∀ {w : World} {nb vb : Nat} {n : List Nd} {EL : List Vl} {k lo i fn : Nat} {rg : Bool} {i' f' : Int}, i' = (i : Int) → f' = (fn : Int) → WoP w nb vb n EL → SgF n f true k lo i rg → tallF fn = true → 1 ≤ fn →
  Ret Tryz.prog 216 [sl nb n.length, icv i', icv f', sl vb 24] w (fun v w' => (∃ s, v = fdA s ∧ FdOK (24 * (i + 1 - lo)) s ∧ FdR fn s (evF n (envF EL) f fn (i : Nat)).2) ∧ Fram none' w w')

theorem fold_z {w : World} {nb vb len fn : Nat} {f' i' : Int} (hi : i' < 0) : Ret Tryz.prog 216 [sl nb len, icv i', icv f', sl vb 24] w (fun v w' => v = fdA fdZ ∧ Fram none' w w') := by
  have hF : Fram none' w w := Fram.refl _ _
  refine ret_of Tryz.func216 rfl Tryz.ntmps216 rfl ?_
  refine c_seq (fun K1 hK1 => ?_)
  refine c_reg ?_ -- region 0 eval.go:316
  refine wl_new (ze_232) (fun b8 w1 hbb8 h8 F1 => ?_)
  have hbsb8 := Nat.le_trans hF.size hbb8
  replace hF := hF.thenDrew.thenN F1
  refine wl_nil (x_then (hK1 _ _ ?_))
  clear hK1 K1
  refine c_seq (fun K2 hK2 => ?_)
  refine c_seq (fun K3 hK3 => ?_)
  refine c_reg ?_ -- region 1 eval.go:317
  refine wl (ro_move rfl) ?_
  refine wl (ro_cmp (r := true) rfl rfl (congrArg some (decide_eq_true hi))) ?_
  refine wl_nil (x_then (hK3 _ _ ?_))
  clear hK3 K3
  refine wc_condT rfl ?_
  refine c_seq (fun K4 hK4 => ?_)
  refine c_reg ?_ -- region 2 eval.go:318
  refine wl (ro_build rfl bld_232_5) ?_
  refine wl_puta rfl rfl ((fdc_cells fdZ)) sz_232 (rfl) h8 ((by simp)) ((show _ = fdc fdZ from rfl)) (fun w2 h8 F2 => ?_)
  replace hF := hF.thenDrew.thenO F2 (by first | exact .inr (by omega) | exact .inl rfl | exact .inl (by assumption))
  refine wl_nil (x_then (hK4 _ _ ?_))
  clear hK4 K4
  refine c_ret (x_thenR ?_)
  refine bq_ret (res1 Tryz.results216 (rv_c rfl ag_232 (h8) rfl)) ?_
  exact ⟨rfl, hF⟩

set_option maxHeartbeats 8000000 in
theorem fo_step {f : Nat} (ih : ∀ m, m < f → WoC m ∧ FoC m) : FoC f := by
  intro w nb vb n EL k lo i fn rg i' f' hi' hf' hP hS ht hf1
  subst hi'
  subst hf'
  have hle := SgF.le _ _ _ _ _ _ hS
  cases f with
  | zero => exact hS.elim
  | succ f =>
  obtain ⟨x, hx, h1, h2, h3, m, h4, h5, h6⟩ := hS
  have hF : Fram none' w w := Fram.refl _ _
  have hxi := ndA_get hx
  have htl := tall_lt ht
  have hle5 := SgF.le _ _ _ _ _ _ h5
  have hl24 := hP.l24
  have hLe := hP.lw
  obtain ⟨y, hy⟩ : ∃ y, n[i - 1]? = some y := ⟨_, List.getElem?_eq_getElem hle5.2⟩
  have hxa : x.a = ((i - 1 : Nat) : Int) := by omega
  have hya : ndA n x.a = y := by rw [hxa]; exact ndA_get hy
  have hev := ev_k9 (n := n) (env := envF EL) (g := f) (fn := fn) (i := (i : Nat)) (by rw [hxi]; exact h1)
  rw [hxi, hya] at hev
  -- what the earlier links give
  have hpre : ∀ u, WoP u nb vb n EL → Ret Tryz.prog 216 [sl nb n.length, icv x.b, i64c fn, sl vb 24] u (fun v w' => (∃ s, v = fdA s ∧ FdOK (24 * (m - lo)) s ∧ FdR fn s (if x.b < 0 then tyZ else (evF n (envF EL) f fn x.b).2)) ∧ Fram none' u w') := by
    intro u hu
    rcases h6 with ⟨rfl, hb, rfl⟩ | ⟨hk, hm1, hb, hl⟩
    · refine (fold_z (fn := fn) (by omega)).mono ?_
      rintro v w' ⟨rfl, F⟩
      rw [if_pos (by omega)]
      exact ⟨⟨fdZ, rfl, FdOK.z.up (by omega), FdR.z fn⟩, F⟩
    · have hlel := SgF.le _ _ _ _ _ _ hl
      refine ((ih f (by omega)).2 (i := m - 1) (by omega) rfl hu hl ht hf1).mono ?_
      rintro v w' ⟨⟨s, rfl, q1, q2⟩, F⟩
      rw [if_neg (by omega), show x.b = ((m - 1 : Nat) : Int) by omega]
      exact ⟨⟨s, rfl, q1.up (by omega), q2⟩, F⟩
  generalize hpT : (if x.b < 0 then tyZ else (evF n (envF EL) f fn x.b).2) = PT at hev hpre
  have hN := hP.hN
  have hV := hP.hV
  have hlom : lo ≤ m := by
    rcases h6 with ⟨_, _, rfl⟩ | ⟨_, _, _, hl⟩
    · omega
    · have := SgF.le _ _ _ _ _ _ hl; omega
  clear h6
  refine ret_of Tryz.func216 rfl Tryz.ntmps216 rfl ?_
  refine c_seq (fun K1 hK1 => ?_)
  refine c_reg ?_ -- region 0 eval.go:316
  refine wl_new (ze_232) (fun b8 w1 hbb8 h8 F1 => ?_)
  have hbsb8 := Nat.le_trans hF.size hbb8
  have hnenbb8 : nb < b8 := Nat.lt_of_lt_of_le hN.lt hbb8
  have hnevbb8 : vb < b8 := Nat.lt_of_lt_of_le hV.lt hbb8
  replace hF := hF.thenDrew.thenN F1
  replace hN := F1.blkN hN
  replace hV := F1.blkN hV
  refine wl_nil (x_then (hK1 _ _ ?_))
  clear hK1 K1
  refine c_seq (fun K2 hK2 => ?_)
  refine c_seq (fun K3 hK3 => ?_)
  refine c_reg ?_ -- region 1 eval.go:317
  refine wl (ro_move rfl) ?_
  refine wl (ro_cmp (r := false) rfl rfl (congrArg some (decide_eq_false (by omega)))) ?_
  refine wl_nil (x_then (hK3 _ _ ?_))
  clear hK3 K3
  refine wc_condF rfl ?_
  refine c_skip (x_then (hK2 _ _ ?_))
  clear hK2 K2
  refine forget [(0, _), (1, _), (2, _), (3, _), (8, _)] ⟨rfl, rfl, rfl, rfl, rfl, trivial⟩ (fun e => ?_)
  refine c_seq (fun K4 hK4 => ?_)
  refine c_reg ?_ -- region 3 eval.go:320
  refine wl (ro_move rfl) ?_
  refine wl (ro_move rfl) ?_
  refine wl (ro_move rfl) ?_
  refine wl (ro_indexAddr (et := 143) (k := 13) rfl rfl se_78 rfl (by omega)) ?_
  refine wl (ro_fieldAddr (k := 3) rfl fo_143_3) ?_
  refine wl (ro_loadB rfl sc_3 (hN) ((rw_get ndc_len hx (j := 3) (by omega) rfl))) ?_
  refine wl (ro_move rfl) ?_
  refine wl (ro_move rfl) ?_
  refine wl_call rfl en_216 (hpre _ ⟨hN, hV, hP.el, hP.lw, hP.l24⟩) ?_
  rintro _ u1 ⟨⟨s, rfl, hs1, hs2⟩, G1⟩
  replace hF := hF.transG G1 (by intro k hk h; simp only [one, none'] at h ⊢ <;> omega)
  replace hN := G1.blkF hN (by intro h; simp only [one, none'] at h <;> omega)
  replace hV := G1.blkF hV (by intro h; simp only [one, none'] at h <;> omega)
  replace h8 := G1.blkF h8 (by intro h; simp only [one, none'] at h <;> omega)
  refine wl_new (ze_232) (fun b9 w2 hbb9 h9 F2 => ?_)
  have hbsb9 := Nat.le_trans hF.size hbb9
  have hnenbb9 : nb < b9 := Nat.lt_of_lt_of_le hN.lt hbb9
  have hnevbb9 : vb < b9 := Nat.lt_of_lt_of_le hV.lt hbb9
  have hneb8b9 : b8 < b9 := Nat.lt_of_lt_of_le h8.lt hbb9
  replace hF := hF.thenDrew.thenN F2
  replace hN := F2.blkN hN
  replace hV := F2.blkN hV
  replace h8 := F2.blkN h8
  refine wl_puta rfl rfl ((fdc_cells s)) sz_232 (rfl) h9 ((by simp)) ((show _ = fdc s from rfl)) (fun w3 h9 F3 => ?_)
  replace hF := hF.thenDrew.thenO F3 (by first | exact .inr (by omega) | exact .inl rfl | exact .inl (by assumption))
  replace hN := F3.blkO hN (by omega)
  replace hV := F3.blkO hV (by omega)
  replace h8 := F3.blkO h8 (by omega)
  refine wl_nil (x_then (hK4 _ _ ?_))
  clear hK4 K4
  refine forget [(0, _), (1, _), (2, _), (3, _), (8, _), (9, _)] ⟨rfl, rfl, rfl, rfl, rfl, rfl, trivial⟩ (fun e => ?_)
  refine c_seq (fun K5 hK5 => ?_)
  refine c_reg ?_ -- region 4 eval.go:321
  refine wl (ro_move rfl) ?_
  refine wl (ro_move rfl) ?_
  refine wl (ro_move rfl) ?_
  refine wl (ro_indexAddr (et := 143) (k := 13) rfl rfl se_78 rfl (by omega)) ?_
  refine wl (ro_fieldAddr (k := 2) rfl fo_143_2) ?_
  refine wl (ro_loadB rfl sc_3 (hN) ((rw_get ndc_len hx (j := 2) (by omega) rfl))) ?_
  refine wl (ro_indexAddr (et := 143) (k := 13) rfl rfl se_78 (hxa) ((by omega))) ?_
  refine wl (ro_loadAggB rfl ag_143 (hN) ((ndc_len _)) ((rw_agg ndc_len hy (by omega)))) ?_
  refine wl_new (ze_143) (fun b10 w4 hbb10 h10 F4 => ?_)
  have hbsb10 := Nat.le_trans hF.size hbb10
  have hnenbb10 : nb < b10 := Nat.lt_of_lt_of_le hN.lt hbb10
  have hnevbb10 : vb < b10 := Nat.lt_of_lt_of_le hV.lt hbb10
  have hneb8b10 : b8 < b10 := Nat.lt_of_lt_of_le h8.lt hbb10
  have hneb9b10 : b9 < b10 := Nat.lt_of_lt_of_le h9.lt hbb10
  replace hF := hF.thenDrew.thenN F4
  replace hN := F4.blkN hN
  replace hV := F4.blkN hV
  replace h8 := F4.blkN h8
  replace h9 := F4.blkN h9
  refine wl_puta rfl rfl ((ndc_cells y)) sz_143 (rfl) h10 ((by simp)) ((show _ = ndc y from rfl)) (fun w5 h10 F5 => ?_)
  replace hF := hF.thenDrew.thenO F5 (by first | exact .inr (by omega) | exact .inl rfl | exact .inl (by assumption))
  replace hN := F5.blkO hN (by omega)
  replace hV := F5.blkO hV (by omega)
  replace h8 := F5.blkO h8 (by omega)
  replace h9 := F5.blkO h9 (by omega)
  refine wl_nil (x_then (hK5 _ _ ?_))
  clear hK5 K5
  refine c_seq (fun K6 hK6 => ?_)
  refine c_seq (fun K7 hK7 => ?_)
  refine c_reg ?_ -- region 5 eval.go:322
  refine wl (ro_fieldAddr (k := 0) rfl fo_143_0) ?_
  refine wl (ro_loadB rfl sc_3 (by assumption) rfl) ?_
  refine wl (ro_cmp rfl rfl rfl) ?_
  refine wl_nil (x_then (hK7 _ _ ?_))
  clear hK7 K7
  refine wc_cond rfl (fun hc38 => ?_) (fun hc38 => ?_)
  · try simp only [decide_eq_true_eq, decide_eq_false_iff_not, Bool.not_eq_true', Bool.not_eq_false', Bool.not_eq_eq_eq_not, Bool.not_true, Bool.not_false, beq_iff_eq, bne_iff_ne, ne_eq, beq_eq_false_iff_ne, bne_eq_false_iff_eq, gt_iff_lt, ge_iff_le, Int.not_lt, Int.not_le] at hc38
    have hnr : isRng n (i - 1) = false := by unfold isRng; rw [hy]; simpa using hc38
    obtain ⟨C1, W1, hW1, hev1, -⟩ := (ev_law hLe hl24 f).1 _ _ _ h5 hnr
    refine c_seq (fun K8 hK8 => ?_)
    refine c_reg ?_ -- region 6 eval.go:323
    refine wl (ro_move rfl) ?_
    refine wl (ro_move rfl) ?_
    refine wl (ro_move rfl) ?_
    refine wl (ro_indexAddr (et := 143) (k := 13) rfl rfl se_78 rfl (by omega)) ?_
    refine wl (ro_fieldAddr (k := 2) rfl fo_143_2) ?_
    refine wl (ro_loadB rfl sc_3 (hN) ((rw_get ndc_len hx (j := 2) (by omega) rfl))) ?_
    refine wl (ro_move rfl) ?_
    refine wl_call rfl en_191 ((ih f (by omega)).1 hxa ⟨hN, hV, hP.el, hP.lw, hP.l24⟩ h5 hnr) ?_
    rintro _ u2 ⟨rfl, G2⟩
    rw [hev1 f 0 (Nat.le_refl _)]
    replace hF := hF.transG G2 (by intro k hk h; simp only [one, none'] at h ⊢ <;> omega)
    replace hN := G2.blkF hN (by intro h; simp only [one, none'] at h <;> omega)
    replace hV := G2.blkF hV (by intro h; simp only [one, none'] at h <;> omega)
    replace h8 := G2.blkF h8 (by intro h; simp only [one, none'] at h <;> omega)
    replace h9 := G2.blkF h9 (by intro h; simp only [one, none'] at h <;> omega)
    replace h10 := G2.blkF h10 (by intro h; simp only [one, none'] at h <;> omega)
    refine wl_new (ze_104) (fun b11 w6 hbb11 h11 F6 => ?_)
    have hbsb11 := Nat.le_trans hF.size hbb11
    have hnenbb11 : nb < b11 := Nat.lt_of_lt_of_le hN.lt hbb11
    have hnevbb11 : vb < b11 := Nat.lt_of_lt_of_le hV.lt hbb11
    have hneb8b11 : b8 < b11 := Nat.lt_of_lt_of_le h8.lt hbb11
    have hneb9b11 : b9 < b11 := Nat.lt_of_lt_of_le h9.lt hbb11
    have hneb10b11 : b10 < b11 := Nat.lt_of_lt_of_le h10.lt hbb11
    replace hF := hF.thenDrew.thenN F6
    replace hN := F6.blkN hN
    replace hV := F6.blkN hV
    replace h8 := F6.blkN h8
    replace h9 := F6.blkN h9
    replace h10 := F6.blkN h10
    refine wl_puta rfl rfl ((by (try exact vlc_cells _); all_goals simp [Value.oneCell', i64c, icv, u64c, u8c, ptr, S])) sz_104 (rfl) h11 ((by simp)) (rfl) (fun w7 h11 F7 => ?_)
    replace hF := hF.thenDrew.thenO F7 (by first | exact .inr (by omega) | exact .inl rfl | exact .inl (by assumption))
    replace hN := F7.blkO hN (by omega)
    replace hV := F7.blkO hV (by omega)
    replace h8 := F7.blkO h8 (by omega)
    replace h9 := F7.blkO h9 (by omega)
    replace h10 := F7.blkO h10 (by omega)
    refine wl_nil (x_then (hK8 _ _ ?_))
    clear hK8 K8
    refine forget [(2, _), (8, _), (9, _), (11, _)] ⟨rfl, rfl, rfl, rfl, trivial⟩ (fun e => ?_)
    refine c_seq (fun K9 hK9 => ?_)
    refine c_reg ?_ -- region 7 eval.go:324
    refine wl (ro_loadAggB rfl ag_232 (by assumption) rfl rfl) ?_
    refine wl (ro_move rfl) ?_
    refine wl (ro_loadAggB rfl ag_104 (by assumption) rfl rfl) ?_
    refine wl_call rfl en_227 (Take227 hW1 hs1 (by omega)) ?_
    rintro _ u3 ⟨rfl, G3⟩
    replace hF := hF.transG G3 (by intro k hk h; simp only [one, none'] at h ⊢ <;> omega)
    replace hN := G3.blkF hN (by intro h; simp only [one, none'] at h <;> omega)
    replace hV := G3.blkF hV (by intro h; simp only [one, none'] at h <;> omega)
    replace h8 := G3.blkF h8 (by intro h; simp only [one, none'] at h <;> omega)
    replace h9 := G3.blkF h9 (by intro h; simp only [one, none'] at h <;> omega)
    replace h10 := G3.blkF h10 (by intro h; simp only [one, none'] at h <;> omega)
    replace h11 := G3.blkF h11 (by intro h; simp only [one, none'] at h <;> omega)
    refine wl_puta rfl rfl ((fdc_cells _)) sz_232 (rfl) h8 ((by simp)) ((show _ = fdc (takeD fn W1 false s) from rfl)) (fun w8 h8 F8 => ?_)
    replace hF := hF.thenDrew.thenO F8 (by first | exact .inr (by omega) | exact .inl rfl | exact .inl (by assumption))
    replace hN := F8.blkO hN (by omega)
    replace hV := F8.blkO hV (by omega)
    replace h9 := F8.blkO h9 (by omega)
    replace h10 := F8.blkO h10 (by omega)
    replace h11 := F8.blkO h11 (by omega)
    refine wl_nil (x_then (hK9 _ _ ?_))
    clear hK9 K9
    refine c_ret (x_thenR ?_)
    refine bq_ret (res1 Tryz.results216 (rv_c rfl ag_232 (h8) rfl)) ?_
    refine ⟨⟨_, rfl, (hs1.take false hW1).up (by omega), ?_⟩, hF⟩
    rw [hev, if_neg hc38, hxa, hev1 f 0 (Nat.le_refl _)]
    exact hs2.take false
  · try simp only [decide_eq_true_eq, decide_eq_false_iff_not, Bool.not_eq_true', Bool.not_eq_false', Bool.not_eq_eq_eq_not, Bool.not_true, Bool.not_false, beq_iff_eq, bne_iff_ne, ne_eq, beq_eq_false_iff_ne, bne_eq_false_iff_eq, gt_iff_lt, ge_iff_le, Int.not_lt, Int.not_le] at hc38
    have hk4 : y.k = 4 := hc38
    rw [if_pos hk4] at hev
    refine c_skip (x_then (hK6 _ _ ?_))
    clear hK6 K6
    refine forget [(2, _), (3, _), (8, _), (9, _), (10, _)] ⟨rfl, rfl, rfl, rfl, rfl, trivial⟩ (fun e => ?_)
    refine c_seq (fun K10 hK10 => ?_)
    refine c_reg ?_ -- region 8 eval.go:326
    refine wl (ro_fieldAddr (k := 5) rfl fo_143_5) ?_
    refine wl (ro_loadAggB rfl ag_141 (by assumption) rfl rfl) ?_
    refine wl (ro_fieldAddr (k := 9) rfl fo_143_6) ?_
    refine wl (ro_loadAggB rfl ag_141 (by assumption) rfl rfl) ?_
    refine wl_call rfl en_136 (Block136) ?_
    rintro _ u2 ⟨rfl, G2⟩
    replace hF := hF.transG G2 (by intro k hk h; simp only [one, none'] at h ⊢ <;> omega)
    replace hN := G2.blkF hN (by intro h; simp only [one, none'] at h <;> omega)
    replace hV := G2.blkF hV (by intro h; simp only [one, none'] at h <;> omega)
    replace h8 := G2.blkF h8 (by intro h; simp only [one, none'] at h <;> omega)
    replace h9 := G2.blkF h9 (by intro h; simp only [one, none'] at h <;> omega)
    replace h10 := G2.blkF h10 (by intro h; simp only [one, none'] at h <;> omega)
    refine wl (ro_move rfl) ?_
    refine wl (ro_extract rfl rfl) ?_
    refine wl (ro_extract rfl rfl) ?_
    refine wl (ro_assign rfl) ?_
    refine wl (ro_assign rfl) ?_
    refine wl_nil (x_then (hK10 _ _ ?_))
    clear hK10 K10
    refine c_seq (fun K11 hK11 => ?_)
    refine c_seq (fun K12 hK12 => ?_)
    refine c_reg ?_ -- region 9 eval.go:327
    refine wl (ro_move rfl) ?_
    refine wl (ro_not rfl) ?_
    refine wl_nil (x_then (hK12 _ _ ?_))
    clear hK12 K12
    refine wc_cond rfl (fun hc60 => ?_) (fun hc60 => ?_)
    · try simp only [decide_eq_true_eq, decide_eq_false_iff_not, Bool.not_eq_true', Bool.not_eq_false', Bool.not_eq_eq_eq_not, Bool.not_true, Bool.not_false, beq_iff_eq, bne_iff_ne, ne_eq, beq_eq_false_iff_ne, bne_eq_false_iff_eq, gt_iff_lt, ge_iff_le, Int.not_lt, Int.not_le] at hc60
      have hbk : blkR y.p y.q = none := by
        cases hq : blkR y.p y.q with
        | none => rfl
        | some mm => rw [hq] at hc60; cases hc60
      rw [hbk] at hev
      refine c_seq (fun K13 hK13 => ?_)
      refine c_reg ?_ -- region 10 eval.go:328
      refine wl_call rfl en_116 (Err116) ?_
      rintro _ w9 ⟨rfl, F9⟩
      replace hF := hF.thenDrew.thenN F9
      replace hN := F9.blkN hN
      replace hV := F9.blkN hV
      replace h8 := F9.blkN h8
      replace h9 := F9.blkN h9
      replace h10 := F9.blkN h10
      refine wl_new (ze_104) (fun b14 w10 hbb14 h14 F10 => ?_)
      have hbsb14 := Nat.le_trans hF.size hbb14
      have hnenbb14 : nb < b14 := Nat.lt_of_lt_of_le hN.lt hbb14
      have hnevbb14 : vb < b14 := Nat.lt_of_lt_of_le hV.lt hbb14
      have hneb8b14 : b8 < b14 := Nat.lt_of_lt_of_le h8.lt hbb14
      have hneb9b14 : b9 < b14 := Nat.lt_of_lt_of_le h9.lt hbb14
      have hneb10b14 : b10 < b14 := Nat.lt_of_lt_of_le h10.lt hbb14
      replace hF := hF.thenDrew.thenN F10
      replace hN := F10.blkN hN
      replace hV := F10.blkN hV
      replace h8 := F10.blkN h8
      replace h9 := F10.blkN h9
      replace h10 := F10.blkN h10
      refine wl_puta rfl rfl ((by (try exact vlc_cells _); all_goals simp [Value.oneCell', i64c, icv, u64c, u8c, ptr, S])) sz_104 (rfl) h14 ((by simp)) (rfl) (fun w11 h14 F11 => ?_)
      replace hF := hF.thenDrew.thenO F11 (by first | exact .inr (by omega) | exact .inl rfl | exact .inl (by assumption))
      replace hN := F11.blkO hN (by omega)
      replace hV := F11.blkO hV (by omega)
      replace h8 := F11.blkO h8 (by omega)
      replace h9 := F11.blkO h9 (by omega)
      replace h10 := F11.blkO h10 (by omega)
      refine wl_nil (x_then (hK13 _ _ ?_))
      clear hK13 K13
      refine forget [(2, _), (8, _), (9, _), (14, _)] ⟨rfl, rfl, rfl, rfl, trivial⟩ (fun e => ?_)
      refine c_seq (fun K14 hK14 => ?_)
      refine c_reg ?_ -- region 11 eval.go:329
      refine wl (ro_loadAggB rfl ag_232 (by assumption) rfl rfl) ?_
      refine wl (ro_move rfl) ?_
      refine wl (ro_loadAggB rfl ag_104 (by assumption) rfl rfl) ?_
      refine wl_call rfl en_227 (Take227 (x := vE 2) (Lw.e (by omega) (by omega)) hs1 (by omega)) ?_
      rintro _ u3 ⟨rfl, G3⟩
      replace hF := hF.transG G3 (by intro k hk h; simp only [one, none'] at h ⊢ <;> omega)
      replace hN := G3.blkF hN (by intro h; simp only [one, none'] at h <;> omega)
      replace hV := G3.blkF hV (by intro h; simp only [one, none'] at h <;> omega)
      replace h8 := G3.blkF h8 (by intro h; simp only [one, none'] at h <;> omega)
      replace h9 := G3.blkF h9 (by intro h; simp only [one, none'] at h <;> omega)
      replace h10 := G3.blkF h10 (by intro h; simp only [one, none'] at h <;> omega)
      replace h14 := G3.blkF h14 (by intro h; simp only [one, none'] at h <;> omega)
      refine wl_puta rfl rfl ((fdc_cells _)) sz_232 (rfl) h8 ((by simp)) ((show _ = fdc (takeD fn (vE 2) true s) from rfl)) (fun w12 h8 F12 => ?_)
      replace hF := hF.thenDrew.thenO F12 (by first | exact .inr (by omega) | exact .inl rfl | exact .inl (by assumption))
      replace hN := F12.blkO hN (by omega)
      replace hV := F12.blkO hV (by omega)
      replace h9 := F12.blkO h9 (by omega)
      replace h10 := F12.blkO h10 (by omega)
      replace h14 := F12.blkO h14 (by omega)
      refine wl_nil (x_then (hK14 _ _ ?_))
      clear hK14 K14
      refine c_ret (x_thenR ?_)
      refine bq_ret (res1 Tryz.results216 (rv_c rfl ag_232 (h8) rfl)) ?_
      refine ⟨⟨_, rfl, (hs1.take true (Lw.e (by omega) (by omega))).up (by omega), ?_⟩, hF⟩
      rw [hev]
      exact hs2.take true
    · try simp only [decide_eq_true_eq, decide_eq_false_iff_not, Bool.not_eq_true', Bool.not_eq_false', Bool.not_eq_eq_eq_not, Bool.not_true, Bool.not_false, beq_iff_eq, bne_iff_ne, ne_eq, beq_eq_false_iff_ne, bne_eq_false_iff_eq, gt_iff_lt, ge_iff_le, Int.not_lt, Int.not_le] at hc60
      obtain ⟨mm, hbk⟩ : ∃ mm, blkR y.p y.q = some mm := by
        cases hq : blkR y.p y.q with
        | none => rw [hq] at hc60; cases hc60
        | some mm => exact ⟨mm, rfl⟩
      rw [hbk] at hev ⊢
      have hml := blk_lt hbk
      replace hev : (evF n (envF EL) (f + 1) fn (i : Nat)).2 = sweepT fn mm (envF EL) 24 0 PT := hev
      refine c_skip (x_then (hK11 _ _ ?_))
      clear hK11 K11
      refine c_seq (fun K15 hK15 => ?_)
      refine c_seq (fun K16 hK16 => ?_)
      refine c_reg ?_ -- region 12 eval.go:331
      refine wl (ro_assign rfl) ?_
      refine wl_nil (x_then (hK16 _ _ ?_))
      clear hK16 K16
      refine c_block ?_
      -- loop@r13: live slots [2, 3, 8, 9, 12, 15]
      refine c_loopG (fun q a' w' => ∃ c s T, q = 24 - c ∧ c ≤ 24 ∧ FdOK (24 * (m - lo) + c) s ∧ FdR fn s T ∧ sweepT fn mm (envF EL) (24 - c) c T = sweepT fn mm (envF EL) 24 0 PT ∧ Blk w'.heap b9 (fdc s) 232 ∧ Blk w'.heap b8 (fdc ⟨vZ, 0, 0, 0, 0, false, false⟩) 232 ∧ Blk w'.heap vb (rws vlc EL) 104 ∧ Fram none' w w' ∧ ∃ e, a' = Fr 83 (upds e [(2, i64c fn), (3, sl vb 24), (8, ptr b8), (9, ptr b9), (12, u32c mm), (15, i64c c)]) []) 24 ⟨0, s, PT, rfl, by omega, hs1, hs2, rfl, h9, h8, hV, hF, kp _ ⟨rfl, rfl, rfl, rfl, rfl, rfl, trivial⟩⟩ ?_
      clear hF hV h9 h8 hN h10 hs1 hs2 hpre hpT
      rintro q a' u3 ⟨c, s, T, rfl, hc, hs1, hs2, hsw, h9, h8, hV, hF, e, rfl⟩
      have hsz := hF.size
      have hb89 : b8 < b9 := by omega
      refine c_seq (fun K17 hK17 => ?_)
      refine c_seq (fun K18 hK18 => ?_)
      refine c_reg ?_ -- region 13 eval.go:331
      refine wl (ro_move rfl) ?_
      refine wl (ro_cmp (r := decide (c < 24)) rfl rfl (congrArg some (decide_eq_decide.2 (by omega)))) ?_
      refine wl_nil (x_then (hK18 _ _ ?_))
      clear hK18 K18
      refine wc_cond rfl (fun hc67 => ?_) (fun hc67 => ?_)
      · try simp only [decide_eq_true_eq, decide_eq_false_iff_not, Bool.not_eq_true', Bool.not_eq_false', Bool.not_eq_eq_eq_not, Bool.not_true, Bool.not_false, beq_iff_eq, bne_iff_ne, ne_eq, beq_eq_false_iff_ne, bne_eq_false_iff_eq, gt_iff_lt, ge_iff_le, Int.not_lt, Int.not_le] at hc67
        have hcE := env_get (EL := EL) (c := c) (by have := hP.el; omega)
        have hst : sweepT fn mm (envF EL) (24 - c) c T = sweepT fn mm (envF EL) (24 - (c + 1)) (c + 1) (if mm.testBit c = true then takeT fn (envF EL c) true T else T) := by
          rw [show 24 - c = (24 - (c + 1)) + 1 by omega]
          rfl
        rw [hst] at hsw
        refine c_skip (x_then (hK17 _ _ ?_))
        clear hK17 K17
        refine forget [(2, _), (3, _), (8, _), (9, _), (12, _), (15, _)] ⟨rfl, rfl, rfl, rfl, rfl, rfl, trivial⟩ (fun e => ?_)
        refine c_seq (fun K19 hK19 => ?_)
        refine c_block ?_
        refine c_seq (fun K20 hK20 => ?_)
        refine c_reg ?_ -- region 15 eval.go:332
        refine wl (ro_move rfl) ?_
        refine wl (ro_move rfl) ?_
        refine wl_call rfl en_66 (Bit66 hc67) ?_
        rintro _ _ ⟨rfl, rfl⟩
        refine wl (ro_and32 rfl rfl (by omega) (Nat.pow_lt_pow_right (by omega) (by omega))) ?_
        refine wl (ro_cmp (r := mm.testBit c) rfl rfl (congrArg some (bit_and mm c))) ?_
        refine wl_nil (x_then (hK20 _ _ ?_))
        clear hK20 K20
        refine wc_cond rfl (fun hc74 => ?_) (fun hc74 => ?_)
        · try simp only [decide_eq_true_eq, decide_eq_false_iff_not, Bool.not_eq_true', Bool.not_eq_false', Bool.not_eq_eq_eq_not, Bool.not_true, Bool.not_false, beq_iff_eq, bne_iff_ne, ne_eq, beq_eq_false_iff_ne, bne_eq_false_iff_eq, gt_iff_lt, ge_iff_le, Int.not_lt, Int.not_le] at hc74
          refine c_piL 7 [(0, false), (1, false), (2, false), (3, false), (4, false), (5, false), (6, true)] (fun w' => Blk w'.heap b9 (fdc s) 232 ∧ Blk w'.heap vb (rws vlc EL) 104) mixed (by kernel_rfl) rfl (by kernel_rfl) (po_blk (po_then (po_then (po_blk (po_then (po_bp)))))) (⟨h9, hV⟩) ?_ -- region 16 eval.go:333
          refine ql_ro rfl (fun w hS => ro_loadAggB rfl ag_232 (hS.1) (rfl) (rfl)) ?_
          refine ql_ro rfl (fun w hS => ro_move rfl) ?_
          refine ql_ro rfl (fun w hS => ro_move rfl) ?_
          refine ql_ro rfl (fun w hS => ro_move rfl) ?_
          refine ql_ro rfl (fun w hS => ro_indexAddr (et := 104) (k := 3) rfl rfl se_86 rfl (by omega)) ?_
          refine ql_ro rfl (fun w hS => ro_loadAggB rfl ag_104 (hS.2) ((vlc_len _)) ((rw_agg vlc_len hcE (by omega)))) ?_
          refine ql_call rfl rfl en_227 (Take227 (hLe c hc67) hs1 (by omega)) ?_
          rintro _ u4 ⟨rfl, G4⟩
          replace hF := hF.transG G4 (by intro k hk h; simp only [one, none'] at h ⊢ <;> omega)
          replace hV := G4.blkF hV (by intro h; simp only [one, none'] at h <;> omega)
          replace h8 := G4.blkF h8 (by intro h; simp only [one, none'] at h <;> omega)
          replace h9 := G4.blkF h9 (by intro h; simp only [one, none'] at h <;> omega)
          refine ⟨⟨h9, hV⟩, ?_⟩
          refine ql_puta rfl rfl rfl ((fdc_cells _)) sz_232 (rfl) h9 ((by simp)) ((show _ = fdc (takeD fn (envF EL c) true s) from rfl)) (fun w13 h9 F13 => ?_)
          replace hF := hF.thenDrew.thenO F13 (by first | exact .inr (by omega) | exact .inl rfl | exact .inl (by assumption))
          replace hV := F13.blkO hV (by omega)
          replace h8 := F13.blkO h8 (by omega)
          refine x_blk (x_then (hK19 _ _ ?_))
          clear hK19 K19
          refine c_reg ?_ -- region 14 eval.go:331
          refine wl (ro_move rfl) ?_
          refine wl (ro_arith (r := ((c + 1 : Nat) : Int)) rfl rfl rfl (Go.IntWalk.i64_in _ (by omega))) ?_
          refine wl (ro_assign rfl) ?_
          refine wl_nil (x_then ?_)
          first
            | (rw [if_pos hc74] at hsw
               exact ⟨24 - (c + 1), by omega, c + 1, _, _, rfl, by omega, hs1.take true (hLe c hc67), hs2.take true, hsw, h9, h8, hV, hF, kp _ ⟨rfl, rfl, rfl, rfl, rfl, rfl, trivial⟩⟩)
            | (rw [if_neg (by rw [hc74]; decide)] at hsw
               exact ⟨24 - (c + 1), by omega, c + 1, s, T, rfl, by omega, hs1.up (by omega), hs2, hsw, h9, h8, hV, hF, kp _ ⟨rfl, rfl, rfl, rfl, rfl, rfl, trivial⟩⟩)
        · try simp only [decide_eq_true_eq, decide_eq_false_iff_not, Bool.not_eq_true', Bool.not_eq_false', Bool.not_eq_eq_eq_not, Bool.not_true, Bool.not_false, beq_iff_eq, bne_iff_ne, ne_eq, beq_eq_false_iff_ne, bne_eq_false_iff_eq, gt_iff_lt, ge_iff_le, Int.not_lt, Int.not_le] at hc74
          refine c_skip (x_blk (x_then (hK19 _ _ ?_)))
          clear hK19 K19
          refine c_reg ?_ -- region 14 eval.go:331
          refine wl (ro_move rfl) ?_
          refine wl (ro_arith (r := ((c + 1 : Nat) : Int)) rfl rfl rfl (Go.IntWalk.i64_in _ (by omega))) ?_
          refine wl (ro_assign rfl) ?_
          refine wl_nil (x_then ?_)
          first
            | (rw [if_pos hc74] at hsw
               exact ⟨24 - (c + 1), by omega, c + 1, _, _, rfl, by omega, hs1.take true (hLe c hc67), hs2.take true, hsw, h9, h8, hV, hF, kp _ ⟨rfl, rfl, rfl, rfl, rfl, rfl, trivial⟩⟩)
            | (rw [if_neg (by rw [hc74]; decide)] at hsw
               exact ⟨24 - (c + 1), by omega, c + 1, s, T, rfl, by omega, hs1.up (by omega), hs2, hsw, h9, h8, hV, hF, kp _ ⟨rfl, rfl, rfl, rfl, rfl, rfl, trivial⟩⟩)
      · try simp only [decide_eq_true_eq, decide_eq_false_iff_not, Bool.not_eq_true', Bool.not_eq_false', Bool.not_eq_eq_eq_not, Bool.not_true, Bool.not_false, beq_iff_eq, bne_iff_ne, ne_eq, beq_eq_false_iff_ne, bne_eq_false_iff_eq, gt_iff_lt, ge_iff_le, Int.not_lt, Int.not_le] at hc67
        refine c_exit (x_thenX (x_thenX (x_blkX (x_then (hK15 _ _ ?_)))))
        clear hK17 K17 hK15 K15
        refine forget [(8, _), (9, _)] ⟨rfl, rfl, trivial⟩ (fun e => ?_)
        refine c_seq (fun K21 hK21 => ?_)
        refine c_reg ?_ -- region 17 eval.go:336
        refine wl (ro_loadAggB rfl ag_232 (by assumption) rfl rfl) ?_
        refine wl_puta rfl rfl ((fdc_cells _)) sz_232 (rfl) h8 ((by simp)) ((show _ = fdc s from rfl)) (fun w14 h8 F14 => ?_)
        replace hF := hF.thenDrew.thenO F14 (by first | exact .inr (by omega) | exact .inl rfl | exact .inl (by assumption))
        replace hV := F14.blkO hV (by omega)
        replace h9 := F14.blkO h9 (by omega)
        refine wl_nil (x_then (hK21 _ _ ?_))
        clear hK21 K21
        refine c_ret ?_
        refine bq_ret (res1 Tryz.results216 (rv_c rfl ag_232 (h8) rfl)) ?_
        have hc24 : c = 24 := by omega
        subst hc24
        have hTT : T = sweepT fn mm (envF EL) 24 0 PT := hsw
        refine ⟨⟨s, rfl, hs1.up (by omega), ?_⟩, hF⟩
        rw [hev, ← hTT]
        exact hs2

theorem sg_k6 {n : List Nd} {f lo i : Nat} {arg : Bool} {x : Nd} (h : SgF n (f + 1) false 0 lo i arg) (hx : n[i]? = some x) (hk : x.k = 6) : 1 ≤ i ∧ x.a = (i : Int) - 1 ∧ SgF n f false 0 lo (i - 1) false := by
  obtain ⟨y, hy, h⟩ := h
  rw [hx] at hy
  cases hy
  rcases h with h | h | h | h | h | h | h | h
  all_goals first | exact h.2 | (have := h.1; omega)
theorem sg_k7 {n : List Nd} {f lo i : Nat} {arg : Bool} {x : Nd} (h : SgF n (f + 1) false 0 lo i arg) (hx : n[i]? = some x) (hk : x.k = 7) : 1 ≤ i ∧ x.b = (i : Int) - 1 ∧ ∃ o m : Nat, x.o = (o : Int) ∧ 1 ≤ o ∧ o ≤ 10 ∧ 1 ≤ m ∧ m < i ∧ x.a = (m : Int) - 1 ∧ SgF n f false 0 m (i - 1) false ∧ SgF n f false 0 lo (m - 1) false := by
  obtain ⟨y, hy, h⟩ := h
  rw [hx] at hy
  cases hy
  rcases h with h | h | h | h | h | h | h | h
  all_goals first | exact h.2 | (have := h.1; omega)
theorem sg_k8 {n : List Nd} {f lo i : Nat} {arg : Bool} {x : Nd} (h : SgF n (f + 1) false 0 lo i arg) (hx : n[i]? = some x) (hk : x.k = 8) : 1 ≤ i ∧ x.a = (i : Int) - 1 ∧ ∃ fn k : Nat, x.o = (fn : Int) ∧ x.n = (k : Int) ∧ arity fn k = true ∧ SgF n f true k lo (i - 1) (rangeOK fn) := by
  obtain ⟨y, hy, h⟩ := h
  rw [hx] at hy
  cases hy
  rcases h with h | h | h | h | h | h | h | h
  all_goals first | exact h.2 | (have := h.1; omega)
theorem sl_inv {n : List Nd} {f k lo i : Nat} {rg : Bool} (h : SgF n f true k lo i rg) : ∃ f' x m, f = f' + 1 ∧ n[i]? = some x ∧ x.k = 9 ∧ 1 ≤ i ∧ x.a = ((i - 1 : Nat) : Int) ∧ m < i ∧ SgF n f' false 0 m (i - 1) rg ∧ ((k = 1 ∧ x.b = -1 ∧ lo = m) ∨ (1 < k ∧ 1 ≤ m ∧ x.b = ((m - 1 : Nat) : Int) ∧ SgF n f' true (k - 1) lo (m - 1) rg)) := by
  cases f with
  | zero => exact h.elim
  | succ f =>
    obtain ⟨x, hx, h1, h2, h3, m, h4, h5, h6⟩ := h
    refine ⟨f, x, m, rfl, hx, h1, h2, by omega, h4, h5, ?_⟩
    rcases h6 with h6 | ⟨g1, g2, g3, g4⟩
    · exact .inl h6
    · exact .inr ⟨g1, g2, by omega, g4⟩

theorem sg_n9 {n : List Nd} {f lo i : Nat} {arg : Bool} {x : Nd} (h : SgF n (f + 1) false 0 lo i arg) (hx : n[i]? = some x) : x.k ≠ 9 := by
  obtain ⟨y, hy, h⟩ := h
  rw [hx] at hy
  cases hy
  rcases h with h | h | h | h | h | h | h | h
  all_goals (have := h.1; omega)
theorem BinaryI {w : World} {op : Nat} {op' : Int} {x y : Vl} (e : op' = (op : Int)) (hx : Lw x) (hy : Lw y) (ho : op ≤ 10) : Ret Tryz.prog 214 [icv op', vlA x, vlA y] w (fun v w' => v = vlA (binV op x y) ∧ Fram none' w w') := by subst e; exact Binary214 hx hy ho
theorem UnaryI {w : World} {f : Nat} {f' : Int} {x : Vl} (e : f' = (f : Int)) (hx : Lw x) : Ret Tryz.prog 213 [icv f', vlA x] w (fun v w' => v = vlA (unV f x) ∧ Fram none' w w') := by subst e; exact Unary213 hx
theorem FoldedI {w : World} {f : Nat} {f' : Int} {s : Fd} (e : f' = (f : Int)) : Ret Tryz.prog 217 [fdA s, icv f'] w (fun v w' => v = vlA (foldedD f s) ∧ Fram none' w w') := by subst e; exact Folded217

set_option maxHeartbeats 8000000 in
theorem wo_step {f : Nat} (ih : ∀ m, m < f → WoC m ∧ FoC m) : WoC f := by
  intro w nb vb n EL lo i arg i' hi' hP hS hr
  subst hi'
  have hle := SgF.le _ _ _ _ _ _ hS
  cases f with
  | zero => exact hS.elim
  | succ f =>
  obtain ⟨x, hx⟩ : ∃ x, n[i]? = some x := ⟨_, List.getElem?_eq_getElem hle.2⟩
  have hF : Fram none' w w := Fram.refl _ _
  have hxi := ndA_get hx
  have hl24 := hP.l24
  have hLe := hP.lw
  have hN := hP.hN
  have hV := hP.hV
  have hel := hP.el
  refine ret_of Tryz.func191 rfl Tryz.ntmps191 rfl ?_
  refine c_seq (fun K1 hK1 => ?_)
  refine c_reg ?_ -- region 0 eval.go:340
  refine wl_new (ze_104) (fun b6 w1 hbb6 h6 F1 => ?_)
  have hbsb6 := Nat.le_trans hF.size hbb6
  have hnenbb6 : nb < b6 := Nat.lt_of_lt_of_le hN.lt hbb6
  have hnevbb6 : vb < b6 := Nat.lt_of_lt_of_le hV.lt hbb6
  replace hF := hF.thenDrew.thenN F1
  replace hN := F1.blkN hN
  replace hV := F1.blkN hV
  refine wl_nil (x_then (hK1 _ _ ?_))
  clear hK1 K1
  refine forget [(0, _), (1, _), (2, _), (6, _)] ⟨rfl, rfl, rfl, rfl, trivial⟩ (fun e => ?_)
  refine c_seq (fun K2 hK2 => ?_)
  refine c_reg ?_ -- region 1 eval.go:341
  refine wl (ro_move rfl) ?_
  refine wl (ro_move rfl) ?_
  refine wl (ro_indexAddr (et := 143) (k := 13) rfl rfl se_78 rfl (by omega)) ?_
  refine wl (ro_loadAggB rfl ag_143 (hN) ((ndc_len _)) ((rw_agg ndc_len hx (by omega)))) ?_
  refine wl_new (ze_143) (fun b7 w2 hbb7 h7 F2 => ?_)
  have hbsb7 := Nat.le_trans hF.size hbb7
  have hnenbb7 : nb < b7 := Nat.lt_of_lt_of_le hN.lt hbb7
  have hnevbb7 : vb < b7 := Nat.lt_of_lt_of_le hV.lt hbb7
  have hneb6b7 : b6 < b7 := Nat.lt_of_lt_of_le h6.lt hbb7
  replace hF := hF.thenDrew.thenN F2
  replace hN := F2.blkN hN
  replace hV := F2.blkN hV
  replace h6 := F2.blkN h6
  refine wl_puta rfl rfl ((ndc_cells x)) sz_143 (rfl) h7 ((by simp)) ((show _ = ndc x from rfl)) (fun w3 h7 F3 => ?_)
  replace hF := hF.thenDrew.thenO F3 (by first | exact .inr (by omega) | exact .inl rfl | exact .inl (by assumption))
  replace hN := F3.blkO hN (by omega)
  replace hV := F3.blkO hV (by omega)
  replace h6 := F3.blkO h6 (by omega)
  refine wl_nil (x_then (hK2 _ _ ?_))
  clear hK2 K2
  refine c_seq (fun K3 hK3 => ?_)
  refine c_seq (fun K4 hK4 => ?_)
  refine c_reg ?_ -- region 2 eval.go:342
  refine wl (ro_fieldAddr (k := 0) rfl fo_143_0) ?_
  refine wl (ro_loadB rfl sc_3 (by assumption) rfl) ?_
  refine wl_nil (x_then (hK4 _ _ ?_))
  clear hK4 K4
  refine c_block ?_
  refine forget [(0, _), (2, _), (6, _), (7, _), (24, _)] ⟨rfl, rfl, rfl, rfl, rfl, trivial⟩ (fun e => ?_)
  refine c_seq (fun K5 hK5 => ?_)
  refine c_reg ?_ -- region 3 eval.go:343
  refine wl (ro_cmp rfl rfl rfl) ?_
  refine wl (ro_assign rfl) ?_
  refine wl_nil (x_then (hK5 _ _ ?_))
  clear hK5 K5
  refine wc_cond rfl (fun hc25 => ?_) (fun hc25 => ?_)
  · try simp only [decide_eq_true_eq, decide_eq_false_iff_not, Bool.not_eq_true', Bool.not_eq_false', Bool.not_eq_eq_eq_not, Bool.not_true, Bool.not_false, beq_iff_eq, bne_iff_ne, ne_eq, beq_eq_false_iff_ne, bne_eq_false_iff_eq, gt_iff_lt, ge_iff_le, Int.not_lt, Int.not_le] at hc25
    refine c_seq (fun K6 hK6 => ?_)
    refine c_reg ?_ -- region 4 eval.go:344
    refine wl (ro_fieldAddr (k := 4) rfl fo_143_4) ?_
    refine wl (ro_loadB rfl sc_3 (by assumption) rfl) ?_
    refine wl_call rfl en_187 (Int187) ?_
    rintro _ w4 ⟨rfl, F4⟩
    replace hF := hF.thenDrew.thenN F4
    replace hN := F4.blkN hN
    replace hV := F4.blkN hV
    replace h6 := F4.blkN h6
    replace h7 := F4.blkN h7
    refine wl_puta rfl rfl ((by (try exact vlc_cells _); all_goals simp [Value.oneCell', i64c, icv, u64c, u8c, ptr, S])) sz_104 (rfl) h6 ((by simp)) (rfl) (fun w5 h6 F5 => ?_)
    replace hF := hF.thenDrew.thenO F5 (by first | exact .inr (by omega) | exact .inl rfl | exact .inl (by assumption))
    replace hN := F5.blkO hN (by omega)
    replace hV := F5.blkO hV (by omega)
    replace h7 := F5.blkO h7 (by omega)
    refine wl_nil (x_then (hK6 _ _ ?_))
    clear hK6 K6
    refine c_ret (x_blkR (x_thenR ?_))
    refine bq_ret (res1 Tryz.results191 (rv_c rfl ag_104 (h6) rfl)) ?_
    exact ⟨by rw [ev_k1 (by rw [hxi]; exact hc25), hxi]; rfl, hF⟩
  · try simp only [decide_eq_true_eq, decide_eq_false_iff_not, Bool.not_eq_true', Bool.not_eq_false', Bool.not_eq_eq_eq_not, Bool.not_true, Bool.not_false, beq_iff_eq, bne_iff_ne, ne_eq, beq_eq_false_iff_ne, bne_eq_false_iff_eq, gt_iff_lt, ge_iff_le, Int.not_lt, Int.not_le] at hc25
    refine c_seq (fun K7 hK7 => ?_)
    refine c_reg ?_ -- region 5 eval.go:345
    refine wl (ro_cmp rfl rfl rfl) ?_
    refine wl (ro_assign rfl) ?_
    refine wl_nil (x_then (hK7 _ _ ?_))
    clear hK7 K7
    refine wc_cond rfl (fun hc30 => ?_) (fun hc30 => ?_)
    · try simp only [decide_eq_true_eq, decide_eq_false_iff_not, Bool.not_eq_true', Bool.not_eq_false', Bool.not_eq_eq_eq_not, Bool.not_true, Bool.not_false, beq_iff_eq, bne_iff_ne, ne_eq, beq_eq_false_iff_ne, bne_eq_false_iff_eq, gt_iff_lt, ge_iff_le, Int.not_lt, Int.not_le] at hc30
      refine c_seq (fun K8 hK8 => ?_)
      refine c_reg ?_ -- region 6 eval.go:346
      refine wl (ro_fieldAddr (k := 4) rfl fo_143_4) ?_
      refine wl (ro_loadB rfl sc_3 (by assumption) rfl) ?_
      refine wl (ro_build rfl bld_104_0_1) ?_
      refine wl_puta rfl rfl ((by (try exact vlc_cells _); all_goals simp [Value.oneCell', i64c, icv, u64c, u8c, ptr, S])) sz_104 (rfl) h6 ((by simp)) (rfl) (fun w6 h6 F6 => ?_)
      replace hF := hF.thenDrew.thenO F6 (by first | exact .inr (by omega) | exact .inl rfl | exact .inl (by assumption))
      replace hN := F6.blkO hN (by omega)
      replace hV := F6.blkO hV (by omega)
      replace h7 := F6.blkO h7 (by omega)
      refine wl_nil (x_then (hK8 _ _ ?_))
      clear hK8 K8
      refine c_ret (x_blkR (x_thenR ?_))
      refine bq_ret (res1 Tryz.results191 (rv_c rfl ag_104 (h6) rfl)) ?_
      exact ⟨by rw [ev_k2 (by rw [hxi]; exact hc30), hxi]; rfl, hF⟩
    · try simp only [decide_eq_true_eq, decide_eq_false_iff_not, Bool.not_eq_true', Bool.not_eq_false', Bool.not_eq_eq_eq_not, Bool.not_true, Bool.not_false, beq_iff_eq, bne_iff_ne, ne_eq, beq_eq_false_iff_ne, bne_eq_false_iff_eq, gt_iff_lt, ge_iff_le, Int.not_lt, Int.not_le] at hc30
      refine c_seq (fun K9 hK9 => ?_)
      refine c_reg ?_ -- region 7 eval.go:347
      refine wl (ro_cmp rfl rfl rfl) ?_
      refine wl (ro_assign rfl) ?_
      refine wl_nil (x_then (hK9 _ _ ?_))
      clear hK9 K9
      refine wc_cond rfl (fun hc35 => ?_) (fun hc35 => ?_)
      · try simp only [decide_eq_true_eq, decide_eq_false_iff_not, Bool.not_eq_true', Bool.not_eq_false', Bool.not_eq_eq_eq_not, Bool.not_true, Bool.not_false, beq_iff_eq, bne_iff_ne, ne_eq, beq_eq_false_iff_ne, bne_eq_false_iff_eq, gt_iff_lt, ge_iff_le, Int.not_lt, Int.not_le] at hc35
        refine c_seq (fun K10 hK10 => ?_)
        refine c_seq (fun K11 hK11 => ?_)
        refine c_reg ?_ -- region 8 eval.go:348
        refine wl (ro_fieldAddr (k := 5) rfl fo_143_5) ?_
        refine wl (ro_loadAggB rfl ag_141 (by assumption) rfl rfl) ?_
        refine wl_call rfl en_98 (InGrid98) ?_
        rintro _ w7 ⟨rfl, F7⟩
        replace hF := hF.thenDrew.thenN F7
        replace hN := F7.blkN hN
        replace hV := F7.blkN hV
        replace h6 := F7.blkN h6
        replace h7 := F7.blkN h7
        refine wl (ro_not rfl) ?_
        refine wl_nil (x_then (hK11 _ _ ?_))
        clear hK11 K11
        refine wc_cond rfl (fun hc40 => ?_) (fun hc40 => ?_)
        · try simp only [decide_eq_true_eq, decide_eq_false_iff_not, Bool.not_eq_true', Bool.not_eq_false', Bool.not_eq_eq_eq_not, Bool.not_true, Bool.not_false, beq_iff_eq, bne_iff_ne, ne_eq, beq_eq_false_iff_ne, bne_eq_false_iff_eq, gt_iff_lt, ge_iff_le, Int.not_lt, Int.not_le] at hc40
          refine c_seq (fun K12 hK12 => ?_)
          refine c_reg ?_ -- region 9 eval.go:349
          refine wl_call rfl en_116 (Err116) ?_
          rintro _ w8 ⟨rfl, F8⟩
          replace hF := hF.thenDrew.thenN F8
          replace hN := F8.blkN hN
          replace hV := F8.blkN hV
          replace h6 := F8.blkN h6
          replace h7 := F8.blkN h7
          refine wl_puta rfl rfl ((by (try exact vlc_cells _); all_goals simp [Value.oneCell', i64c, icv, u64c, u8c, ptr, S])) sz_104 (rfl) h6 ((by simp)) (rfl) (fun w9 h6 F9 => ?_)
          replace hF := hF.thenDrew.thenO F9 (by first | exact .inr (by omega) | exact .inl rfl | exact .inl (by assumption))
          replace hN := F9.blkO hN (by omega)
          replace hV := F9.blkO hV (by omega)
          replace h7 := F9.blkO h7 (by omega)
          refine wl_nil (x_then (hK12 _ _ ?_))
          clear hK12 K12
          refine c_ret (x_thenR (x_blkR (x_thenR ?_)))
          refine bq_ret (res1 Tryz.results191 (rv_c rfl ag_104 (h6) rfl)) ?_
          exact ⟨by rw [ev_k3 (by rw [hxi]; exact hc35), hxi, if_neg (by rw [hc40]; decide)]; rfl, hF⟩
        · try simp only [decide_eq_true_eq, decide_eq_false_iff_not, Bool.not_eq_true', Bool.not_eq_false', Bool.not_eq_eq_eq_not, Bool.not_true, Bool.not_false, beq_iff_eq, bne_iff_ne, ne_eq, beq_eq_false_iff_ne, bne_eq_false_iff_eq, gt_iff_lt, ge_iff_le, Int.not_lt, Int.not_le] at hc40
          refine c_skip (x_then (hK10 _ _ ?_))
          clear hK10 K10
          refine forget [(2, _), (6, _), (7, _)] ⟨rfl, rfl, rfl, trivial⟩ (fun e => ?_)
          refine c_seq (fun K13 hK13 => ?_)
          refine c_reg ?_ -- region 10 eval.go:351
          refine wl (ro_move rfl) ?_
          refine wl (ro_fieldAddr (k := 5) rfl fo_143_5) ?_
          refine wl (ro_loadAggB rfl ag_141 (by assumption) rfl rfl) ?_
          refine wl_call rfl en_204 (CellOf204 hc40) ?_
          rintro _ u1 ⟨rfl, G1⟩
          replace hF := hF.transG G1 (by intro k hk h; simp only [one, none'] at h ⊢ <;> omega)
          replace hN := G1.blkF hN (by intro h; simp only [one, none'] at h <;> omega)
          replace hV := G1.blkF hV (by intro h; simp only [one, none'] at h <;> omega)
          replace h6 := G1.blkF h6 (by intro h; simp only [one, none'] at h <;> omega)
          replace h7 := G1.blkF h7 (by intro h; simp only [one, none'] at h <;> omega)
          have hcl := cell_lt hc40
          refine wl (ro_indexAddr (et := 104) (k := 3) rfl rfl se_86 rfl (by omega)) ?_
          refine wl (ro_loadAggB rfl ag_104 (hV) ((vlc_len _)) ((rw_agg vlc_len (env_get (EL := EL) (c := cellR x.p) (by omega)) (by omega)))) ?_
          refine wl_puta rfl rfl ((by (try exact vlc_cells _); all_goals simp [Value.oneCell', i64c, icv, u64c, u8c, ptr, S])) sz_104 (rfl) h6 ((by simp)) (rfl) (fun w10 h6 F10 => ?_)
          replace hF := hF.thenDrew.thenO F10 (by first | exact .inr (by omega) | exact .inl rfl | exact .inl (by assumption))
          replace hN := F10.blkO hN (by omega)
          replace hV := F10.blkO hV (by omega)
          replace h7 := F10.blkO h7 (by omega)
          refine wl_nil (x_then (hK13 _ _ ?_))
          clear hK13 K13
          refine c_ret (x_blkR (x_thenR ?_))
          refine bq_ret (res1 Tryz.results191 (rv_c rfl ag_104 (h6) rfl)) ?_
          exact ⟨by rw [ev_k3 (by rw [hxi]; exact hc35), hxi, if_pos hc40]; rfl, hF⟩
      · try simp only [decide_eq_true_eq, decide_eq_false_iff_not, Bool.not_eq_true', Bool.not_eq_false', Bool.not_eq_eq_eq_not, Bool.not_true, Bool.not_false, beq_iff_eq, bne_iff_ne, ne_eq, beq_eq_false_iff_ne, bne_eq_false_iff_eq, gt_iff_lt, ge_iff_le, Int.not_lt, Int.not_le] at hc35
        refine c_seq (fun K14 hK14 => ?_)
        refine c_reg ?_ -- region 11 eval.go:352
        refine wl (ro_cmp rfl rfl rfl) ?_
        refine wl (ro_assign rfl) ?_
        refine wl_nil (x_then (hK14 _ _ ?_))
        clear hK14 K14
        refine wc_cond rfl (fun hc48 => ?_) (fun hc48 => ?_)
        · try simp only [decide_eq_true_eq, decide_eq_false_iff_not, Bool.not_eq_true', Bool.not_eq_false', Bool.not_eq_eq_eq_not, Bool.not_true, Bool.not_false, beq_iff_eq, bne_iff_ne, ne_eq, beq_eq_false_iff_ne, bne_eq_false_iff_eq, gt_iff_lt, ge_iff_le, Int.not_lt, Int.not_le] at hc48
          obtain ⟨q1, q2, q3⟩ := sg_k6 hS hx hc48
          obtain ⟨C1, W1, hW1, hev1, -⟩ := (ev_law hLe hl24 f).1 _ _ _ q3 (sg_nr q3)
          refine c_seq (fun K15 hK15 => ?_)
          refine c_reg ?_ -- region 12 eval.go:353
          refine wl (ro_move rfl) ?_
          refine wl (ro_fieldAddr (k := 2) rfl fo_143_2) ?_
          refine wl (ro_loadB rfl sc_3 (by assumption) rfl) ?_
          refine wl (ro_move rfl) ?_
          refine wl_call rfl en_191 ((ih f (by omega)).1 (i := i - 1) (by omega) ⟨hN, hV, hP.el, hP.lw, hP.l24⟩ q3 (sg_nr q3)) ?_
          rintro _ u1 ⟨rfl, G1⟩
          rw [hev1 f 0 (Nat.le_refl _)]
          replace hF := hF.transG G1 (by intro k hk h; simp only [one, none'] at h ⊢ <;> omega)
          replace hN := G1.blkF hN (by intro h; simp only [one, none'] at h <;> omega)
          replace hV := G1.blkF hV (by intro h; simp only [one, none'] at h <;> omega)
          replace h6 := G1.blkF h6 (by intro h; simp only [one, none'] at h <;> omega)
          replace h7 := G1.blkF h7 (by intro h; simp only [one, none'] at h <;> omega)
          refine wl_new (ze_104) (fun b8 w11 hbb8 h8 F11 => ?_)
          have hbsb8 := Nat.le_trans hF.size hbb8
          have hnenbb8 : nb < b8 := Nat.lt_of_lt_of_le hN.lt hbb8
          have hnevbb8 : vb < b8 := Nat.lt_of_lt_of_le hV.lt hbb8
          have hneb6b8 : b6 < b8 := Nat.lt_of_lt_of_le h6.lt hbb8
          have hneb7b8 : b7 < b8 := Nat.lt_of_lt_of_le h7.lt hbb8
          replace hF := hF.thenDrew.thenN F11
          replace hN := F11.blkN hN
          replace hV := F11.blkN hV
          replace h6 := F11.blkN h6
          replace h7 := F11.blkN h7
          refine wl_puta rfl rfl ((by (try exact vlc_cells _); all_goals simp [Value.oneCell', i64c, icv, u64c, u8c, ptr, S])) sz_104 (rfl) h8 ((by simp)) (rfl) (fun w12 h8 F12 => ?_)
          replace hF := hF.thenDrew.thenO F12 (by first | exact .inr (by omega) | exact .inl rfl | exact .inl (by assumption))
          replace hN := F12.blkO hN (by omega)
          replace hV := F12.blkO hV (by omega)
          replace h6 := F12.blkO h6 (by omega)
          replace h7 := F12.blkO h7 (by omega)
          refine wl_nil (x_then (hK15 _ _ ?_))
          clear hK15 K15
          refine forget [(6, _), (8, _)] ⟨rfl, rfl, trivial⟩ (fun e => ?_)
          refine c_seq (fun K16 hK16 => ?_)
          refine c_reg ?_ -- region 13 eval.go:354
          refine wl (ro_loadAggB rfl ag_104 (by assumption) rfl rfl) ?_
          refine wl_call rfl en_213 (Unary213 (f := 0) hW1) ?_
          rintro _ w13 ⟨rfl, F13⟩
          replace hF := hF.thenDrew.thenN F13
          replace hN := F13.blkN hN
          replace hV := F13.blkN hV
          replace h6 := F13.blkN h6
          replace h7 := F13.blkN h7
          replace h8 := F13.blkN h8
          refine wl_puta rfl rfl ((by (try exact vlc_cells _); all_goals simp [Value.oneCell', i64c, icv, u64c, u8c, ptr, S])) sz_104 (rfl) h6 ((by simp)) (rfl) (fun w14 h6 F14 => ?_)
          replace hF := hF.thenDrew.thenO F14 (by first | exact .inr (by omega) | exact .inl rfl | exact .inl (by assumption))
          replace hN := F14.blkO hN (by omega)
          replace hV := F14.blkO hV (by omega)
          replace h7 := F14.blkO h7 (by omega)
          replace h8 := F14.blkO h8 (by omega)
          refine wl_nil (x_then (hK16 _ _ ?_))
          clear hK16 K16
          refine c_ret (x_blkR (x_thenR ?_))
          refine bq_ret (res1 Tryz.results191 (rv_c rfl ag_104 (h6) rfl)) ?_
          exact ⟨by rw [ev_k6 (by rw [hxi]; exact hc48), hxi, show x.a = ((i - 1 : Nat) : Int) by omega, hev1 f 0 (Nat.le_refl _)]; rfl, hF⟩
        · try simp only [decide_eq_true_eq, decide_eq_false_iff_not, Bool.not_eq_true', Bool.not_eq_false', Bool.not_eq_eq_eq_not, Bool.not_true, Bool.not_false, beq_iff_eq, bne_iff_ne, ne_eq, beq_eq_false_iff_ne, bne_eq_false_iff_eq, gt_iff_lt, ge_iff_le, Int.not_lt, Int.not_le] at hc48
          refine c_seq (fun K17 hK17 => ?_)
          refine c_reg ?_ -- region 14 eval.go:355
          refine wl (ro_cmp rfl rfl rfl) ?_
          refine wl (ro_assign rfl) ?_
          refine wl_nil (x_then (hK17 _ _ ?_))
          clear hK17 K17
          refine wc_cond rfl (fun hc57 => ?_) (fun hc57 => ?_)
          · try simp only [decide_eq_true_eq, decide_eq_false_iff_not, Bool.not_eq_true', Bool.not_eq_false', Bool.not_eq_eq_eq_not, Bool.not_true, Bool.not_false, beq_iff_eq, bne_iff_ne, ne_eq, beq_eq_false_iff_ne, bne_eq_false_iff_eq, gt_iff_lt, ge_iff_le, Int.not_lt, Int.not_le] at hc57
            obtain ⟨q1, q2, o, m, q3, q4, q5, q6, q7, q8, q9, q10⟩ := sg_k7 hS hx hc57
            obtain ⟨C1, W1, hW1, hev1, -⟩ := (ev_law hLe hl24 f).1 _ _ _ q10 (sg_nr q10)
            obtain ⟨C2, W2, hW2, hev2, -⟩ := (ev_law hLe hl24 f).1 _ _ _ q9 (sg_nr q9)
            refine c_seq (fun K18 hK18 => ?_)
            refine c_reg ?_ -- region 15 eval.go:356
            refine wl (ro_move rfl) ?_
            refine wl (ro_fieldAddr (k := 2) rfl fo_143_2) ?_
            refine wl (ro_loadB rfl sc_3 (by assumption) rfl) ?_
            refine wl (ro_move rfl) ?_
            refine wl_call rfl en_191 ((ih f (by omega)).1 (i := m - 1) (by omega) ⟨hN, hV, hP.el, hP.lw, hP.l24⟩ q10 (sg_nr q10)) ?_
            rintro _ u1 ⟨rfl, G1⟩
            rw [hev1 f 0 (Nat.le_refl _)]
            replace hF := hF.transG G1 (by intro k hk h; simp only [one, none'] at h ⊢ <;> omega)
            replace hN := G1.blkF hN (by intro h; simp only [one, none'] at h <;> omega)
            replace hV := G1.blkF hV (by intro h; simp only [one, none'] at h <;> omega)
            replace h6 := G1.blkF h6 (by intro h; simp only [one, none'] at h <;> omega)
            replace h7 := G1.blkF h7 (by intro h; simp only [one, none'] at h <;> omega)
            refine wl_new (ze_104) (fun b9 w15 hbb9 h9 F15 => ?_)
            have hbsb9 := Nat.le_trans hF.size hbb9
            have hnenbb9 : nb < b9 := Nat.lt_of_lt_of_le hN.lt hbb9
            have hnevbb9 : vb < b9 := Nat.lt_of_lt_of_le hV.lt hbb9
            have hneb6b9 : b6 < b9 := Nat.lt_of_lt_of_le h6.lt hbb9
            have hneb7b9 : b7 < b9 := Nat.lt_of_lt_of_le h7.lt hbb9
            replace hF := hF.thenDrew.thenN F15
            replace hN := F15.blkN hN
            replace hV := F15.blkN hV
            replace h6 := F15.blkN h6
            replace h7 := F15.blkN h7
            refine wl_puta rfl rfl ((by (try exact vlc_cells _); all_goals simp [Value.oneCell', i64c, icv, u64c, u8c, ptr, S])) sz_104 (rfl) h9 ((by simp)) (rfl) (fun w16 h9 F16 => ?_)
            replace hF := hF.thenDrew.thenO F16 (by first | exact .inr (by omega) | exact .inl rfl | exact .inl (by assumption))
            replace hN := F16.blkO hN (by omega)
            replace hV := F16.blkO hV (by omega)
            replace h6 := F16.blkO h6 (by omega)
            replace h7 := F16.blkO h7 (by omega)
            refine wl_nil (x_then (hK18 _ _ ?_))
            clear hK18 K18
            refine forget [(0, _), (2, _), (6, _), (7, _), (9, _)] ⟨rfl, rfl, rfl, rfl, rfl, trivial⟩ (fun e => ?_)
            refine c_seq (fun K19 hK19 => ?_)
            refine c_reg ?_ -- region 16 eval.go:357
            refine wl (ro_move rfl) ?_
            refine wl (ro_fieldAddr (k := 3) rfl fo_143_3) ?_
            refine wl (ro_loadB rfl sc_3 (by assumption) rfl) ?_
            refine wl (ro_move rfl) ?_
            refine wl_call rfl en_191 ((ih f (by omega)).1 (i := i - 1) (by omega) ⟨hN, hV, hP.el, hP.lw, hP.l24⟩ q9 (sg_nr q9)) ?_
            rintro _ u2 ⟨rfl, G2⟩
            rw [hev2 f 0 (Nat.le_refl _)]
            replace hF := hF.transG G2 (by intro k hk h; simp only [one, none'] at h ⊢ <;> omega)
            replace hN := G2.blkF hN (by intro h; simp only [one, none'] at h <;> omega)
            replace hV := G2.blkF hV (by intro h; simp only [one, none'] at h <;> omega)
            replace h6 := G2.blkF h6 (by intro h; simp only [one, none'] at h <;> omega)
            replace h7 := G2.blkF h7 (by intro h; simp only [one, none'] at h <;> omega)
            replace h9 := G2.blkF h9 (by intro h; simp only [one, none'] at h <;> omega)
            refine wl_new (ze_104) (fun b10 w17 hbb10 h10 F17 => ?_)
            have hbsb10 := Nat.le_trans hF.size hbb10
            have hnenbb10 : nb < b10 := Nat.lt_of_lt_of_le hN.lt hbb10
            have hnevbb10 : vb < b10 := Nat.lt_of_lt_of_le hV.lt hbb10
            have hneb6b10 : b6 < b10 := Nat.lt_of_lt_of_le h6.lt hbb10
            have hneb7b10 : b7 < b10 := Nat.lt_of_lt_of_le h7.lt hbb10
            have hneb9b10 : b9 < b10 := Nat.lt_of_lt_of_le h9.lt hbb10
            replace hF := hF.thenDrew.thenN F17
            replace hN := F17.blkN hN
            replace hV := F17.blkN hV
            replace h6 := F17.blkN h6
            replace h7 := F17.blkN h7
            replace h9 := F17.blkN h9
            refine wl_puta rfl rfl ((by (try exact vlc_cells _); all_goals simp [Value.oneCell', i64c, icv, u64c, u8c, ptr, S])) sz_104 (rfl) h10 ((by simp)) (rfl) (fun w18 h10 F18 => ?_)
            replace hF := hF.thenDrew.thenO F18 (by first | exact .inr (by omega) | exact .inl rfl | exact .inl (by assumption))
            replace hN := F18.blkO hN (by omega)
            replace hV := F18.blkO hV (by omega)
            replace h6 := F18.blkO h6 (by omega)
            replace h7 := F18.blkO h7 (by omega)
            replace h9 := F18.blkO h9 (by omega)
            refine wl_nil (x_then (hK19 _ _ ?_))
            clear hK19 K19
            refine forget [(6, _), (7, _), (9, _), (10, _)] ⟨rfl, rfl, rfl, rfl, trivial⟩ (fun e => ?_)
            refine c_seq (fun K20 hK20 => ?_)
            refine c_reg ?_ -- region 17 eval.go:358
            refine wl (ro_fieldAddr (k := 1) rfl fo_143_1) ?_
            refine wl (ro_loadB rfl sc_3 (by assumption) rfl) ?_
            refine wl (ro_loadAggB rfl ag_104 (by assumption) rfl rfl) ?_
            refine wl (ro_loadAggB rfl ag_104 (by assumption) rfl rfl) ?_
            refine wl_call rfl en_214 (BinaryI (op := o) q3 hW1 hW2 q5) ?_
            rintro _ w19 ⟨rfl, F19⟩
            replace hF := hF.thenDrew.thenN F19
            replace hN := F19.blkN hN
            replace hV := F19.blkN hV
            replace h6 := F19.blkN h6
            replace h7 := F19.blkN h7
            replace h9 := F19.blkN h9
            replace h10 := F19.blkN h10
            refine wl_puta rfl rfl ((by (try exact vlc_cells _); all_goals simp [Value.oneCell', i64c, icv, u64c, u8c, ptr, S])) sz_104 (rfl) h6 ((by simp)) (rfl) (fun w20 h6 F20 => ?_)
            replace hF := hF.thenDrew.thenO F20 (by first | exact .inr (by omega) | exact .inl rfl | exact .inl (by assumption))
            replace hN := F20.blkO hN (by omega)
            replace hV := F20.blkO hV (by omega)
            replace h7 := F20.blkO h7 (by omega)
            replace h9 := F20.blkO h9 (by omega)
            replace h10 := F20.blkO h10 (by omega)
            refine wl_nil (x_then (hK20 _ _ ?_))
            clear hK20 K20
            refine c_ret (x_blkR (x_thenR ?_))
            refine bq_ret (res1 Tryz.results191 (rv_c rfl ag_104 (h6) rfl)) ?_
            exact ⟨by rw [ev_k7 (by rw [hxi]; exact hc57), hxi, show x.a = ((m - 1 : Nat) : Int) by omega, show x.b = ((i - 1 : Nat) : Int) by omega, hev1 f 0 (Nat.le_refl _), hev2 f 0 (Nat.le_refl _), show x.o.toNat = o by omega]; rfl, hF⟩
          · try simp only [decide_eq_true_eq, decide_eq_false_iff_not, Bool.not_eq_true', Bool.not_eq_false', Bool.not_eq_eq_eq_not, Bool.not_true, Bool.not_false, beq_iff_eq, bne_iff_ne, ne_eq, beq_eq_false_iff_ne, bne_eq_false_iff_eq, gt_iff_lt, ge_iff_le, Int.not_lt, Int.not_le] at hc57
            refine c_seq (fun K21 hK21 => ?_)
            refine c_reg ?_ -- region 18 eval.go:359
            refine wl (ro_cmp rfl rfl rfl) ?_
            refine wl (ro_assign rfl) ?_
            refine wl_nil (x_then (hK21 _ _ ?_))
            clear hK21 K21
            refine wc_cond rfl (fun hc74 => ?_) (fun hc74 => ?_)
            · try simp only [decide_eq_true_eq, decide_eq_false_iff_not, Bool.not_eq_true', Bool.not_eq_false', Bool.not_eq_eq_eq_not, Bool.not_true, Bool.not_false, beq_iff_eq, bne_iff_ne, ne_eq, beq_eq_false_iff_ne, bne_eq_false_iff_eq, gt_iff_lt, ge_iff_le, Int.not_lt, Int.not_le] at hc74
              obtain ⟨q1, q2, fn, k, q3, q4, q5, q6⟩ := sg_k8 hS hx hc74
              have hfn := arity_fn q5
              have hev := ev_k8 (n := n) (env := envF EL) (g := f) (fn := 0) (i := (i : Nat)) (by rw [hxi]; exact hc74)
              rw [hxi] at hev
              obtain ⟨f3, x3, m3, rfl, hx3, k31, k32, k33, k34, k35, k36⟩ := sl_inv q6
              have hn3 : ndA n x.a = x3 := by rw [show x.a = ((i - 1 : Nat) : Int) by omega]; exact ndA_get hx3
              have hle3 := SgF.le _ _ _ _ _ _ k35
              rw [hn3] at hev
              refine c_seq (fun K22 hK22 => ?_)
              refine c_seq (fun K23 hK23 => ?_)
              refine c_reg ?_ -- region 19 eval.go:360
              refine wl (ro_fieldAddr (k := 1) rfl fo_143_1) ?_
              refine wl (ro_loadB rfl sc_3 (by assumption) rfl) ?_
              refine wl (ro_cmp rfl rfl rfl) ?_
              refine wl_nil (x_then (hK23 _ _ ?_))
              clear hK23 K23
              refine wc_cond rfl (fun hc78 => ?_) (fun hc78 => ?_)
              · try simp only [decide_eq_true_eq, decide_eq_false_iff_not, Bool.not_eq_true', Bool.not_eq_false', Bool.not_eq_eq_eq_not, Bool.not_true, Bool.not_false, beq_iff_eq, bne_iff_ne, ne_eq, beq_eq_false_iff_ne, bne_eq_false_iff_eq, gt_iff_lt, ge_iff_le, Int.not_lt, Int.not_le] at hc78
                have hf5 : fn = 5 := by omega
                have hk3 : k = 3 := by unfold arity at q5; rw [if_pos hf5] at q5; simpa using q5
                have hrk : rangeOK fn = false := by rw [hf5]; rfl
                rw [hrk] at k35 k36
                rw [hk3] at k36
                obtain ⟨p1, p2, p3⟩ : 1 ≤ m3 ∧ x3.b = ((m3 - 1 : Nat) : Int) ∧ SgF n f3 true 2 lo (m3 - 1) false := by
                  rcases k36 with h | ⟨-, h1, h2, h3⟩
                  · exact absurd h.1 (by decide)
                  · exact ⟨h1, h2, h3⟩
                obtain ⟨f2, x2, m2, rfl, hx2, k21, k22, k23, k24, k25, k26⟩ := sl_inv p3
                obtain ⟨r1, r2, r3⟩ : 1 ≤ m2 ∧ x2.b = ((m2 - 1 : Nat) : Int) ∧ SgF n f2 true 1 lo (m2 - 1) false := by
                  rcases k26 with h | ⟨-, h1, h2, h3⟩
                  · exact absurd h.1 (by decide)
                  · exact ⟨h1, h2, h3⟩
                obtain ⟨f1, x1, m1, rfl, hx1, k11, k12, k13, k14, k15, -⟩ := sl_inv r3
                have hn2 : ndA n x3.b = x2 := by rw [p2]; exact ndA_get hx2
                have hn1 : ndA n x2.b = x1 := by rw [r2]; exact ndA_get hx1
                rw [if_pos hc78, hn2, hn1, k33, k23, k13] at hev
                have hle2 := SgF.le _ _ _ _ _ _ k25
                have hle1 := SgF.le _ _ _ _ _ _ k15
                obtain ⟨C1, W1, hW1, hev1, -⟩ := (ev_law hLe hl24 _).1 _ _ _ k15 (sg_nr k15)
                obtain ⟨C2, W2, hW2, hev2, -⟩ := (ev_law hLe hl24 _).1 _ _ _ k25 (sg_nr k25)
                obtain ⟨C3, W3, hW3, hev3, -⟩ := (ev_law hLe hl24 _).1 _ _ _ k35 (sg_nr k35)
                refine c_seq (fun K24 hK24 => ?_)
                refine c_reg ?_ -- region 20 eval.go:361
                refine wl (ro_move rfl) ?_
                refine wl (ro_fieldAddr (k := 2) rfl fo_143_2) ?_
                refine wl (ro_loadB rfl sc_3 (by assumption) rfl) ?_
                refine wl (ro_indexAddr (et := 143) (k := 13) rfl rfl se_78 ((show x.a = ((i - 1 : Nat) : Int) by omega)) ((by omega))) ?_
                refine wl (ro_loadAggB rfl ag_143 (hN) ((ndc_len _)) ((rw_agg ndc_len hx3 (by omega)))) ?_
                refine wl_new (ze_143) (fun b11 w21 hbb11 h11 F21 => ?_)
                have hbsb11 := Nat.le_trans hF.size hbb11
                have hnenbb11 : nb < b11 := Nat.lt_of_lt_of_le hN.lt hbb11
                have hnevbb11 : vb < b11 := Nat.lt_of_lt_of_le hV.lt hbb11
                have hneb6b11 : b6 < b11 := Nat.lt_of_lt_of_le h6.lt hbb11
                have hneb7b11 : b7 < b11 := Nat.lt_of_lt_of_le h7.lt hbb11
                replace hF := hF.thenDrew.thenN F21
                replace hN := F21.blkN hN
                replace hV := F21.blkN hV
                replace h6 := F21.blkN h6
                replace h7 := F21.blkN h7
                refine wl_puta rfl rfl ((ndc_cells x3)) sz_143 (rfl) h11 ((by simp)) ((show _ = ndc x3 from rfl)) (fun w22 h11 F22 => ?_)
                replace hF := hF.thenDrew.thenO F22 (by first | exact .inr (by omega) | exact .inl rfl | exact .inl (by assumption))
                replace hN := F22.blkO hN (by omega)
                replace hV := F22.blkO hV (by omega)
                replace h6 := F22.blkO h6 (by omega)
                replace h7 := F22.blkO h7 (by omega)
                refine wl_nil (x_then (hK24 _ _ ?_))
                clear hK24 K24
                refine forget [(0, _), (2, _), (6, _), (11, _)] ⟨rfl, rfl, rfl, rfl, trivial⟩ (fun e => ?_)
                refine c_seq (fun K25 hK25 => ?_)
                refine c_reg ?_ -- region 21 eval.go:362
                refine wl (ro_move rfl) ?_
                refine wl (ro_fieldAddr (k := 3) rfl fo_143_3) ?_
                refine wl (ro_loadB rfl sc_3 (by assumption) rfl) ?_
                refine wl (ro_indexAddr (et := 143) (k := 13) rfl rfl se_78 (p2) ((by omega))) ?_
                refine wl (ro_loadAggB rfl ag_143 (hN) ((ndc_len _)) ((rw_agg ndc_len hx2 (by omega)))) ?_
                refine wl_new (ze_143) (fun b12 w23 hbb12 h12 F23 => ?_)
                have hbsb12 := Nat.le_trans hF.size hbb12
                have hnenbb12 : nb < b12 := Nat.lt_of_lt_of_le hN.lt hbb12
                have hnevbb12 : vb < b12 := Nat.lt_of_lt_of_le hV.lt hbb12
                have hneb6b12 : b6 < b12 := Nat.lt_of_lt_of_le h6.lt hbb12
                have hneb7b12 : b7 < b12 := Nat.lt_of_lt_of_le h7.lt hbb12
                have hneb11b12 : b11 < b12 := Nat.lt_of_lt_of_le h11.lt hbb12
                replace hF := hF.thenDrew.thenN F23
                replace hN := F23.blkN hN
                replace hV := F23.blkN hV
                replace h6 := F23.blkN h6
                replace h7 := F23.blkN h7
                replace h11 := F23.blkN h11
                refine wl_puta rfl rfl ((ndc_cells x2)) sz_143 (rfl) h12 ((by simp)) ((show _ = ndc x2 from rfl)) (fun w24 h12 F24 => ?_)
                replace hF := hF.thenDrew.thenO F24 (by first | exact .inr (by omega) | exact .inl rfl | exact .inl (by assumption))
                replace hN := F24.blkO hN (by omega)
                replace hV := F24.blkO hV (by omega)
                replace h6 := F24.blkO h6 (by omega)
                replace h7 := F24.blkO h7 (by omega)
                replace h11 := F24.blkO h11 (by omega)
                refine wl_nil (x_then (hK25 _ _ ?_))
                clear hK25 K25
                refine forget [(0, _), (2, _), (6, _), (11, _), (12, _)] ⟨rfl, rfl, rfl, rfl, rfl, trivial⟩ (fun e => ?_)
                refine c_seq (fun K26 hK26 => ?_)
                refine c_reg ?_ -- region 22 eval.go:363
                refine wl (ro_move rfl) ?_
                refine wl (ro_fieldAddr (k := 3) rfl fo_143_3) ?_
                refine wl (ro_loadB rfl sc_3 (by assumption) rfl) ?_
                refine wl (ro_indexAddr (et := 143) (k := 13) rfl rfl se_78 (r2) ((by omega))) ?_
                refine wl (ro_loadAggB rfl ag_143 (hN) ((ndc_len _)) ((rw_agg ndc_len hx1 (by omega)))) ?_
                refine wl_new (ze_143) (fun b13 w25 hbb13 h13 F25 => ?_)
                have hbsb13 := Nat.le_trans hF.size hbb13
                have hnenbb13 : nb < b13 := Nat.lt_of_lt_of_le hN.lt hbb13
                have hnevbb13 : vb < b13 := Nat.lt_of_lt_of_le hV.lt hbb13
                have hneb6b13 : b6 < b13 := Nat.lt_of_lt_of_le h6.lt hbb13
                have hneb7b13 : b7 < b13 := Nat.lt_of_lt_of_le h7.lt hbb13
                have hneb11b13 : b11 < b13 := Nat.lt_of_lt_of_le h11.lt hbb13
                have hneb12b13 : b12 < b13 := Nat.lt_of_lt_of_le h12.lt hbb13
                replace hF := hF.thenDrew.thenN F25
                replace hN := F25.blkN hN
                replace hV := F25.blkN hV
                replace h6 := F25.blkN h6
                replace h7 := F25.blkN h7
                replace h11 := F25.blkN h11
                replace h12 := F25.blkN h12
                refine wl_puta rfl rfl ((ndc_cells x1)) sz_143 (rfl) h13 ((by simp)) ((show _ = ndc x1 from rfl)) (fun w26 h13 F26 => ?_)
                replace hF := hF.thenDrew.thenO F26 (by first | exact .inr (by omega) | exact .inl rfl | exact .inl (by assumption))
                replace hN := F26.blkO hN (by omega)
                replace hV := F26.blkO hV (by omega)
                replace h6 := F26.blkO h6 (by omega)
                replace h7 := F26.blkO h7 (by omega)
                replace h11 := F26.blkO h11 (by omega)
                replace h12 := F26.blkO h12 (by omega)
                refine wl_nil (x_then (hK26 _ _ ?_))
                clear hK26 K26
                refine forget [(0, _), (2, _), (6, _), (11, _), (12, _), (13, _)] ⟨rfl, rfl, rfl, rfl, rfl, rfl, trivial⟩ (fun e => ?_)
                refine c_seq (fun K27 hK27 => ?_)
                refine c_reg ?_ -- region 23 eval.go:364
                refine wl (ro_move rfl) ?_
                refine wl (ro_fieldAddr (k := 2) rfl fo_143_2) ?_
                refine wl (ro_loadB rfl sc_3 (by assumption) rfl) ?_
                refine wl (ro_move rfl) ?_
                refine wl_call rfl en_191 ((ih _ (by omega)).1 k13 ⟨hN, hV, hP.el, hP.lw, hP.l24⟩ k15 (sg_nr k15)) ?_
                rintro _ u1 ⟨rfl, G1⟩
                rw [hev1 _ 0 (Nat.le_refl _)]
                replace hF := hF.transG G1 (by intro k hk h; simp only [one, none'] at h ⊢ <;> omega)
                replace hN := G1.blkF hN (by intro h; simp only [one, none'] at h <;> omega)
                replace hV := G1.blkF hV (by intro h; simp only [one, none'] at h <;> omega)
                replace h6 := G1.blkF h6 (by intro h; simp only [one, none'] at h <;> omega)
                replace h7 := G1.blkF h7 (by intro h; simp only [one, none'] at h <;> omega)
                replace h11 := G1.blkF h11 (by intro h; simp only [one, none'] at h <;> omega)
                replace h12 := G1.blkF h12 (by intro h; simp only [one, none'] at h <;> omega)
                replace h13 := G1.blkF h13 (by intro h; simp only [one, none'] at h <;> omega)
                refine wl_new (ze_104) (fun b14 w27 hbb14 h14 F27 => ?_)
                have hbsb14 := Nat.le_trans hF.size hbb14
                have hnenbb14 : nb < b14 := Nat.lt_of_lt_of_le hN.lt hbb14
                have hnevbb14 : vb < b14 := Nat.lt_of_lt_of_le hV.lt hbb14
                have hneb6b14 : b6 < b14 := Nat.lt_of_lt_of_le h6.lt hbb14
                have hneb7b14 : b7 < b14 := Nat.lt_of_lt_of_le h7.lt hbb14
                have hneb11b14 : b11 < b14 := Nat.lt_of_lt_of_le h11.lt hbb14
                have hneb12b14 : b12 < b14 := Nat.lt_of_lt_of_le h12.lt hbb14
                have hneb13b14 : b13 < b14 := Nat.lt_of_lt_of_le h13.lt hbb14
                replace hF := hF.thenDrew.thenN F27
                replace hN := F27.blkN hN
                replace hV := F27.blkN hV
                replace h6 := F27.blkN h6
                replace h7 := F27.blkN h7
                replace h11 := F27.blkN h11
                replace h12 := F27.blkN h12
                replace h13 := F27.blkN h13
                refine wl_puta rfl rfl ((by (try exact vlc_cells _); all_goals simp [Value.oneCell', i64c, icv, u64c, u8c, ptr, S])) sz_104 (rfl) h14 ((by simp)) (rfl) (fun w28 h14 F28 => ?_)
                replace hF := hF.thenDrew.thenO F28 (by first | exact .inr (by omega) | exact .inl rfl | exact .inl (by assumption))
                replace hN := F28.blkO hN (by omega)
                replace hV := F28.blkO hV (by omega)
                replace h6 := F28.blkO h6 (by omega)
                replace h7 := F28.blkO h7 (by omega)
                replace h11 := F28.blkO h11 (by omega)
                replace h12 := F28.blkO h12 (by omega)
                replace h13 := F28.blkO h13 (by omega)
                refine wl_nil (x_then (hK27 _ _ ?_))
                clear hK27 K27
                refine forget [(0, _), (2, _), (6, _), (11, _), (12, _), (14, _)] ⟨rfl, rfl, rfl, rfl, rfl, rfl, trivial⟩ (fun e => ?_)
                refine c_seq (fun K28 hK28 => ?_)
                refine c_reg ?_ -- region 24 eval.go:365
                refine wl (ro_move rfl) ?_
                refine wl (ro_fieldAddr (k := 2) rfl fo_143_2) ?_
                refine wl (ro_loadB rfl sc_3 (by assumption) rfl) ?_
                refine wl (ro_move rfl) ?_
                refine wl_call rfl en_191 ((ih _ (by omega)).1 k23 ⟨hN, hV, hP.el, hP.lw, hP.l24⟩ k25 (sg_nr k25)) ?_
                rintro _ u2 ⟨rfl, G2⟩
                rw [hev2 _ 0 (Nat.le_refl _)]
                replace hF := hF.transG G2 (by intro k hk h; simp only [one, none'] at h ⊢ <;> omega)
                replace hN := G2.blkF hN (by intro h; simp only [one, none'] at h <;> omega)
                replace hV := G2.blkF hV (by intro h; simp only [one, none'] at h <;> omega)
                replace h6 := G2.blkF h6 (by intro h; simp only [one, none'] at h <;> omega)
                replace h7 := G2.blkF h7 (by intro h; simp only [one, none'] at h <;> omega)
                replace h11 := G2.blkF h11 (by intro h; simp only [one, none'] at h <;> omega)
                replace h12 := G2.blkF h12 (by intro h; simp only [one, none'] at h <;> omega)
                replace h13 := G2.blkF h13 (by intro h; simp only [one, none'] at h <;> omega)
                replace h14 := G2.blkF h14 (by intro h; simp only [one, none'] at h <;> omega)
                refine wl_new (ze_104) (fun b15 w29 hbb15 h15 F29 => ?_)
                have hbsb15 := Nat.le_trans hF.size hbb15
                have hnenbb15 : nb < b15 := Nat.lt_of_lt_of_le hN.lt hbb15
                have hnevbb15 : vb < b15 := Nat.lt_of_lt_of_le hV.lt hbb15
                have hneb6b15 : b6 < b15 := Nat.lt_of_lt_of_le h6.lt hbb15
                have hneb7b15 : b7 < b15 := Nat.lt_of_lt_of_le h7.lt hbb15
                have hneb11b15 : b11 < b15 := Nat.lt_of_lt_of_le h11.lt hbb15
                have hneb12b15 : b12 < b15 := Nat.lt_of_lt_of_le h12.lt hbb15
                have hneb13b15 : b13 < b15 := Nat.lt_of_lt_of_le h13.lt hbb15
                have hneb14b15 : b14 < b15 := Nat.lt_of_lt_of_le h14.lt hbb15
                replace hF := hF.thenDrew.thenN F29
                replace hN := F29.blkN hN
                replace hV := F29.blkN hV
                replace h6 := F29.blkN h6
                replace h7 := F29.blkN h7
                replace h11 := F29.blkN h11
                replace h12 := F29.blkN h12
                replace h13 := F29.blkN h13
                replace h14 := F29.blkN h14
                refine wl_puta rfl rfl ((by (try exact vlc_cells _); all_goals simp [Value.oneCell', i64c, icv, u64c, u8c, ptr, S])) sz_104 (rfl) h15 ((by simp)) (rfl) (fun w30 h15 F30 => ?_)
                replace hF := hF.thenDrew.thenO F30 (by first | exact .inr (by omega) | exact .inl rfl | exact .inl (by assumption))
                replace hN := F30.blkO hN (by omega)
                replace hV := F30.blkO hV (by omega)
                replace h6 := F30.blkO h6 (by omega)
                replace h7 := F30.blkO h7 (by omega)
                replace h11 := F30.blkO h11 (by omega)
                replace h12 := F30.blkO h12 (by omega)
                replace h13 := F30.blkO h13 (by omega)
                replace h14 := F30.blkO h14 (by omega)
                refine wl_nil (x_then (hK28 _ _ ?_))
                clear hK28 K28
                refine forget [(0, _), (2, _), (6, _), (11, _), (14, _), (15, _)] ⟨rfl, rfl, rfl, rfl, rfl, rfl, trivial⟩ (fun e => ?_)
                refine c_seq (fun K29 hK29 => ?_)
                refine c_reg ?_ -- region 25 eval.go:366
                refine wl (ro_move rfl) ?_
                refine wl (ro_fieldAddr (k := 2) rfl fo_143_2) ?_
                refine wl (ro_loadB rfl sc_3 (by assumption) rfl) ?_
                refine wl (ro_move rfl) ?_
                refine wl_call rfl en_191 ((ih _ (by omega)).1 k33 ⟨hN, hV, hP.el, hP.lw, hP.l24⟩ k35 (sg_nr k35)) ?_
                rintro _ u3 ⟨rfl, G3⟩
                rw [hev3 _ 0 (Nat.le_refl _)]
                replace hF := hF.transG G3 (by intro k hk h; simp only [one, none'] at h ⊢ <;> omega)
                replace hN := G3.blkF hN (by intro h; simp only [one, none'] at h <;> omega)
                replace hV := G3.blkF hV (by intro h; simp only [one, none'] at h <;> omega)
                replace h6 := G3.blkF h6 (by intro h; simp only [one, none'] at h <;> omega)
                replace h7 := G3.blkF h7 (by intro h; simp only [one, none'] at h <;> omega)
                replace h11 := G3.blkF h11 (by intro h; simp only [one, none'] at h <;> omega)
                replace h12 := G3.blkF h12 (by intro h; simp only [one, none'] at h <;> omega)
                replace h13 := G3.blkF h13 (by intro h; simp only [one, none'] at h <;> omega)
                replace h14 := G3.blkF h14 (by intro h; simp only [one, none'] at h <;> omega)
                replace h15 := G3.blkF h15 (by intro h; simp only [one, none'] at h <;> omega)
                refine wl_new (ze_104) (fun b16 w31 hbb16 h16 F31 => ?_)
                have hbsb16 := Nat.le_trans hF.size hbb16
                have hnenbb16 : nb < b16 := Nat.lt_of_lt_of_le hN.lt hbb16
                have hnevbb16 : vb < b16 := Nat.lt_of_lt_of_le hV.lt hbb16
                have hneb6b16 : b6 < b16 := Nat.lt_of_lt_of_le h6.lt hbb16
                have hneb7b16 : b7 < b16 := Nat.lt_of_lt_of_le h7.lt hbb16
                have hneb11b16 : b11 < b16 := Nat.lt_of_lt_of_le h11.lt hbb16
                have hneb12b16 : b12 < b16 := Nat.lt_of_lt_of_le h12.lt hbb16
                have hneb13b16 : b13 < b16 := Nat.lt_of_lt_of_le h13.lt hbb16
                have hneb14b16 : b14 < b16 := Nat.lt_of_lt_of_le h14.lt hbb16
                have hneb15b16 : b15 < b16 := Nat.lt_of_lt_of_le h15.lt hbb16
                replace hF := hF.thenDrew.thenN F31
                replace hN := F31.blkN hN
                replace hV := F31.blkN hV
                replace h6 := F31.blkN h6
                replace h7 := F31.blkN h7
                replace h11 := F31.blkN h11
                replace h12 := F31.blkN h12
                replace h13 := F31.blkN h13
                replace h14 := F31.blkN h14
                replace h15 := F31.blkN h15
                refine wl_puta rfl rfl ((by (try exact vlc_cells _); all_goals simp [Value.oneCell', i64c, icv, u64c, u8c, ptr, S])) sz_104 (rfl) h16 ((by simp)) (rfl) (fun w32 h16 F32 => ?_)
                replace hF := hF.thenDrew.thenO F32 (by first | exact .inr (by omega) | exact .inl rfl | exact .inl (by assumption))
                replace hN := F32.blkO hN (by omega)
                replace hV := F32.blkO hV (by omega)
                replace h6 := F32.blkO h6 (by omega)
                replace h7 := F32.blkO h7 (by omega)
                replace h11 := F32.blkO h11 (by omega)
                replace h12 := F32.blkO h12 (by omega)
                replace h13 := F32.blkO h13 (by omega)
                replace h14 := F32.blkO h14 (by omega)
                replace h15 := F32.blkO h15 (by omega)
                refine wl_nil (x_then (hK29 _ _ ?_))
                clear hK29 K29
                refine forget [(6, _), (14, _), (15, _), (16, _)] ⟨rfl, rfl, rfl, rfl, trivial⟩ (fun e => ?_)
                refine c_seq (fun K30 hK30 => ?_)
                refine c_reg ?_ -- region 26 eval.go:367
                refine wl (ro_loadAggB rfl ag_104 (by assumption) rfl rfl) ?_
                refine wl (ro_loadAggB rfl ag_104 (by assumption) rfl rfl) ?_
                refine wl (ro_loadAggB rfl ag_104 (by assumption) rfl rfl) ?_
                refine wl_call rfl en_215 (Choose215) ?_
                rintro _ w33 ⟨rfl, F33⟩
                replace hF := hF.thenDrew.thenN F33
                replace hN := F33.blkN hN
                replace hV := F33.blkN hV
                replace h6 := F33.blkN h6
                replace h7 := F33.blkN h7
                replace h11 := F33.blkN h11
                replace h12 := F33.blkN h12
                replace h13 := F33.blkN h13
                replace h14 := F33.blkN h14
                replace h15 := F33.blkN h15
                replace h16 := F33.blkN h16
                refine wl_puta rfl rfl ((by (try exact vlc_cells _); all_goals simp [Value.oneCell', i64c, icv, u64c, u8c, ptr, S])) sz_104 (rfl) h6 ((by simp)) (rfl) (fun w34 h6 F34 => ?_)
                replace hF := hF.thenDrew.thenO F34 (by first | exact .inr (by omega) | exact .inl rfl | exact .inl (by assumption))
                replace hN := F34.blkO hN (by omega)
                replace hV := F34.blkO hV (by omega)
                replace h7 := F34.blkO h7 (by omega)
                replace h11 := F34.blkO h11 (by omega)
                replace h12 := F34.blkO h12 (by omega)
                replace h13 := F34.blkO h13 (by omega)
                replace h14 := F34.blkO h14 (by omega)
                replace h15 := F34.blkO h15 (by omega)
                replace h16 := F34.blkO h16 (by omega)
                refine wl_nil (x_then (hK30 _ _ ?_))
                clear hK30 K30
                refine c_ret (x_thenR (x_blkR (x_thenR ?_)))
                refine bq_ret (res1 Tryz.results191 (rv_c rfl ag_104 (h6) rfl)) ?_
                exact ⟨by rw [hev, hev1 _ 0 (by omega), hev2 _ 0 (by omega), hev3 _ 0 (by omega)]; rfl, hF⟩
              · try simp only [decide_eq_true_eq, decide_eq_false_iff_not, Bool.not_eq_true', Bool.not_eq_false', Bool.not_eq_eq_eq_not, Bool.not_true, Bool.not_false, beq_iff_eq, bne_iff_ne, ne_eq, beq_eq_false_iff_ne, bne_eq_false_iff_eq, gt_iff_lt, ge_iff_le, Int.not_lt, Int.not_le] at hc78
                rw [if_neg hc78, show x.o.toNat = fn by omega] at hev
                refine c_skip (x_then (hK22 _ _ ?_))
                clear hK22 K22
                refine c_seq (fun K31 hK31 => ?_)
                refine c_seq (fun K32 hK32 => ?_)
                refine c_reg ?_ -- region 27 eval.go:369
                refine wl (ro_fieldAddr (k := 1) rfl fo_143_1) ?_
                refine wl (ro_loadB rfl sc_3 (by assumption) rfl) ?_
                refine wl (ro_cmp rfl rfl rfl) ?_
                refine wl_fork rfl (fun hg116 => ?_) (fun hg116 => ?_)
                · try simp only [decide_eq_true_eq, decide_eq_false_iff_not, Bool.not_eq_true', Bool.not_eq_false', Bool.not_eq_eq_eq_not, Bool.not_true, Bool.not_false, beq_iff_eq, bne_iff_ne, ne_eq, beq_eq_false_iff_ne, bne_eq_false_iff_eq, gt_iff_lt, ge_iff_le, Int.not_lt, Int.not_le] at hg116
                  refine wlg_no rfl ?_
                  refine wlg_no rfl ?_
                  refine wlg_no rfl ?_
                  refine wl (ro_pick rfl rfl rfl) ?_
                  refine wl (ro_move rfl) ?_
                  refine wlg_no rfl ?_
                  refine wlg_no rfl ?_
                  refine wlg_no rfl ?_
                  refine wl (ro_pick rfl rfl rfl) ?_
                  refine wl_nil (x_then (hK32 _ _ ?_))
                  clear hK32 K32
                  refine wc_condT rfl ?_
                  refine c_seq (fun K33 hK33 => ?_)
                  have hf8 : fn = 8 ∨ fn = 9 ∨ fn = 10 := by omega
                  have htf : tallF fn = false := by unfold tallF; simp; omega
                  have hrk : rangeOK fn = false := by unfold rangeOK; simp; omega
                  rw [hrk] at k35
                  rw [if_neg (by rw [htf]; decide), k33] at hev
                  obtain ⟨C3, W3, hW3, hev3, -⟩ := (ev_law hLe hl24 _).1 _ _ _ k35 (sg_nr k35)
                  refine c_reg ?_ -- region 28 eval.go:370
                  refine wl (ro_move rfl) ?_
                  refine wl (ro_move rfl) ?_
                  refine wl (ro_fieldAddr (k := 2) rfl fo_143_2) ?_
                  refine wl (ro_loadB rfl sc_3 (by assumption) rfl) ?_
                  refine wl (ro_indexAddr (et := 143) (k := 13) rfl rfl se_78 ((show x.a = ((i - 1 : Nat) : Int) by omega)) ((by omega))) ?_
                  refine wl (ro_fieldAddr (k := 2) rfl fo_143_2) ?_
                  refine wl (ro_loadB rfl sc_3 (hN) ((rw_get ndc_len hx3 (j := 2) (by omega) rfl))) ?_
                  refine wl (ro_move rfl) ?_
                  refine wl_call rfl en_191 ((ih _ (by omega)).1 k33 ⟨hN, hV, hP.el, hP.lw, hP.l24⟩ k35 (sg_nr k35)) ?_
                  rintro _ u3 ⟨rfl, G3⟩
                  rw [hev3 _ 0 (Nat.le_refl _)]
                  replace hF := hF.transG G3 (by intro k hk h; simp only [one, none'] at h ⊢ <;> omega)
                  replace hN := G3.blkF hN (by intro h; simp only [one, none'] at h <;> omega)
                  replace hV := G3.blkF hV (by intro h; simp only [one, none'] at h <;> omega)
                  replace h6 := G3.blkF h6 (by intro h; simp only [one, none'] at h <;> omega)
                  replace h7 := G3.blkF h7 (by intro h; simp only [one, none'] at h <;> omega)
                  refine wl_new (ze_104) (fun b17 w35 hbb17 h17 F35 => ?_)
                  have hbsb17 := Nat.le_trans hF.size hbb17
                  have hnenbb17 : nb < b17 := Nat.lt_of_lt_of_le hN.lt hbb17
                  have hnevbb17 : vb < b17 := Nat.lt_of_lt_of_le hV.lt hbb17
                  have hneb6b17 : b6 < b17 := Nat.lt_of_lt_of_le h6.lt hbb17
                  have hneb7b17 : b7 < b17 := Nat.lt_of_lt_of_le h7.lt hbb17
                  replace hF := hF.thenDrew.thenN F35
                  replace hN := F35.blkN hN
                  replace hV := F35.blkN hV
                  replace h6 := F35.blkN h6
                  replace h7 := F35.blkN h7
                  refine wl_puta rfl rfl ((by (try exact vlc_cells _); all_goals simp [Value.oneCell', i64c, icv, u64c, u8c, ptr, S])) sz_104 (rfl) h17 ((by simp)) (rfl) (fun w36 h17 F36 => ?_)
                  replace hF := hF.thenDrew.thenO F36 (by first | exact .inr (by omega) | exact .inl rfl | exact .inl (by assumption))
                  replace hN := F36.blkO hN (by omega)
                  replace hV := F36.blkO hV (by omega)
                  replace h6 := F36.blkO h6 (by omega)
                  replace h7 := F36.blkO h7 (by omega)
                  refine wl_nil (x_then (hK33 _ _ ?_))
                  clear hK33 K33
                  refine forget [(6, _), (7, _), (17, _)] ⟨rfl, rfl, rfl, trivial⟩ (fun e => ?_)
                  refine c_seq (fun K34 hK34 => ?_)
                  refine c_reg ?_ -- region 29 eval.go:371
                  refine wl (ro_fieldAddr (k := 1) rfl fo_143_1) ?_
                  refine wl (ro_loadB rfl sc_3 (by assumption) rfl) ?_
                  refine wl (ro_loadAggB rfl ag_104 (by assumption) rfl rfl) ?_
                  refine wl_call rfl en_213 (UnaryI (f := fn) q3 hW3) ?_
                  rintro _ w37 ⟨rfl, F37⟩
                  replace hF := hF.thenDrew.thenN F37
                  replace hN := F37.blkN hN
                  replace hV := F37.blkN hV
                  replace h6 := F37.blkN h6
                  replace h7 := F37.blkN h7
                  replace h17 := F37.blkN h17
                  refine wl_puta rfl rfl ((by (try exact vlc_cells _); all_goals simp [Value.oneCell', i64c, icv, u64c, u8c, ptr, S])) sz_104 (rfl) h6 ((by simp)) (rfl) (fun w38 h6 F38 => ?_)
                  replace hF := hF.thenDrew.thenO F38 (by first | exact .inr (by omega) | exact .inl rfl | exact .inl (by assumption))
                  replace hN := F38.blkO hN (by omega)
                  replace hV := F38.blkO hV (by omega)
                  replace h7 := F38.blkO h7 (by omega)
                  replace h17 := F38.blkO h17 (by omega)
                  refine wl_nil (x_then (hK34 _ _ ?_))
                  clear hK34 K34
                  refine c_ret (x_thenR (x_blkR (x_thenR ?_)))
                  refine bq_ret (res1 Tryz.results191 (rv_c rfl ag_104 (h6) rfl)) ?_
                  exact ⟨by rw [hev, hev3 _ 0 (by omega)]; rfl, hF⟩
                · try simp only [decide_eq_true_eq, decide_eq_false_iff_not, Bool.not_eq_true', Bool.not_eq_false', Bool.not_eq_eq_eq_not, Bool.not_true, Bool.not_false, beq_iff_eq, bne_iff_ne, ne_eq, beq_eq_false_iff_ne, bne_eq_false_iff_eq, gt_iff_lt, ge_iff_le, Int.not_lt, Int.not_le] at hg116
                  refine wlg_yes rfl (ro_fieldAddr (k := 1) rfl fo_143_1) ?_
                  refine wlg_yes rfl (ro_loadB rfl sc_3 (by assumption) rfl) ?_
                  refine wlg_yes rfl (ro_cmp rfl rfl rfl) ?_
                  refine wl (ro_pick rfl rfl rfl) ?_
                  refine wl_fork rfl (fun hg121 => ?_) (fun hg121 => ?_)
                  · try simp only [decide_eq_true_eq, decide_eq_false_iff_not, Bool.not_eq_true', Bool.not_eq_false', Bool.not_eq_eq_eq_not, Bool.not_true, Bool.not_false, beq_iff_eq, bne_iff_ne, ne_eq, beq_eq_false_iff_ne, bne_eq_false_iff_eq, gt_iff_lt, ge_iff_le, Int.not_lt, Int.not_le] at hg121
                    refine wlg_no rfl ?_
                    refine wlg_no rfl ?_
                    refine wlg_no rfl ?_
                    refine wl (ro_pick rfl rfl rfl) ?_
                    refine wl_nil (x_then (hK32 _ _ ?_))
                    clear hK32 K32
                    refine wc_condT rfl ?_
                    refine c_seq (fun K35 hK35 => ?_)
                    have hf8 : fn = 8 ∨ fn = 9 ∨ fn = 10 := by omega
                    have htf : tallF fn = false := by unfold tallF; simp; omega
                    have hrk : rangeOK fn = false := by unfold rangeOK; simp; omega
                    rw [hrk] at k35
                    rw [if_neg (by rw [htf]; decide), k33] at hev
                    obtain ⟨C3, W3, hW3, hev3, -⟩ := (ev_law hLe hl24 _).1 _ _ _ k35 (sg_nr k35)
                    refine c_reg ?_ -- region 28 eval.go:370
                    refine wl (ro_move rfl) ?_
                    refine wl (ro_move rfl) ?_
                    refine wl (ro_fieldAddr (k := 2) rfl fo_143_2) ?_
                    refine wl (ro_loadB rfl sc_3 (by assumption) rfl) ?_
                    refine wl (ro_indexAddr (et := 143) (k := 13) rfl rfl se_78 ((show x.a = ((i - 1 : Nat) : Int) by omega)) ((by omega))) ?_
                    refine wl (ro_fieldAddr (k := 2) rfl fo_143_2) ?_
                    refine wl (ro_loadB rfl sc_3 (hN) ((rw_get ndc_len hx3 (j := 2) (by omega) rfl))) ?_
                    refine wl (ro_move rfl) ?_
                    refine wl_call rfl en_191 ((ih _ (by omega)).1 k33 ⟨hN, hV, hP.el, hP.lw, hP.l24⟩ k35 (sg_nr k35)) ?_
                    rintro _ u3 ⟨rfl, G3⟩
                    rw [hev3 _ 0 (Nat.le_refl _)]
                    replace hF := hF.transG G3 (by intro k hk h; simp only [one, none'] at h ⊢ <;> omega)
                    replace hN := G3.blkF hN (by intro h; simp only [one, none'] at h <;> omega)
                    replace hV := G3.blkF hV (by intro h; simp only [one, none'] at h <;> omega)
                    replace h6 := G3.blkF h6 (by intro h; simp only [one, none'] at h <;> omega)
                    replace h7 := G3.blkF h7 (by intro h; simp only [one, none'] at h <;> omega)
                    refine wl_new (ze_104) (fun b17 w39 hbb17 h17 F39 => ?_)
                    have hbsb17 := Nat.le_trans hF.size hbb17
                    have hnenbb17 : nb < b17 := Nat.lt_of_lt_of_le hN.lt hbb17
                    have hnevbb17 : vb < b17 := Nat.lt_of_lt_of_le hV.lt hbb17
                    have hneb6b17 : b6 < b17 := Nat.lt_of_lt_of_le h6.lt hbb17
                    have hneb7b17 : b7 < b17 := Nat.lt_of_lt_of_le h7.lt hbb17
                    replace hF := hF.thenDrew.thenN F39
                    replace hN := F39.blkN hN
                    replace hV := F39.blkN hV
                    replace h6 := F39.blkN h6
                    replace h7 := F39.blkN h7
                    refine wl_puta rfl rfl ((by (try exact vlc_cells _); all_goals simp [Value.oneCell', i64c, icv, u64c, u8c, ptr, S])) sz_104 (rfl) h17 ((by simp)) (rfl) (fun w40 h17 F40 => ?_)
                    replace hF := hF.thenDrew.thenO F40 (by first | exact .inr (by omega) | exact .inl rfl | exact .inl (by assumption))
                    replace hN := F40.blkO hN (by omega)
                    replace hV := F40.blkO hV (by omega)
                    replace h6 := F40.blkO h6 (by omega)
                    replace h7 := F40.blkO h7 (by omega)
                    refine wl_nil (x_then (hK35 _ _ ?_))
                    clear hK35 K35
                    refine forget [(6, _), (7, _), (17, _)] ⟨rfl, rfl, rfl, trivial⟩ (fun e => ?_)
                    refine c_seq (fun K36 hK36 => ?_)
                    refine c_reg ?_ -- region 29 eval.go:371
                    refine wl (ro_fieldAddr (k := 1) rfl fo_143_1) ?_
                    refine wl (ro_loadB rfl sc_3 (by assumption) rfl) ?_
                    refine wl (ro_loadAggB rfl ag_104 (by assumption) rfl rfl) ?_
                    refine wl_call rfl en_213 (UnaryI (f := fn) q3 hW3) ?_
                    rintro _ w41 ⟨rfl, F41⟩
                    replace hF := hF.thenDrew.thenN F41
                    replace hN := F41.blkN hN
                    replace hV := F41.blkN hV
                    replace h6 := F41.blkN h6
                    replace h7 := F41.blkN h7
                    replace h17 := F41.blkN h17
                    refine wl_puta rfl rfl ((by (try exact vlc_cells _); all_goals simp [Value.oneCell', i64c, icv, u64c, u8c, ptr, S])) sz_104 (rfl) h6 ((by simp)) (rfl) (fun w42 h6 F42 => ?_)
                    replace hF := hF.thenDrew.thenO F42 (by first | exact .inr (by omega) | exact .inl rfl | exact .inl (by assumption))
                    replace hN := F42.blkO hN (by omega)
                    replace hV := F42.blkO hV (by omega)
                    replace h7 := F42.blkO h7 (by omega)
                    replace h17 := F42.blkO h17 (by omega)
                    refine wl_nil (x_then (hK36 _ _ ?_))
                    clear hK36 K36
                    refine c_ret (x_thenR (x_blkR (x_thenR ?_)))
                    refine bq_ret (res1 Tryz.results191 (rv_c rfl ag_104 (h6) rfl)) ?_
                    exact ⟨by rw [hev, hev3 _ 0 (by omega)]; rfl, hF⟩
                  · try simp only [decide_eq_true_eq, decide_eq_false_iff_not, Bool.not_eq_true', Bool.not_eq_false', Bool.not_eq_eq_eq_not, Bool.not_true, Bool.not_false, beq_iff_eq, bne_iff_ne, ne_eq, beq_eq_false_iff_ne, bne_eq_false_iff_eq, gt_iff_lt, ge_iff_le, Int.not_lt, Int.not_le] at hg121
                    refine wlg_yes rfl (ro_fieldAddr (k := 1) rfl fo_143_1) ?_
                    refine wlg_yes rfl (ro_loadB rfl sc_3 (by assumption) rfl) ?_
                    refine wlg_yes rfl (ro_cmp rfl rfl rfl) ?_
                    refine wl (ro_pick rfl rfl rfl) ?_
                    refine wl_nil (x_then (hK32 _ _ ?_))
                    clear hK32 K32
                    refine wc_cond rfl (fun hc125 => ?_) (fun hc125 => ?_)
                    · try simp only [decide_eq_true_eq, decide_eq_false_iff_not, Bool.not_eq_true', Bool.not_eq_false', Bool.not_eq_eq_eq_not, Bool.not_true, Bool.not_false, beq_iff_eq, bne_iff_ne, ne_eq, beq_eq_false_iff_ne, bne_eq_false_iff_eq, gt_iff_lt, ge_iff_le, Int.not_lt, Int.not_le] at hc125
                      refine c_seq (fun K37 hK37 => ?_)
                      have hf8 : fn = 8 ∨ fn = 9 ∨ fn = 10 := by omega
                      have htf : tallF fn = false := by unfold tallF; simp; omega
                      have hrk : rangeOK fn = false := by unfold rangeOK; simp; omega
                      rw [hrk] at k35
                      rw [if_neg (by rw [htf]; decide), k33] at hev
                      obtain ⟨C3, W3, hW3, hev3, -⟩ := (ev_law hLe hl24 _).1 _ _ _ k35 (sg_nr k35)
                      refine c_reg ?_ -- region 28 eval.go:370
                      refine wl (ro_move rfl) ?_
                      refine wl (ro_move rfl) ?_
                      refine wl (ro_fieldAddr (k := 2) rfl fo_143_2) ?_
                      refine wl (ro_loadB rfl sc_3 (by assumption) rfl) ?_
                      refine wl (ro_indexAddr (et := 143) (k := 13) rfl rfl se_78 ((show x.a = ((i - 1 : Nat) : Int) by omega)) ((by omega))) ?_
                      refine wl (ro_fieldAddr (k := 2) rfl fo_143_2) ?_
                      refine wl (ro_loadB rfl sc_3 (hN) ((rw_get ndc_len hx3 (j := 2) (by omega) rfl))) ?_
                      refine wl (ro_move rfl) ?_
                      refine wl_call rfl en_191 ((ih _ (by omega)).1 k33 ⟨hN, hV, hP.el, hP.lw, hP.l24⟩ k35 (sg_nr k35)) ?_
                      rintro _ u3 ⟨rfl, G3⟩
                      rw [hev3 _ 0 (Nat.le_refl _)]
                      replace hF := hF.transG G3 (by intro k hk h; simp only [one, none'] at h ⊢ <;> omega)
                      replace hN := G3.blkF hN (by intro h; simp only [one, none'] at h <;> omega)
                      replace hV := G3.blkF hV (by intro h; simp only [one, none'] at h <;> omega)
                      replace h6 := G3.blkF h6 (by intro h; simp only [one, none'] at h <;> omega)
                      replace h7 := G3.blkF h7 (by intro h; simp only [one, none'] at h <;> omega)
                      refine wl_new (ze_104) (fun b17 w43 hbb17 h17 F43 => ?_)
                      have hbsb17 := Nat.le_trans hF.size hbb17
                      have hnenbb17 : nb < b17 := Nat.lt_of_lt_of_le hN.lt hbb17
                      have hnevbb17 : vb < b17 := Nat.lt_of_lt_of_le hV.lt hbb17
                      have hneb6b17 : b6 < b17 := Nat.lt_of_lt_of_le h6.lt hbb17
                      have hneb7b17 : b7 < b17 := Nat.lt_of_lt_of_le h7.lt hbb17
                      replace hF := hF.thenDrew.thenN F43
                      replace hN := F43.blkN hN
                      replace hV := F43.blkN hV
                      replace h6 := F43.blkN h6
                      replace h7 := F43.blkN h7
                      refine wl_puta rfl rfl ((by (try exact vlc_cells _); all_goals simp [Value.oneCell', i64c, icv, u64c, u8c, ptr, S])) sz_104 (rfl) h17 ((by simp)) (rfl) (fun w44 h17 F44 => ?_)
                      replace hF := hF.thenDrew.thenO F44 (by first | exact .inr (by omega) | exact .inl rfl | exact .inl (by assumption))
                      replace hN := F44.blkO hN (by omega)
                      replace hV := F44.blkO hV (by omega)
                      replace h6 := F44.blkO h6 (by omega)
                      replace h7 := F44.blkO h7 (by omega)
                      refine wl_nil (x_then (hK37 _ _ ?_))
                      clear hK37 K37
                      refine forget [(6, _), (7, _), (17, _)] ⟨rfl, rfl, rfl, trivial⟩ (fun e => ?_)
                      refine c_seq (fun K38 hK38 => ?_)
                      refine c_reg ?_ -- region 29 eval.go:371
                      refine wl (ro_fieldAddr (k := 1) rfl fo_143_1) ?_
                      refine wl (ro_loadB rfl sc_3 (by assumption) rfl) ?_
                      refine wl (ro_loadAggB rfl ag_104 (by assumption) rfl rfl) ?_
                      refine wl_call rfl en_213 (UnaryI (f := fn) q3 hW3) ?_
                      rintro _ w45 ⟨rfl, F45⟩
                      replace hF := hF.thenDrew.thenN F45
                      replace hN := F45.blkN hN
                      replace hV := F45.blkN hV
                      replace h6 := F45.blkN h6
                      replace h7 := F45.blkN h7
                      replace h17 := F45.blkN h17
                      refine wl_puta rfl rfl ((by (try exact vlc_cells _); all_goals simp [Value.oneCell', i64c, icv, u64c, u8c, ptr, S])) sz_104 (rfl) h6 ((by simp)) (rfl) (fun w46 h6 F46 => ?_)
                      replace hF := hF.thenDrew.thenO F46 (by first | exact .inr (by omega) | exact .inl rfl | exact .inl (by assumption))
                      replace hN := F46.blkO hN (by omega)
                      replace hV := F46.blkO hV (by omega)
                      replace h7 := F46.blkO h7 (by omega)
                      replace h17 := F46.blkO h17 (by omega)
                      refine wl_nil (x_then (hK38 _ _ ?_))
                      clear hK38 K38
                      refine c_ret (x_thenR (x_blkR (x_thenR ?_)))
                      refine bq_ret (res1 Tryz.results191 (rv_c rfl ag_104 (h6) rfl)) ?_
                      exact ⟨by rw [hev, hev3 _ 0 (by omega)]; rfl, hF⟩
                    · try simp only [decide_eq_true_eq, decide_eq_false_iff_not, Bool.not_eq_true', Bool.not_eq_false', Bool.not_eq_eq_eq_not, Bool.not_true, Bool.not_false, beq_iff_eq, bne_iff_ne, ne_eq, beq_eq_false_iff_ne, bne_eq_false_iff_eq, gt_iff_lt, ge_iff_le, Int.not_lt, Int.not_le] at hc125
                      refine c_skip (x_then (hK31 _ _ ?_))
                      clear hK31 K31
                      refine forget [(0, _), (2, _), (6, _), (7, _)] ⟨rfl, rfl, rfl, rfl, trivial⟩ (fun e => ?_)
                      refine c_seq (fun K39 hK39 => ?_)
                      have htf : tallF fn = true := by unfold tallF; simp; omega
                      rw [if_pos htf, show x.a = ((i - 1 : Nat) : Int) by omega] at hev
                      refine c_reg ?_ -- region 30 eval.go:373
                      refine wl (ro_move rfl) ?_
                      refine wl (ro_fieldAddr (k := 2) rfl fo_143_2) ?_
                      refine wl (ro_loadB rfl sc_3 (by assumption) rfl) ?_
                      refine wl (ro_fieldAddr (k := 1) rfl fo_143_1) ?_
                      refine wl (ro_loadB rfl sc_3 (by assumption) rfl) ?_
                      refine wl (ro_move rfl) ?_
                      refine wl_call rfl en_216 ((ih (f3 + 1) (by omega)).2 (i := i - 1) (by omega) q3 ⟨hN, hV, hP.el, hP.lw, hP.l24⟩ q6 htf hfn.1) ?_
                      rintro _ u3 ⟨⟨s, rfl, hs1, hs2⟩, G3⟩
                      replace hF := hF.transG G3 (by intro k hk h; simp only [one, none'] at h ⊢ <;> omega)
                      replace hN := G3.blkF hN (by intro h; simp only [one, none'] at h <;> omega)
                      replace hV := G3.blkF hV (by intro h; simp only [one, none'] at h <;> omega)
                      replace h6 := G3.blkF h6 (by intro h; simp only [one, none'] at h <;> omega)
                      replace h7 := G3.blkF h7 (by intro h; simp only [one, none'] at h <;> omega)
                      refine wl_new (ze_232) (fun b18 w47 hbb18 h18 F47 => ?_)
                      have hbsb18 := Nat.le_trans hF.size hbb18
                      have hnenbb18 : nb < b18 := Nat.lt_of_lt_of_le hN.lt hbb18
                      have hnevbb18 : vb < b18 := Nat.lt_of_lt_of_le hV.lt hbb18
                      have hneb6b18 : b6 < b18 := Nat.lt_of_lt_of_le h6.lt hbb18
                      have hneb7b18 : b7 < b18 := Nat.lt_of_lt_of_le h7.lt hbb18
                      replace hF := hF.thenDrew.thenN F47
                      replace hN := F47.blkN hN
                      replace hV := F47.blkN hV
                      replace h6 := F47.blkN h6
                      replace h7 := F47.blkN h7
                      refine wl_puta rfl rfl ((fdc_cells s)) sz_232 (rfl) h18 ((by simp)) ((show _ = fdc s from rfl)) (fun w48 h18 F48 => ?_)
                      replace hF := hF.thenDrew.thenO F48 (by first | exact .inr (by omega) | exact .inl rfl | exact .inl (by assumption))
                      replace hN := F48.blkO hN (by omega)
                      replace hV := F48.blkO hV (by omega)
                      replace h6 := F48.blkO h6 (by omega)
                      replace h7 := F48.blkO h7 (by omega)
                      refine wl_nil (x_then (hK39 _ _ ?_))
                      clear hK39 K39
                      refine forget [(6, _), (7, _), (18, _)] ⟨rfl, rfl, rfl, trivial⟩ (fun e => ?_)
                      refine c_seq (fun K40 hK40 => ?_)
                      refine c_reg ?_ -- region 31 eval.go:374
                      refine wl (ro_loadAggB rfl ag_232 (by assumption) rfl rfl) ?_
                      refine wl (ro_fieldAddr (k := 1) rfl fo_143_1) ?_
                      refine wl (ro_loadB rfl sc_3 (by assumption) rfl) ?_
                      refine wl_call rfl en_217 (FoldedI (f := fn) q3) ?_
                      rintro _ w49 ⟨rfl, F49⟩
                      replace hF := hF.thenDrew.thenN F49
                      replace hN := F49.blkN hN
                      replace hV := F49.blkN hV
                      replace h6 := F49.blkN h6
                      replace h7 := F49.blkN h7
                      replace h18 := F49.blkN h18
                      refine wl_puta rfl rfl ((by (try exact vlc_cells _); all_goals simp [Value.oneCell', i64c, icv, u64c, u8c, ptr, S])) sz_104 (rfl) h6 ((by simp)) (rfl) (fun w50 h6 F50 => ?_)
                      replace hF := hF.thenDrew.thenO F50 (by first | exact .inr (by omega) | exact .inl rfl | exact .inl (by assumption))
                      replace hN := F50.blkO hN (by omega)
                      replace hV := F50.blkO hV (by omega)
                      replace h7 := F50.blkO h7 (by omega)
                      replace h18 := F50.blkO h18 (by omega)
                      refine wl_nil (x_then (hK40 _ _ ?_))
                      clear hK40 K40
                      refine c_ret (x_blkR (x_thenR ?_))
                      refine bq_ret (res1 Tryz.results191 (rv_c rfl ag_104 (h6) rfl)) ?_
                      refine ⟨?_, hF⟩
                      rw [hev, ← hs2.shut htf hfn.1]
                      rfl
            · try simp only [decide_eq_true_eq, decide_eq_false_iff_not, Bool.not_eq_true', Bool.not_eq_false', Bool.not_eq_eq_eq_not, Bool.not_true, Bool.not_false, beq_iff_eq, bne_iff_ne, ne_eq, beq_eq_false_iff_ne, bne_eq_false_iff_eq, gt_iff_lt, ge_iff_le, Int.not_lt, Int.not_le] at hc74
              refine c_skip (x_blk (x_then (hK3 _ _ ?_)))
              clear hK3 K3
              refine forget [(6, _)] ⟨rfl, trivial⟩ (fun e => ?_)
              refine c_seq (fun K41 hK41 => ?_)
              refine c_reg ?_ -- region 32 eval.go:376
              refine wl_call rfl en_116 (Err116) ?_
              rintro _ w51 ⟨rfl, F51⟩
              replace hF := hF.thenDrew.thenN F51
              replace hN := F51.blkN hN
              replace hV := F51.blkN hV
              replace h6 := F51.blkN h6
              replace h7 := F51.blkN h7
              refine wl_puta rfl rfl ((by (try exact vlc_cells _); all_goals simp [Value.oneCell', i64c, icv, u64c, u8c, ptr, S])) sz_104 (rfl) h6 ((by simp)) (rfl) (fun w52 h6 F52 => ?_)
              replace hF := hF.thenDrew.thenO F52 (by first | exact .inr (by omega) | exact .inl rfl | exact .inl (by assumption))
              replace hN := F52.blkO hN (by omega)
              replace hV := F52.blkO hV (by omega)
              replace h7 := F52.blkO h7 (by omega)
              refine wl_nil (x_then (hK41 _ _ ?_))
              clear hK41 K41
              refine c_ret ?_
              refine bq_ret (res1 Tryz.results191 (rv_c rfl ag_104 (h6) rfl)) ?_
              have hk5 : x.k = 5 := by
                have hl := (sg_loc _ _ _ _ _ _ hS i hle.1 (Nat.le_refl _))
                obtain ⟨y, hy, hl⟩ := hl
                rw [hx] at hy
                cases hy
                have h1 := hl.1
                have h2 := hl.2.1
                have h4 : x.k ≠ 4 := by unfold isRng at hr; rw [hx] at hr; simpa using hr
                have h9 : x.k ≠ 9 := sg_n9 hS hx
                omega
              exact ⟨by rw [ev_k5 (by rw [hxi]; exact hk5)]; rfl, hF⟩

end Go.Proofs.Qxb6500570aGreat
