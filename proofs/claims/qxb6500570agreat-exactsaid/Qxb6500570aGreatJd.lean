import Derived.Test.Qxb6500570aGreatJc
/- The real printer: fill, Print. -/
namespace Go.Proofs.Qxb6500570aGreat
set_option linter.unusedVariables false
set_option linter.unusedSimpArgs false

def pnset (B : FB7) : Nat → Prop := fun b => b = B.f ∨ b = B.u ∨ b = B.n
/-- The notes that have been laid. -/
def FI (n : List Nd) (fn : Nat → Value) (N : Nts) (m : Nat) : Prop := ∀ j, j < n.length → (j + 1 = n.length ∨ ∃ p, m ≤ p ∧ p < n.length ∧ isKid n p j) → Mt n fn N j
theorem FI.at {n : List Nd} {fn : Nat → Value} {N : Nts} {i : Nat} (hD : DoneOK n) (h : FI n fn N (i + 1)) : ∀ j, i ≤ j → j < n.length → Mt n fn N j := by
  intro j hj hl
  refine h j hl ?_
  by_cases e : j + 1 = n.length
  · exact .inl e
  · obtain ⟨p, h1, h2, h3⟩ := par_all hD (j := j) (by omega)
    exact .inr ⟨p, by omega, h2, h3⟩
theorem mt_kid {n : List Nd} {fn : Nat → Value} {N : Nts} {c p need j : Nat} (hcp : c < p) (hp : p < n.length) (hk : 6 ≤ (ndA n (p : Nat)).k) (h : j ≠ c → Mt n fn N j) : Mt n (pts fn (c * 2) (ntc p (decide (lvl (ndA n (c : Nat)) < need)))) (kidN n N (c : Nat) p need) j := by
  by_cases e : j = c
  · subst e
    refine ⟨?_, ?_, ?_⟩
    · rw [kid_at rfl, show 2 * j = j * 2 + 0 by omega]
      exact pts_in (j := 0) rfl
    · rw [kid_at rfl, show 2 * j + 1 = j * 2 + 1 by omega]
      exact pts_in (j := 1) rfl
    · rw [kid_at rfl]
      exact .inr ⟨by show (j : Int) < (p : Int); omega, by show (p : Int) < n.length; omega, hk⟩
  · obtain ⟨h1, h2, h3⟩ := h e
    unfold Mt
    rw [kid_ne (by rw [Int.toNat_natCast]; exact fun q => e q.symm), pts_out (by show _ ∨ _ + 2 ≤ _; omega), pts_out (by show _ ∨ _ + 2 ≤ _; omega)]
    exact ⟨h1, h2, h3⟩
theorem FI.one {n : List Nd} {fn : Nat → Value} {N : Nts} {i c need : Nat} (h : FI n fn N (i + 1)) (hi : i < n.length) (hk : 6 ≤ (ndA n (i : Nat)).k) (hc : c < i) (hkid : ∀ j, isKid n i j → j = c) : FI n (pts fn (c * 2) (ntc i (decide (lvl (ndA n (c : Nat)) < need)))) (kidN n N (c : Nat) i need) i := by
  intro j hj hq
  refine mt_kid hc hi hk (fun hne => h j hj ?_)
  rcases hq with hq | ⟨p, h1, h2, h3⟩
  · exact .inl hq
  · by_cases e : p = i
    · subst e; exact absurd (hkid j h3) hne
    · exact .inr ⟨p, by omega, h2, h3⟩
theorem FI.two {n : List Nd} {fn : Nat → Value} {N : Nts} {i c d need need2 : Nat} (h : FI n fn N (i + 1)) (hi : i < n.length) (hk : 6 ≤ (ndA n (i : Nat)).k) (hc : c < i) (hd : d < i) (hkid : ∀ j, isKid n i j → j = c ∨ j = d) :
    FI n (pts (pts fn (c * 2) (ntc i (decide (lvl (ndA n (c : Nat)) < need)))) (d * 2) (ntc i (decide (lvl (ndA n (d : Nat)) < need2)))) (kidN n (kidN n N (c : Nat) i need) (d : Nat) i need2) i := by
  intro j hj hq
  refine mt_kid hd hi hk (fun hne => mt_kid hc hi hk (fun hne2 => h j hj ?_))
  rcases hq with hq | ⟨p, h1, h2, h3⟩
  · exact .inl hq
  · by_cases e : p = i
    · subst e
      rcases hkid j h3 with q | q
      · exact absurd q hne2
      · exact absurd q hne
    · exact .inr ⟨p, by omega, h2, h3⟩
theorem FI.none {n : List Nd} {fn : Nat → Value} {N : Nts} {i : Nat} (h : FI n fn N (i + 1)) (hkid : ∀ j, ¬ isKid n i j) : FI n fn N i := by
  intro j hj hq
  refine h j hj ?_
  rcases hq with hq | ⟨p, h1, h2, h3⟩
  · exact .inl hq
  · by_cases e : p = i
    · subst e; exact absurd h3 (hkid j)
    · exact .inr ⟨p, by omega, h2, h3⟩
/-- What a node's place says, kept shut. -/
def LocP (x : Nd) (i : Nat) : Prop := Loc x i

set_option maxHeartbeats 16000000 in
theorem fill130 {w : World} {B : FB7} {n : List Nd} {nb : Nat} (ho : FBo B) (hD : DoneOK n) (hA : AOK n) (hnb : NbO nb B) (hfm : FmR w B) (hN : Blk w.heap nb (rws ndc n) 143) :
    Ret Tryz.prog 130 [ptr B.f, sl nb n.length] w (fun v w' => v = S (textF n) ∧ FmR w' B ∧ Fram (pnset B) w w') := by
  have hF : Fram (pnset B) w w := Fram.refl _ _
  obtain ⟨k, pos, er, bd, wi, hv, dn, ft, fa, fv, fo, fn0, fu, hB, hT, hAr, hV, hOo, hO, hU⟩ := hfm
  obtain ⟨hn1, hn24, -⟩ := id hD
  obtain ⟨htl, htx⟩ := text_law hD hA
  have hm1 : pnset B B.f := .inl rfl
  have hm2 : pnset B B.n := .inr (.inr rfl)
  refine ret_of Tryz.func130 rfl Tryz.ntmps130 rfl ?_
  refine c_seq (fun K1 hK1 => ?_)
  refine c_reg ?_ -- region 0 fill.go:90
  refine wl (ro_assign rfl) ?_
  refine wl_nil (x_then (hK1 _ _ ?_))
  clear hK1 K1
  refine forget [(0, _), (1, _)] ⟨rfl, rfl, trivial⟩ (fun e => ?_)
  refine c_seq (fun K2 hK2 => ?_)
  refine c_reg ?_ -- region 1 fill.go:91
  refine wl (ro_move rfl) ?_
  refine wl (ro_move rfl) ?_
  refine wl (ro_nilCheck rfl) ?_
  refine wl (ro_fieldAddr (k := 15) rfl fo_83_15) ?_
  refine wl (ro_loadB rfl sc_58 (by assumption) rfl) ?_
  refine wl (ro_lenL rfl se_58) ?_
  refine wl (ro_nilCheck rfl) ?_
  refine wl (ro_fieldAddr (k := 16) rfl fo_83_16) ?_
  refine wl_put rfl rfl rfl sz_3 hB ((by simp)) ((show _ = fml B 0 k pos 0 0 0 hv dn er bd ((288 - ([] : List UInt8).length : Nat) : Int) from rfl)) (fun w1 hB F1 => ?_)
  replace hF := hF.thenDrew.thenO F1 (by first | exact .inr (by omega) | exact .inl rfl | exact .inl (by assumption))
  replace hN := F1.blkO hN (by first | (simp only [ne_eq, (ne_all ho hnb), not_false_eq_true]; done) | omega)
  replace hO := F1.blkO hO (by first | (simp only [ne_eq, (ne_all ho hnb), not_false_eq_true]; done) | omega)
  replace hU := F1.blkO hU (by first | (simp only [ne_eq, (ne_all ho hnb), not_false_eq_true]; done) | omega)
  refine wl_nil (x_then (hK2 _ _ ?_))
  clear hK2 K2
  refine forget [(0, _), (1, _)] ⟨rfl, rfl, trivial⟩ (fun e => ?_)
  refine c_seq (fun K3 hK3 => ?_)
  refine c_reg ?_ -- region 2 fill.go:92
  refine wl (ro_move rfl) ?_
  refine wl (ro_nilCheck rfl) ?_
  refine wl (ro_fieldAddr (k := 14) rfl fo_83_14) ?_
  refine wl (ro_loadB rfl sc_81 (by assumption) rfl) ?_
  refine wl (ro_move rfl) ?_
  refine wl (ro_lenL rfl se_78) ?_
  refine wl (ro_arith (r := ((n.length - 1 : Nat) : Int)) rfl rfl (congrArg some (by omega)) (Go.IntWalk.i64_in _ (by omega))) ?_
  refine wl (ro_build rfl bld_201_0) ?_
  refine wl (ro_indexAddr (et := 201) (k := 2) rfl rfl se_81 rfl (by omega)) ?_
  refine wl_puta rfl rfl ((ntc_cells (-1) false)) sz_201 (rfl) hO ((by rw [cel_len]; show _ + 2 ≤ _; omega)) ((cel_puts ((n.length - 1) * 2) (by omega) rfl (by show _ + 2 ≤ _; omega))) (fun w2 hO F2 => ?_)
  replace hF := hF.thenDrew.thenO F2 (by first | exact .inr (by omega) | exact .inl rfl | exact .inl (by assumption))
  replace hN := F2.blkO hN (by first | (simp only [ne_eq, (ne_all ho hnb), not_false_eq_true]; done) | omega)
  replace hB := F2.blkO hB (by first | (simp only [ne_eq, (ne_all ho hnb), not_false_eq_true]; done) | omega)
  replace hU := F2.blkO hU (by first | (simp only [ne_eq, (ne_all ho hnb), not_false_eq_true]; done) | omega)
  refine wl_nil (x_then (hK3 _ _ ?_))
  clear hK3 K3
  refine c_seq (fun K4 hK4 => ?_)
  refine c_seq (fun K5 hK5 => ?_)
  refine c_reg ?_ -- region 3 fill.go:93
  refine wl (ro_move rfl) ?_
  refine wl (ro_lenL rfl se_78) ?_
  refine wl (ro_arith (r := (n.length : Int) - 1) rfl rfl rfl (Go.IntWalk.i64_in _ (by omega))) ?_
  refine wl (ro_assign rfl) ?_
  refine wl_nil (x_then (hK5 _ _ ?_))
  clear hK5 K5
  refine c_block ?_
  -- loop@r4: live slots [0, 1, 5]
  have h0 : PBV _ B k pos hv dn er bd [] := ⟨hB, ⟨fu, hU, fun j y hj => by simp at hj⟩, by simp⟩
  have hfi : FI n (pts fn0 ((n.length - 1) * 2) (ntc (-1) false)) (fun j => (-1, false)) n.length := fun j hj hq => by
    rcases hq with hq | ⟨p, h1, h2, -⟩
    · have ej : j = n.length - 1 := by omega
      subst ej
      refine ⟨?_, ?_, .inl rfl⟩
      · rw [show 2 * (n.length - 1) = (n.length - 1) * 2 + 0 by omega]; exact pts_in (j := 0) rfl
      · rw [show 2 * (n.length - 1) + 1 = (n.length - 1) * 2 + 1 by omega]; exact pts_in (j := 1) rfl
    · omega
  refine c_loopG (fun q a' w' => ∃ m N fn T, q = m ∧ m ≤ n.length ∧ FI n fn N m ∧ fillF n m N T = textF n ∧ PBV w' B k pos hv dn er bd T ∧ Blk w'.heap nb (rws ndc n) 143 ∧ FB w'.heap B.n 48 fn 201 ∧ Fram (pnset B) w w' ∧ ∃ e, a' = Fr 125 (upds e [(0, ptr B.f), (1, sl nb n.length), (5, icv ((m : Int) - 1))]) []) n.length ⟨n.length, fun _ => (-1, false), _, [], rfl, Nat.le_refl _, hfi, htx _ rfl, h0, hN, hO, hF, kp _ ⟨rfl, rfl, rfl, trivial⟩⟩ ?_
  clear hF hN hO hB hU h0 hfi htx
  rintro q a' u1 ⟨m, N, fn, T, rfl, hm, hfi, hfl, h, hN, hO, hF, e, rfl⟩
  obtain ⟨hl1, hl2⟩ := h.lt
  have hl3 := Blk.lt hO
  have hB := h.hB
  refine c_seq (fun K6 hK6 => ?_)
  refine c_seq (fun K7 hK7 => ?_)
  refine c_reg ?_ -- region 4 fill.go:93
  refine wl (ro_move rfl) ?_
  refine wl (ro_cmp (r := decide (1 ≤ q)) rfl rfl (congrArg some (decide_eq_decide.2 (by omega)))) ?_
  refine wl_nil (x_then (hK7 _ _ ?_))
  clear hK7 K7
  refine wc_cond rfl (fun hc29 => ?_) (fun hc29 => ?_)
  · try simp only [decide_eq_true_eq, decide_eq_false_iff_not, Bool.not_eq_true', Bool.not_eq_false', Bool.not_eq_eq_eq_not, Bool.not_true, Bool.not_false, beq_iff_eq, bne_iff_ne, ne_eq, beq_eq_false_iff_ne, bne_eq_false_iff_eq, gt_iff_lt, ge_iff_le, Int.not_lt, Int.not_le] at hc29
    obtain ⟨i, rfl⟩ : ∃ i, q = i + 1 := ⟨q - 1, by omega⟩
    rw [show (((i + 1 : Nat) : Int) - 1) = (i : Int) by omega]
    have hil : i < n.length := by omega
    have hM := hfi.at hD
    obtain ⟨m1, m2, -⟩ := hM i (Nat.le_refl _) hil
    obtain ⟨x, hx, hloc⟩ := loc_all hD hil
    have hxi := ndA_get hx
    have hxA := hA x (List.mem_of_getElem? hx)
    replace hloc : LocP x i := hloc
    rw [fill_succ] at hfl
    have hfg := fill_ge n i (turnN n i N) (turnT n i N T)
    rw [hfl] at hfg
    have htN : turnN n i N = if x.k = 6 then kidN n N x.a i 4 else if x.k = 7 then kidN n (kidN n N x.b i (strg x.o.toNat + 1)) x.a i (if strg x.o.toNat = 1 then 2 else strg x.o.toNat) else if x.k = 8 then kidN n N x.a i 1 else if x.k = 9 then (if 0 ≤ x.b then kidN n (kidN n N x.a i 1) x.b i 1 else kidN n N x.a i 1) else N := by unfold turnN; rw [hxi]
    have htT : turnT n i N T = if x.k = 6 ∨ x.k = 7 ∨ x.k = 8 ∨ x.k = 9 then (if (N i).2 = true ∨ x.k = 8 then 41 :: T else T) else climbF n N (n.length - i) i (lfT x ++ (if (N i).2 = true ∨ x.k = 8 then 41 :: T else T)) := by unfold turnT; rw [hxi]
    generalize hT1 : (if (N i).2 = true ∨ x.k = 8 then 41 :: T else T) = T1 at htT
    have hT1l : T1.length ≤ (turnT n i N T).length := by
      rw [htT]
      split
      · exact Nat.le_refl _
      · refine Nat.le_trans ?_ (climb_ge n N _ _ _)
        rw [List.length_append]; omega
    refine c_skip (x_then (hK6 _ _ ?_))
    clear hK6 K6
    refine forget [(0, _), (1, _), (5, _)] ⟨rfl, rfl, rfl, trivial⟩ (fun e => ?_)
    refine c_seq (fun K8 hK8 => ?_)
    refine c_block ?_
    refine c_seq (fun K9 hK9 => ?_)
    refine c_reg ?_ -- region 6 fill.go:94
    refine wl (ro_move rfl) ?_
    refine wl (ro_move rfl) ?_
    refine wl (ro_indexAddr (et := 143) (k := 13) rfl rfl se_78 rfl (by omega)) ?_
    refine wl (ro_loadAggB rfl ag_143 (hN) ((ndc_len _)) ((rw_agg ndc_len hx (by omega)))) ?_
    refine wl_new (ze_143) (fun b6 w3 hbb6 hX F3 => ?_)
    have hbsb6 := Nat.le_trans hF.size hbb6
    have hnenbb6 : nb < b6 := Nat.lt_of_lt_of_le hN.lt hbb6
    have hneB.nb6 : B.n < b6 := Nat.lt_of_lt_of_le hO.lt hbb6
    have hneB.fb6 : B.f < b6 := Nat.lt_of_lt_of_le hB.lt hbb6
    replace hF := hF.thenDrew.thenN F3
    replace hN := F3.blkN hN
    replace hO := F3.blkN hO
    replace hB := F3.blkN hB
    replace h := h.far F3 (fun h ↦ h) (fun h ↦ h)
    refine wl_puta rfl rfl ((ndc_cells _)) sz_143 (rfl) hX ((by simp)) ((show _ = ndc x from rfl)) (fun w4 hX F4 => ?_)
    replace hF := hF.thenDrew.thenO F4 (by first | exact .inr (by omega) | exact .inl rfl | exact .inl (by assumption))
    replace hN := F4.blkO hN (by first | (simp only [ne_eq, (ne_all ho hnb), not_false_eq_true]; done) | omega)
    replace hO := F4.blkO hO (by first | (simp only [ne_eq, (ne_all ho hnb), not_false_eq_true]; done) | omega)
    replace hB := F4.blkO hB (by first | (simp only [ne_eq, (ne_all ho hnb), not_false_eq_true]; done) | omega)
    replace h := h.far F4 (fun hh ↦ absurd (show B.f = b6 from hh) (by omega)) (fun hh ↦ absurd (show B.u = b6 from hh) (by omega))
    refine wl_nil (x_then (hK9 _ _ ?_))
    clear hK9 K9
    refine c_mid (fun a' w' => PBV w' B k pos hv dn er bd T1 ∧ Blk w'.heap nb (rws ndc n) 143 ∧ FB w'.heap B.n 48 fn 201 ∧ Blk w'.heap b6 (ndc x) 143 ∧ Fram (pnset B) w w' ∧ ∃ e, a' = Fr 125 (upds e [(0, ptr B.f), (1, sl nb n.length), (5, i64c i), (6, ptr b6)]) []) ?_ ?_
    · skip
      refine c_seq (fun K10 hK10 => ?_)
      refine c_reg ?_ -- region 7 fill.go:95
      refine wl (ro_move rfl) ?_
      refine wl (ro_nilCheck rfl) ?_
      refine wl (ro_fieldAddr (k := 14) rfl fo_83_14) ?_
      refine wl (ro_loadB rfl sc_81 (by assumption) rfl) ?_
      refine wl (ro_move rfl) ?_
      refine wl (ro_indexAddr (et := 201) (k := 2) rfl rfl se_81 rfl (by omega)) ?_
      refine wl (ro_fieldAddr (k := 1) rfl fo_201_1) ?_
      refine wl (ro_loadB rfl sc_4 (hO) ((cel_at (by omega) (show _ = 2 * i + 1 by omega) m2))) ?_
      refine wl_fork rfl (fun hg44 => ?_) (fun hg44 => ?_)
      · try simp only [decide_eq_true_eq, decide_eq_false_iff_not, Bool.not_eq_true', Bool.not_eq_false', Bool.not_eq_eq_eq_not, Bool.not_true, Bool.not_false, beq_iff_eq, bne_iff_ne, ne_eq, beq_eq_false_iff_ne, bne_eq_false_iff_eq, gt_iff_lt, ge_iff_le, Int.not_lt, Int.not_le] at hg44
        refine wlg_no rfl ?_
        refine wlg_no rfl ?_
        refine wlg_no rfl ?_
        refine wl (ro_pick rfl rfl rfl) ?_
        refine wl_nil (x_then (hK10 _ _ ?_))
        clear hK10 K10
        refine wc_condT rfl ?_
        refine c_reg ?_ -- region 8 fill.go:96
        refine wl (ro_move rfl) ?_
        refine wl_call rfl en_169 (put169 (c := 41) ho.h1.2.2.2.2.2 h (by rw [← hT1, if_pos (.inl hg44)] at hT1l; rw [List.length_cons] at hT1l; omega)) ?_
        rintro _ u3 ⟨h4, G3⟩
        replace hF := hF.transG G3 (by intro k hk h; simp only [pset, none', one, pnset] at h ⊢ <;> omega)
        replace hN := G3.blkF hN (by intro h; simp only [pset, none', one, pnset, (ne_all ho hnb), or_self, false_or, or_false] at h <;> omega)
        replace hO := G3.blkF hO (by intro h; simp only [pset, none', one, pnset, (ne_all ho hnb), or_self, false_or, or_false] at h <;> omega)
        replace hX := G3.blkF hX (by intro h; simp only [pset, none', one, pnset, (ne_all ho hnb), or_self, false_or, or_false] at h <;> omega)
        refine wl_nil (x_then ?_)
        exact ⟨by rw [← hT1, if_pos (.inl hg44)]; exact h4, hN, hO, hX, hF, kp _ ⟨rfl, rfl, rfl, rfl, trivial⟩⟩
      · try simp only [decide_eq_true_eq, decide_eq_false_iff_not, Bool.not_eq_true', Bool.not_eq_false', Bool.not_eq_eq_eq_not, Bool.not_true, Bool.not_false, beq_iff_eq, bne_iff_ne, ne_eq, beq_eq_false_iff_ne, bne_eq_false_iff_eq, gt_iff_lt, ge_iff_le, Int.not_lt, Int.not_le] at hg44
        refine wlg_yes rfl (ro_fieldAddr (k := 0) rfl fo_143_0) ?_
        refine wlg_yes rfl (ro_loadB rfl sc_3 (by assumption) rfl) ?_
        refine wlg_yes rfl (ro_cmp rfl rfl rfl) ?_
        refine wl (ro_pick rfl rfl rfl) ?_
        refine wl_nil (x_then (hK10 _ _ ?_))
        clear hK10 K10
        refine wc_cond rfl (fun hc48 => ?_) (fun hc48 => ?_)
        · try simp only [decide_eq_true_eq, decide_eq_false_iff_not, Bool.not_eq_true', Bool.not_eq_false', Bool.not_eq_eq_eq_not, Bool.not_true, Bool.not_false, beq_iff_eq, bne_iff_ne, ne_eq, beq_eq_false_iff_ne, bne_eq_false_iff_eq, gt_iff_lt, ge_iff_le, Int.not_lt, Int.not_le] at hc48
          refine c_reg ?_ -- region 8 fill.go:96
          refine wl (ro_move rfl) ?_
          refine wl_call rfl en_169 (put169 (c := 41) ho.h1.2.2.2.2.2 h (by rw [← hT1, if_pos (.inr hc48)] at hT1l; rw [List.length_cons] at hT1l; omega)) ?_
          rintro _ u3 ⟨h4, G3⟩
          replace hF := hF.transG G3 (by intro k hk h; simp only [pset, none', one, pnset] at h ⊢ <;> omega)
          replace hN := G3.blkF hN (by intro h; simp only [pset, none', one, pnset, (ne_all ho hnb), or_self, false_or, or_false] at h <;> omega)
          replace hO := G3.blkF hO (by intro h; simp only [pset, none', one, pnset, (ne_all ho hnb), or_self, false_or, or_false] at h <;> omega)
          replace hX := G3.blkF hX (by intro h; simp only [pset, none', one, pnset, (ne_all ho hnb), or_self, false_or, or_false] at h <;> omega)
          refine wl_nil (x_then ?_)
          exact ⟨by rw [← hT1, if_pos (.inr hc48)]; exact h4, hN, hO, hX, hF, kp _ ⟨rfl, rfl, rfl, rfl, trivial⟩⟩
        · try simp only [decide_eq_true_eq, decide_eq_false_iff_not, Bool.not_eq_true', Bool.not_eq_false', Bool.not_eq_eq_eq_not, Bool.not_true, Bool.not_false, beq_iff_eq, bne_iff_ne, ne_eq, beq_eq_false_iff_ne, bne_eq_false_iff_eq, gt_iff_lt, ge_iff_le, Int.not_lt, Int.not_le] at hc48
          refine c_skip (x_then ?_)
          exact ⟨by rw [← hT1, if_neg (by rw [hg44]; simpa using hc48)]; exact h, hN, hO, hX, hF, kp _ ⟨rfl, rfl, rfl, rfl, trivial⟩⟩
    clear hF hN hO hB h hX
    rintro a' u2 ⟨h, hN, hO, hX, hF, e, rfl⟩
    have hB := h.hB
    refine c_seq (fun K11 hK11 => ?_)
    refine c_reg ?_ -- region 9 fill.go:98
    refine wl (ro_fieldAddr (k := 0) rfl fo_143_0) ?_
    refine wl (ro_loadB rfl sc_3 (by assumption) rfl) ?_
    refine wl_nil (x_then (hK11 _ _ ?_))
    clear hK11 K11
    refine c_block ?_
    refine forget [(0, _), (1, _), (5, _), (6, _), (52, _)] ⟨rfl, rfl, rfl, rfl, rfl, trivial⟩ (fun e => ?_)
    refine c_seq (fun K12 hK12 => ?_)
    refine c_reg ?_ -- region 12 fill.go:99
    refine wl (ro_cmp rfl rfl rfl) ?_
    refine wl (ro_assign rfl) ?_
    refine wl_nil (x_then (hK12 _ _ ?_))
    clear hK12 K12
    refine wc_cond rfl (fun hc60 => ?_) (fun hc60 => ?_)
    · try simp only [decide_eq_true_eq, decide_eq_false_iff_not, Bool.not_eq_true', Bool.not_eq_false', Bool.not_eq_eq_eq_not, Bool.not_true, Bool.not_false, beq_iff_eq, bne_iff_ne, ne_eq, beq_eq_false_iff_ne, bne_eq_false_iff_eq, gt_iff_lt, ge_iff_le, Int.not_lt, Int.not_le] at hc60
      obtain ⟨ha1, ha2⟩ := hloc.2.2.2.2.1 hc60
      have hac : x.a = ((i - 1 : Nat) : Int) := by omega
      rw [if_pos hc60] at htN
      rw [if_pos (.inl hc60)] at htT
      rw [htN, htT] at hfl
      have hkid : ∀ j, isKid n i j → j = i - 1 := fun j hj => by
        unfold isKid at hj
        rw [hxi] at hj
        rcases hj with ⟨-, hj⟩ | ⟨hj, -⟩ <;> omega
      have hfi' := hfi.one (c := i - 1) (need := 4) hil (by rw [hxi]; omega) (by omega) hkid
      rw [hac] at hfl
      refine c_reg ?_ -- region 13 fill.go:100
      refine wl (ro_move rfl) ?_
      refine wl (ro_move rfl) ?_
      refine wl (ro_fieldAddr (k := 2) rfl fo_143_2) ?_
      refine wl (ro_loadB rfl sc_3 (hX) ((show _ = some (i64c (i - 1)) from congrArg some (congrArg icv hac)))) ?_
      refine wl (ro_move rfl) ?_
      refine wl_call rfl en_170 (kid170 (need := 4) hD ho.h1.2.2.2.2.1 hnb.n hB hN hO (by omega)) ?_
      rintro _ u4 ⟨hO4, G4⟩
      replace h := h.far G4 (fun hh ↦ ho.h1.2.2.2.2.1 hh) (fun hh ↦ ho.h6 hh.symm)
      replace hF := hF.transG G4 (by intro k hk h; simp only [pset, none', one, pnset] at h ⊢ <;> omega)
      replace hN := G4.blkF hN (by intro h; simp only [pset, none', one, pnset, (ne_all ho hnb), or_self, false_or, or_false] at h <;> omega)
      replace hX := G4.blkF hX (by intro h; simp only [pset, none', one, pnset, (ne_all ho hnb), or_self, false_or, or_false] at h <;> omega)
      replace hB := G4.blkF hB (by intro h; simp only [pset, none', one, pnset, (ne_all ho hnb), or_self, false_or, or_false] at h <;> omega)
      refine wl_nil (x_blk (x_blk (x_then (hK8 _ _ ?_))))
      clear hK8 K8
      refine c_reg ?_ -- region 5 fill.go:93
      refine wl (ro_move rfl) ?_
      refine wl (ro_arith (r := (i : Int) - 1) rfl rfl rfl (Go.IntWalk.i64_in _ (by omega))) ?_
      refine wl (ro_assign rfl) ?_
      refine wl_nil (x_then ?_)
      exact ⟨i, by omega, i, _, _, T1, rfl, by omega, hfi', hfl, h, hN, hO4, hF, kp _ ⟨rfl, rfl, rfl, trivial⟩⟩
    · try simp only [decide_eq_true_eq, decide_eq_false_iff_not, Bool.not_eq_true', Bool.not_eq_false', Bool.not_eq_eq_eq_not, Bool.not_true, Bool.not_false, beq_iff_eq, bne_iff_ne, ne_eq, beq_eq_false_iff_ne, bne_eq_false_iff_eq, gt_iff_lt, ge_iff_le, Int.not_lt, Int.not_le] at hc60
      refine c_seq (fun K13 hK13 => ?_)
      refine c_reg ?_ -- region 14 fill.go:101
      refine wl (ro_cmp rfl rfl rfl) ?_
      refine wl (ro_assign rfl) ?_
      refine wl_nil (x_then (hK13 _ _ ?_))
      clear hK13 K13
      refine wc_cond rfl (fun hc68 => ?_) (fun hc68 => ?_)
      · try simp only [decide_eq_true_eq, decide_eq_false_iff_not, Bool.not_eq_true', Bool.not_eq_false', Bool.not_eq_eq_eq_not, Bool.not_true, Bool.not_false, beq_iff_eq, bne_iff_ne, ne_eq, beq_eq_false_iff_ne, bne_eq_false_iff_eq, gt_iff_lt, ge_iff_le, Int.not_lt, Int.not_le] at hc68
        obtain ⟨o, ho1, ho2, ho3, hb1, ha1, ha2⟩ := hloc.2.2.2.2.2.1 hc68
        have hoo : x.o.toNat = o := by omega
        obtain ⟨a, hac⟩ : ∃ a : Nat, x.a = (a : Int) := ⟨x.a.toNat, by omega⟩
        have hbc : x.b = ((i - 1 : Nat) : Int) := by omega
        rw [if_neg hc60, if_pos hc68, hoo] at htN
        rw [if_pos (.inr (.inl hc68))] at htT
        rw [htN, htT, hac, hbc] at hfl
        have hkid : ∀ j, isKid n i j → j = i - 1 ∨ j = a := fun j hj => by
          unfold isKid at hj
          rw [hxi] at hj
          rcases hj with ⟨-, hj⟩ | ⟨-, hj⟩ <;> omega
        have hfi' := hfi.two (c := i - 1) (d := a) (need := strg o + 1) (need2 := if strg o = 1 then 2 else strg o) hil (by rw [hxi]; omega) (by omega) (by omega) hkid
        have hsb := strg_bd o
        refine c_seq (fun K14 hK14 => ?_)
        refine c_reg ?_ -- region 15 fill.go:102
        refine wl (ro_fieldAddr (k := 1) rfl fo_143_1) ?_
        refine wl (ro_loadB rfl sc_3 (hX) ((show _ = some (i64c o) from congrArg some (congrArg icv ho1)))) ?_
        refine wl_call rfl en_156 (strength156) ?_
        rintro _ _ ⟨rfl, rfl⟩
        refine wl (ro_assign rfl) ?_
        refine wl_nil (x_then (hK14 _ _ ?_))
        clear hK14 K14
        refine forget [(0, _), (1, _), (5, _), (6, _), (7, _)] ⟨rfl, rfl, rfl, rfl, rfl, trivial⟩ (fun e => ?_)
        refine c_seq (fun K15 hK15 => ?_)
        refine c_reg ?_ -- region 16 fill.go:103
        refine wl (ro_move rfl) ?_
        refine wl (ro_move rfl) ?_
        refine wl (ro_fieldAddr (k := 3) rfl fo_143_3) ?_
        refine wl (ro_loadB rfl sc_3 (hX) ((show _ = some (i64c (i - 1)) from congrArg some (congrArg icv hbc)))) ?_
        refine wl (ro_move rfl) ?_
        refine wl (ro_move rfl) ?_
        refine wl (ro_arith (r := ((strg o + 1 : Nat) : Int)) rfl rfl rfl (Go.IntWalk.i64_in _ (by omega))) ?_
        refine wl_call rfl en_170 (kid170 (need := strg o + 1) hD ho.h1.2.2.2.2.1 hnb.n hB hN hO (by omega)) ?_
        rintro _ u4 ⟨hO4, G4⟩
        replace h := h.far G4 (fun hh ↦ ho.h1.2.2.2.2.1 hh) (fun hh ↦ ho.h6 hh.symm)
        replace hF := hF.transG G4 (by intro k hk h; simp only [pset, none', one, pnset] at h ⊢ <;> omega)
        replace hN := G4.blkF hN (by intro h; simp only [pset, none', one, pnset, (ne_all ho hnb), or_self, false_or, or_false] at h <;> omega)
        replace hX := G4.blkF hX (by intro h; simp only [pset, none', one, pnset, (ne_all ho hnb), or_self, false_or, or_false] at h <;> omega)
        replace hB := G4.blkF hB (by intro h; simp only [pset, none', one, pnset, (ne_all ho hnb), or_self, false_or, or_false] at h <;> omega)
        clear hO
        have hO := hO4
        clear hO4
        refine wl_nil (x_then (hK15 _ _ ?_))
        clear hK15 K15
        refine c_mid (fun a' w' => u4 = w' ∧ ∃ e, a' = Fr 125 (upds e [(0, ptr B.f), (1, sl nb n.length), (5, i64c i), (6, ptr b6), (7, i64c (if strg o = 1 then 2 else strg o))]) []) ?_ ?_
        · skip
          refine c_seq (fun K16 hK16 => ?_)
          refine c_reg ?_ -- region 17 fill.go:104
          refine wl (ro_move rfl) ?_
          refine wl (ro_cmp (r := decide (strg o = 1)) rfl rfl (congrArg some (beqc (strg o) 1))) ?_
          refine wl_nil (x_then (hK16 _ _ ?_))
          clear hK16 K16
          refine wc_cond rfl (fun hc82 => ?_) (fun hc82 => ?_)
          · try simp only [decide_eq_true_eq, decide_eq_false_iff_not, Bool.not_eq_true', Bool.not_eq_false', Bool.not_eq_eq_eq_not, Bool.not_true, Bool.not_false, beq_iff_eq, bne_iff_ne, ne_eq, beq_eq_false_iff_ne, bne_eq_false_iff_eq, gt_iff_lt, ge_iff_le, Int.not_lt, Int.not_le] at hc82
            refine c_reg ?_ -- region 18 fill.go:105
            refine wl (ro_assign rfl) ?_
            refine wl_nil (x_then ?_)
            exact ⟨rfl, kp _ ⟨rfl, rfl, rfl, rfl, by rw [if_pos hc82]; rfl, trivial⟩⟩
          · try simp only [decide_eq_true_eq, decide_eq_false_iff_not, Bool.not_eq_true', Bool.not_eq_false', Bool.not_eq_eq_eq_not, Bool.not_true, Bool.not_false, beq_iff_eq, bne_iff_ne, ne_eq, beq_eq_false_iff_ne, bne_eq_false_iff_eq, gt_iff_lt, ge_iff_le, Int.not_lt, Int.not_le] at hc82
            refine c_skip (x_then ?_)
            exact ⟨rfl, kp _ ⟨rfl, rfl, rfl, rfl, by rw [if_neg hc82]; rfl, trivial⟩⟩
        rintro a' _ ⟨rfl, e, rfl⟩
        refine c_reg ?_ -- region 19 fill.go:107
        refine wl (ro_move rfl) ?_
        refine wl (ro_move rfl) ?_
        refine wl (ro_fieldAddr (k := 2) rfl fo_143_2) ?_
        refine wl (ro_loadB rfl sc_3 (hX) ((show _ = some (i64c a) from congrArg some (congrArg icv hac)))) ?_
        refine wl (ro_move rfl) ?_
        refine wl (ro_move rfl) ?_
        refine wl_call rfl en_170 (kid170 (need := if strg o = 1 then 2 else strg o) hD ho.h1.2.2.2.2.1 hnb.n hB hN hO (by omega)) ?_
        rintro _ u5 ⟨hO5, G5⟩
        replace h := h.far G5 (fun hh ↦ ho.h1.2.2.2.2.1 hh) (fun hh ↦ ho.h6 hh.symm)
        replace hF := hF.transG G5 (by intro k hk h; simp only [pset, none', one, pnset] at h ⊢ <;> omega)
        replace hN := G5.blkF hN (by intro h; simp only [pset, none', one, pnset, (ne_all ho hnb), or_self, false_or, or_false] at h <;> omega)
        replace hX := G5.blkF hX (by intro h; simp only [pset, none', one, pnset, (ne_all ho hnb), or_self, false_or, or_false] at h <;> omega)
        replace hB := G5.blkF hB (by intro h; simp only [pset, none', one, pnset, (ne_all ho hnb), or_self, false_or, or_false] at h <;> omega)
        refine wl_nil (x_blk (x_blk (x_then (hK8 _ _ ?_))))
        clear hK8 K8
        refine c_reg ?_ -- region 5 fill.go:93
        refine wl (ro_move rfl) ?_
        refine wl (ro_arith (r := (i : Int) - 1) rfl rfl rfl (Go.IntWalk.i64_in _ (by omega))) ?_
        refine wl (ro_assign rfl) ?_
        refine wl_nil (x_then ?_)
        exact ⟨i, by omega, i, _, _, T1, rfl, by omega, hfi', hfl, h, hN, hO5, hF, kp _ ⟨rfl, rfl, rfl, trivial⟩⟩
      · try simp only [decide_eq_true_eq, decide_eq_false_iff_not, Bool.not_eq_true', Bool.not_eq_false', Bool.not_eq_eq_eq_not, Bool.not_true, Bool.not_false, beq_iff_eq, bne_iff_ne, ne_eq, beq_eq_false_iff_ne, bne_eq_false_iff_eq, gt_iff_lt, ge_iff_le, Int.not_lt, Int.not_le] at hc68
        refine c_seq (fun K17 hK17 => ?_)
        refine c_reg ?_ -- region 20 fill.go:108
        refine wl (ro_cmp rfl rfl rfl) ?_
        refine wl (ro_assign rfl) ?_
        refine wl_nil (x_then (hK17 _ _ ?_))
        clear hK17 K17
        refine wc_cond rfl (fun hc90 => ?_) (fun hc90 => ?_)
        · try simp only [decide_eq_true_eq, decide_eq_false_iff_not, Bool.not_eq_true', Bool.not_eq_false', Bool.not_eq_eq_eq_not, Bool.not_true, Bool.not_false, beq_iff_eq, bne_iff_ne, ne_eq, beq_eq_false_iff_ne, bne_eq_false_iff_eq, gt_iff_lt, ge_iff_le, Int.not_lt, Int.not_le] at hc90
          obtain ⟨ha1, ha2, -⟩ := hloc.2.2.2.2.2.2.1 hc90
          have hac : x.a = ((i - 1 : Nat) : Int) := by omega
          rw [if_neg hc60, if_neg hc68, if_pos hc90] at htN
          rw [if_pos (.inr (.inr (.inl hc90)))] at htT
          rw [htN, htT] at hfl
          have hkid : ∀ j, isKid n i j → j = i - 1 := fun j hj => by
            unfold isKid at hj
            rw [hxi] at hj
            rcases hj with ⟨-, hj⟩ | ⟨hj, -⟩ <;> omega
          have hfi' := hfi.one (c := i - 1) (need := 1) hil (by rw [hxi]; omega) (by omega) hkid
          rw [hac] at hfl
          refine c_reg ?_ -- region 21 fill.go:109
          refine wl (ro_move rfl) ?_
          refine wl (ro_move rfl) ?_
          refine wl (ro_fieldAddr (k := 2) rfl fo_143_2) ?_
          refine wl (ro_loadB rfl sc_3 (hX) ((show _ = some (i64c (i - 1)) from congrArg some (congrArg icv hac)))) ?_
          refine wl (ro_move rfl) ?_
          refine wl_call rfl en_170 (kid170 (need := 1) hD ho.h1.2.2.2.2.1 hnb.n hB hN hO (by omega)) ?_
          rintro _ u4 ⟨hO4, G4⟩
          replace h := h.far G4 (fun hh ↦ ho.h1.2.2.2.2.1 hh) (fun hh ↦ ho.h6 hh.symm)
          replace hF := hF.transG G4 (by intro k hk h; simp only [pset, none', one, pnset] at h ⊢ <;> omega)
          replace hN := G4.blkF hN (by intro h; simp only [pset, none', one, pnset, (ne_all ho hnb), or_self, false_or, or_false] at h <;> omega)
          replace hX := G4.blkF hX (by intro h; simp only [pset, none', one, pnset, (ne_all ho hnb), or_self, false_or, or_false] at h <;> omega)
          replace hB := G4.blkF hB (by intro h; simp only [pset, none', one, pnset, (ne_all ho hnb), or_self, false_or, or_false] at h <;> omega)
          refine wl_nil (x_blk (x_blk (x_then (hK8 _ _ ?_))))
          clear hK8 K8
          refine c_reg ?_ -- region 5 fill.go:93
          refine wl (ro_move rfl) ?_
          refine wl (ro_arith (r := (i : Int) - 1) rfl rfl rfl (Go.IntWalk.i64_in _ (by omega))) ?_
          refine wl (ro_assign rfl) ?_
          refine wl_nil (x_then ?_)
          exact ⟨i, by omega, i, _, _, T1, rfl, by omega, hfi', hfl, h, hN, hO4, hF, kp _ ⟨rfl, rfl, rfl, trivial⟩⟩
        · try simp only [decide_eq_true_eq, decide_eq_false_iff_not, Bool.not_eq_true', Bool.not_eq_false', Bool.not_eq_eq_eq_not, Bool.not_true, Bool.not_false, beq_iff_eq, bne_iff_ne, ne_eq, beq_eq_false_iff_ne, bne_eq_false_iff_eq, gt_iff_lt, ge_iff_le, Int.not_lt, Int.not_le] at hc90
          refine c_seq (fun K18 hK18 => ?_)
          refine c_reg ?_ -- region 22 fill.go:110
          refine wl (ro_cmp rfl rfl rfl) ?_
          refine wl (ro_assign rfl) ?_
          refine wl_nil (x_then (hK18 _ _ ?_))
          clear hK18 K18
          refine wc_cond rfl (fun hc98 => ?_) (fun hc98 => ?_)
          · try simp only [decide_eq_true_eq, decide_eq_false_iff_not, Bool.not_eq_true', Bool.not_eq_false', Bool.not_eq_eq_eq_not, Bool.not_true, Bool.not_false, beq_iff_eq, bne_iff_ne, ne_eq, beq_eq_false_iff_ne, bne_eq_false_iff_eq, gt_iff_lt, ge_iff_le, Int.not_lt, Int.not_le] at hc98
            obtain ⟨ha1, ha2, hb1, hb2⟩ := hloc.2.2.2.2.2.2.2 hc98
            have hac : x.a = ((i - 1 : Nat) : Int) := by omega
            rw [if_neg hc60, if_neg hc68, if_neg hc90, if_pos hc98] at htN
            rw [if_pos (.inr (.inr (.inr hc98)))] at htT
            rw [htN, htT] at hfl
            refine c_seq (fun K19 hK19 => ?_)
            refine c_reg ?_ -- region 23 fill.go:111
            refine wl (ro_move rfl) ?_
            refine wl (ro_move rfl) ?_
            refine wl (ro_fieldAddr (k := 2) rfl fo_143_2) ?_
            refine wl (ro_loadB rfl sc_3 (hX) ((show _ = some (i64c (i - 1)) from congrArg some (congrArg icv hac)))) ?_
            refine wl (ro_move rfl) ?_
            refine wl_call rfl en_170 (kid170 (need := 1) hD ho.h1.2.2.2.2.1 hnb.n hB hN hO (by omega)) ?_
            rintro _ u4 ⟨hO4, G4⟩
            replace h := h.far G4 (fun hh ↦ ho.h1.2.2.2.2.1 hh) (fun hh ↦ ho.h6 hh.symm)
            replace hF := hF.transG G4 (by intro k hk h; simp only [pset, none', one, pnset] at h ⊢ <;> omega)
            replace hN := G4.blkF hN (by intro h; simp only [pset, none', one, pnset, (ne_all ho hnb), or_self, false_or, or_false] at h <;> omega)
            replace hX := G4.blkF hX (by intro h; simp only [pset, none', one, pnset, (ne_all ho hnb), or_self, false_or, or_false] at h <;> omega)
            replace hB := G4.blkF hB (by intro h; simp only [pset, none', one, pnset, (ne_all ho hnb), or_self, false_or, or_false] at h <;> omega)
            clear hO
            have hO := hO4
            clear hO4
            refine wl_nil (x_then (hK19 _ _ ?_))
            clear hK19 K19
            refine forget [(0, _), (1, _), (5, _), (6, _)] ⟨rfl, rfl, rfl, rfl, trivial⟩ (fun e => ?_)
            refine c_seq (fun K20 hK20 => ?_)
            refine c_reg ?_ -- region 24 fill.go:112
            refine wl (ro_fieldAddr (k := 3) rfl fo_143_3) ?_
            refine wl (ro_loadB rfl sc_3 (by assumption) rfl) ?_
            refine wl (ro_cmp (r := decide (0 ≤ x.b)) rfl rfl rfl) ?_
            refine wl_nil (x_then (hK20 _ _ ?_))
            clear hK20 K20
            refine wc_cond rfl (fun hc108 => ?_) (fun hc108 => ?_)
            · try simp only [decide_eq_true_eq, decide_eq_false_iff_not, Bool.not_eq_true', Bool.not_eq_false', Bool.not_eq_eq_eq_not, Bool.not_true, Bool.not_false, beq_iff_eq, bne_iff_ne, ne_eq, beq_eq_false_iff_ne, bne_eq_false_iff_eq, gt_iff_lt, ge_iff_le, Int.not_lt, Int.not_le] at hc108
              obtain ⟨b, hbc⟩ : ∃ b : Nat, x.b = (b : Int) := ⟨x.b.toNat, by omega⟩
              rw [if_pos hc108, hac, hbc] at hfl
              have hkid : ∀ j, isKid n i j → j = i - 1 ∨ j = b := fun j hj => by
                unfold isKid at hj
                rw [hxi] at hj
                rcases hj with ⟨-, hj⟩ | ⟨-, hj⟩ <;> omega
              have hfi' := hfi.two (c := i - 1) (d := b) (need := 1) (need2 := 1) hil (by rw [hxi]; omega) (by omega) (by omega) hkid
              refine c_reg ?_ -- region 25 fill.go:113
              refine wl (ro_move rfl) ?_
              refine wl (ro_move rfl) ?_
              refine wl (ro_fieldAddr (k := 3) rfl fo_143_3) ?_
              refine wl (ro_loadB rfl sc_3 (hX) ((show _ = some (i64c b) from congrArg some (congrArg icv hbc)))) ?_
              refine wl (ro_move rfl) ?_
              refine wl_call rfl en_170 (kid170 (need := 1) hD ho.h1.2.2.2.2.1 hnb.n hB hN hO (by omega)) ?_
              rintro _ u5 ⟨hO5, G5⟩
              replace h := h.far G5 (fun hh ↦ ho.h1.2.2.2.2.1 hh) (fun hh ↦ ho.h6 hh.symm)
              replace hF := hF.transG G5 (by intro k hk h; simp only [pset, none', one, pnset] at h ⊢ <;> omega)
              replace hN := G5.blkF hN (by intro h; simp only [pset, none', one, pnset, (ne_all ho hnb), or_self, false_or, or_false] at h <;> omega)
              replace hX := G5.blkF hX (by intro h; simp only [pset, none', one, pnset, (ne_all ho hnb), or_self, false_or, or_false] at h <;> omega)
              replace hB := G5.blkF hB (by intro h; simp only [pset, none', one, pnset, (ne_all ho hnb), or_self, false_or, or_false] at h <;> omega)
              refine wl_nil (x_blk (x_blk (x_then (hK8 _ _ ?_))))
              clear hK8 K8
              refine c_reg ?_ -- region 5 fill.go:93
              refine wl (ro_move rfl) ?_
              refine wl (ro_arith (r := (i : Int) - 1) rfl rfl rfl (Go.IntWalk.i64_in _ (by omega))) ?_
              refine wl (ro_assign rfl) ?_
              refine wl_nil (x_then ?_)
              exact ⟨i, by omega, i, _, _, T1, rfl, by omega, hfi', hfl, h, hN, hO5, hF, kp _ ⟨rfl, rfl, rfl, trivial⟩⟩
            · try simp only [decide_eq_true_eq, decide_eq_false_iff_not, Bool.not_eq_true', Bool.not_eq_false', Bool.not_eq_eq_eq_not, Bool.not_true, Bool.not_false, beq_iff_eq, bne_iff_ne, ne_eq, beq_eq_false_iff_ne, bne_eq_false_iff_eq, gt_iff_lt, ge_iff_le, Int.not_lt, Int.not_le] at hc108
              rw [if_neg (by omega), hac] at hfl
              have hkid : ∀ j, isKid n i j → j = i - 1 := fun j hj => by
                unfold isKid at hj
                rw [hxi] at hj
                rcases hj with ⟨-, hj⟩ | ⟨-, hj⟩ <;> omega
              have hfi' := hfi.one (c := i - 1) (need := 1) hil (by rw [hxi]; omega) (by omega) hkid
              refine c_skip (x_blk (x_blk (x_then (hK8 _ _ ?_))))
              clear hK8 K8
              refine c_reg ?_ -- region 5 fill.go:93
              refine wl (ro_move rfl) ?_
              refine wl (ro_arith (r := (i : Int) - 1) rfl rfl rfl (Go.IntWalk.i64_in _ (by omega))) ?_
              refine wl (ro_assign rfl) ?_
              refine wl_nil (x_then ?_)
              exact ⟨i, by omega, i, _, _, T1, rfl, by omega, hfi', hfl, h, hN, hO, hF, kp _ ⟨rfl, rfl, rfl, trivial⟩⟩
          · try simp only [decide_eq_true_eq, decide_eq_false_iff_not, Bool.not_eq_true', Bool.not_eq_false', Bool.not_eq_eq_eq_not, Bool.not_true, Bool.not_false, beq_iff_eq, bne_iff_ne, ne_eq, beq_eq_false_iff_ne, bne_eq_false_iff_eq, gt_iff_lt, ge_iff_le, Int.not_lt, Int.not_le] at hc98
            rw [if_neg hc60, if_neg hc68, if_neg hc90, if_neg hc98] at htN
            rw [if_neg (by omega)] at htT
            rw [htN, htT] at hfl
            have hYl : (climbF n N (n.length - i) i (lfT x ++ T1)).length ≤ 264 := by rw [← htT]; omega
            have hlg : (lfT x ++ T1).length ≤ 264 := Nat.le_trans (climb_ge n N _ _ _) hYl
            have hfi' : FI n fn N i := hfi.none (fun j hj => by
              unfold isKid at hj
              rw [hxi] at hj
              rcases hj with ⟨hj, -⟩ | ⟨hj, -⟩ <;> omega)
            have hl1' := hloc.2.2.1
            clear hB
            refine c_seq (fun K21 hK21 => ?_)
            refine c_reg ?_ -- region 10 fill.go:116
            refine wl (ro_move rfl) ?_
            refine wl (ro_loadAggB rfl ag_143 (hX) (rfl) (rfl)) ?_
            refine wl_call rfl en_171 (leaf171 ho.h1.2.2.2.2.2 h ⟨hxA.1, hxA.2.1⟩ hl1' (by omega)) ?_
            rintro _ u4 ⟨h4, G4⟩
            replace hF := hF.transG G4 (by intro k hk h; simp only [pset, none', one, pnset] at h ⊢ <;> omega)
            replace hN := G4.blkF hN (by intro h; simp only [pset, none', one, pnset, (ne_all ho hnb), or_self, false_or, or_false] at h <;> omega)
            replace hO := G4.blkF hO (by intro h; simp only [pset, none', one, pnset, (ne_all ho hnb), or_self, false_or, or_false] at h <;> omega)
            replace hX := G4.blkF hX (by intro h; simp only [pset, none', one, pnset, (ne_all ho hnb), or_self, false_or, or_false] at h <;> omega)
            refine wl_nil (x_then (hK21 _ _ ?_))
            clear hK21 K21
            refine c_reg ?_ -- region 11 fill.go:117
            refine wl (ro_move rfl) ?_
            refine wl (ro_move rfl) ?_
            refine wl (ro_move rfl) ?_
            refine wl_call rfl en_172 (climb172 ho hD hnb h4 hN hO hil hM rfl (Nat.le_trans hYl (by decide))) ?_
            rintro _ u5 ⟨h5, G5⟩
            replace hF := hF.transG G5 (by intro k hk h; simp only [pset, none', one, pnset] at h ⊢ <;> omega)
            replace hN := G5.blkF hN (by intro h; simp only [pset, none', one, pnset, (ne_all ho hnb), or_self, false_or, or_false] at h <;> omega)
            replace hO := G5.blkF hO (by intro h; simp only [pset, none', one, pnset, (ne_all ho hnb), or_self, false_or, or_false] at h <;> omega)
            replace hX := G5.blkF hX (by intro h; simp only [pset, none', one, pnset, (ne_all ho hnb), or_self, false_or, or_false] at h <;> omega)
            refine wl_nil (x_blk (x_blk (x_then (hK8 _ _ ?_))))
            clear hK8 K8
            refine c_reg ?_ -- region 5 fill.go:93
            refine wl (ro_move rfl) ?_
            refine wl (ro_arith (r := (i : Int) - 1) rfl rfl rfl (Go.IntWalk.i64_in _ (by omega))) ?_
            refine wl (ro_assign rfl) ?_
            refine wl_nil (x_then ?_)
            exact ⟨i, by omega, i, N, fn, _, rfl, by omega, hfi', hfl, h5, hN, hO, hF, kp _ ⟨rfl, rfl, rfl, trivial⟩⟩
  · try simp only [decide_eq_true_eq, decide_eq_false_iff_not, Bool.not_eq_true', Bool.not_eq_false', Bool.not_eq_eq_eq_not, Bool.not_true, Bool.not_false, beq_iff_eq, bne_iff_ne, ne_eq, beq_eq_false_iff_ne, bne_eq_false_iff_eq, gt_iff_lt, ge_iff_le, Int.not_lt, Int.not_le] at hc29
    have hq0 : q = 0 := by omega
    subst hq0
    replace hfl : T = textF n := hfl
    subst hfl
    obtain ⟨fu', hU, hUm⟩ := h.hU
    refine c_exit (x_thenX (x_thenX (x_blkX (x_then (hK4 _ _ ?_)))))
    clear hK6 K6 hK4 K4
    refine forget [(0, _)] ⟨rfl, trivial⟩ (fun e => ?_)
    refine c_seq (fun K22 hK22 => ?_)
    refine c_pi [(0, false), (1, false), (2, false), (3, false), (4, false), (5, false), (6, false), (7, false), (8, false), (9, false), (10, false)] (fun w' => Blk w'.heap B.f (fml B 0 k pos 0 0 0 hv dn er bd ((288 - (textF n).length : Nat) : Int)) 83 ∧ FB w'.heap B.u 288 fu' 5) mixed (by kernel_rfl) rfl (by kernel_rfl) (po_then (po_bp)) (⟨hB, hU⟩) ?_ -- region 26 fill.go:120
    refine pi_ro rfl (fun w hS => ro_move rfl) ?_
    refine pi_ro rfl (fun w hS => ro_nilCheck rfl) ?_
    refine pi_ro rfl (fun w hS => ro_fieldAddr (k := 15) rfl fo_83_15) ?_
    refine pi_ro rfl (fun w hS => ro_loadB rfl sc_58 (hS.1) (rfl)) ?_
    refine pi_ro rfl (fun w hS => ro_move rfl) ?_
    refine pi_ro rfl (fun w hS => ro_nilCheck rfl) ?_
    refine pi_ro rfl (fun w hS => ro_fieldAddr (k := 16) rfl fo_83_16) ?_
    refine pi_ro rfl (fun w hS => ro_loadB rfl sc_3 (hS.1) (rfl)) ?_
    refine pi_ro rfl (fun w hS => ro_sliceL (l := 288 - (textF n).length) rfl rfl se_58 rfl (by omega)) ?_
    refine pi_ro rfl (fun w hS => ro_toSo (q := if 288 = 288 - (textF n).length then 0 else 288 - (textF n).length) (o := textF n) (N := 288 - (288 - (textF n).length)) (c := 288 - (288 - (textF n).length)) (b := B.u) (by show some (Value.slice (some (if 288 = 288 - (textF n).length then _ else _)) _ _) = _; split <;> simp) se_58 (by kernel_rfl) st_9 hS.2 (by omega) (fun j y hj ↦ by have hjl := (List.getElem?_eq_some_iff.1 hj).1; exact cel_at (by rw [if_neg (by omega)]; omega) (by rw [if_neg (by omega)]) (hUm j y hj))) ?_
    refine pi_ro rfl (fun w hS => ro_assign rfl) ?_
    refine pi_nil (x_then (hK22 _ _ ?_))
    clear hK22 K22
    refine c_ret ?_
    refine bp_ret Tryz.results130 rfl ?_
    refine ⟨rfl, ?_, hF.thenDrew⟩
    exact ⟨k, pos, er, bd, _, hv, dn, ft, fa, fv, fo, fn, fu', hB, hF.blkF hT (by rintro (q | q | q); exact ho.h1.1 q.symm; exact ho.h2.2.2.2.2 q; exact ho.h2.2.2.2.1 q), hF.blkF hAr (by rintro (q | q | q); exact ho.h1.2.1 q.symm; exact ho.h3.2.2.2 q; exact ho.h3.2.2.1 q), hF.blkF hV (by rintro (q | q | q); exact ho.h1.2.2.1 q.symm; exact ho.h4.2.2 q; exact ho.h4.2.1 q), hF.blkF hOo (by rintro (q | q | q); exact ho.h1.2.2.2.1 q.symm; exact ho.h5.2 q; exact ho.h5.1 q), hO, hU⟩

theorem Print101 {w : World} {B : FB7} {n : List Nd} {nb : Nat} (ho : FBo B) (hD : DoneOK n) (hA : AOK n) (hnb : NbO nb B) (hfm : FmR w B) (hN : Blk w.heap nb (rws ndc n) 143) :
    Ret Tryz.prog 101 [ptr B.f, trV nb n] w (fun v w' => v = .tuple #[S (textF n), icv 0] ∧ FmR w' B ∧ Fram (pnset B) w w') := by
  have hF : Fram (pnset B) w w := Fram.refl _ _
  obtain ⟨hn1, hn24, -⟩ := id hD
  refine ret_of Tryz.func101 rfl Tryz.ntmps101 rfl ?_
  refine c_seq (fun K1 hK1 => ?_)
  refine c_reg ?_ -- region 0 form.go:60
  refine wl_box (cs := [sl nb n.length, i64c (n.length - 1), icv 0, icv 0]) rfl rfl (fun b3 w1 hbb3 h3 F1 => ?_)
  have hbsb3 := Nat.le_trans hF.size hbb3
  have hnenbb3 : nb < b3 := Nat.lt_of_lt_of_le hN.lt hbb3
  replace hF := hF.thenDrew.thenN F1
  replace hN := F1.blkN hN
  replace hfm := hfm.far F1 (fun _ _ h ↦ h)
  refine wl (ro_assign rfl) ?_
  refine wl (ro_assign rfl) ?_
  refine wl_nil (x_then (hK1 _ _ ?_))
  clear hK1 K1
  refine c_seq (fun K2 hK2 => ?_)
  refine c_seq (fun K3 hK3 => ?_)
  refine c_reg ?_ -- region 1 form.go:61
  refine wl (ro_fieldAddr (k := 0) rfl fo_113_0) ?_
  refine wl (ro_loadB rfl sc_78 (by assumption) rfl) ?_
  refine wl (ro_lenL rfl se_78) ?_
  refine wl (ro_cmp (r := false) rfl rfl (congrArg some (decide_eq_false (by omega)))) ?_
  refine wl_nil (x_then (hK3 _ _ ?_))
  clear hK3 K3
  refine wc_condF rfl ?_
  refine c_skip (x_then (hK2 _ _ ?_))
  clear hK2 K2
  refine c_seq (fun K4 hK4 => ?_)
  refine c_seq (fun K5 hK5 => ?_)
  refine c_reg ?_ -- region 3 form.go:64
  refine wl (ro_loadAggB rfl ag_113 (h3) (rfl) (rfl)) ?_
  refine wl_call rfl en_129 (TreeOK129 hA hD hN) ?_
  rintro _ u1 ⟨rfl, G1⟩
  replace hfm := hfm.far G1 (fun _ _ h => h)
  replace hF := hF.transG G1 (by intro k hk h; simp only [none', pnset] at h ⊢ <;> omega)
  replace hN := G1.blkF hN (by intro h; simp only [none', pnset] at h <;> omega)
  replace h3 := G1.blkF h3 (by intro h; simp only [none', pnset] at h <;> omega)
  refine wl (ro_not rfl) ?_
  refine wl_nil (x_then (hK5 _ _ ?_))
  clear hK5 K5
  refine wc_condF rfl ?_
  refine c_skip (x_then (hK4 _ _ ?_))
  clear hK4 K4
  refine forget [(0, _), (3, _)] ⟨rfl, rfl, trivial⟩ (fun e => ?_)
  refine c_seq (fun K6 hK6 => ?_)
  refine c_reg ?_ -- region 5 form.go:67
  refine wl (ro_move rfl) ?_
  refine wl (ro_fieldAddr (k := 0) rfl fo_113_0) ?_
  refine wl (ro_loadB rfl sc_78 (by assumption) rfl) ?_
  refine wl_call rfl en_130 (fill130 ho hD hA hnb hfm hN) ?_
  rintro _ u2 ⟨rfl, hfm, G2⟩
  replace hF := hF.trans G2
  refine wl (ro_assign rfl) ?_
  refine wl (ro_assign rfl) ?_
  refine wl_nil (x_then (hK6 _ _ ?_))
  clear hK6 K6
  refine c_ret ?_
  refine bp_ret Tryz.results101 rfl ?_
  exact ⟨rfl, hfm, hF⟩

end Go.Proofs.Qxb6500570aGreat
