import Derived.Test.Qxb6500570aGreatBi
/- The real former: calls, atoms. -/
namespace Go.Proofs.Qxb6500570aGreat
set_option linter.unusedVariables false
set_option linter.unusedSimpArgs false

theorem wordT_flt (w : List UInt8) : (wordT w).k = 3 → (wordT w).n ≠ 0 := by
  unfold wordT
  split
  · intro h; cases h
  · split
    · intro h; cases h
    · split
      · intro h; cases h
      · split
        · intro _; decide
        · intro h; cases h
theorem numT_flt (d : List UInt8) : (numT d).k = 3 → (numT d).n ≠ 0 := by
  unfold numT
  split
  · intro _; decide
  · intro h; cases h
theorem sgnT_flt (c d : UInt8) : (sgnT c d).1.k = 3 → (sgnT c d).1.n ≠ 0 := by
  unfold sgnT
  split
  · rename_i h
    rcases h with rfl | rfl | rfl | rfl <;> (intro h; cases h)
  · repeat' split
    all_goals first
      | (intro h; cases h; done)
      | (intro _; decide)
theorem tkw_flt (u : List UInt8) : (tkw u).1.k = 3 → (tkw u).1.n ≠ 0 := by
  unfold tkw
  split
  · intro h; cases h
  · split
    · exact numT_flt _
    · split
      · exact wordT_flt _
      · exact sgnT_flt _ _
theorem toks_flt : ∀ (n : Nat) (u : List UInt8), u.length ≤ n → ∀ t ∈ toks u, t.k = 3 → t.n ≠ 0 := by
  intro n
  induction n with
  | zero =>
    intro u h
    have : u = [] := List.length_eq_zero_iff.1 (by omega)
    subst this
    simp [toks_nil]
  | succ n ih =>
    intro u h
    cases u with
    | nil => simp [toks_nil]
    | cons c u =>
      simp only [List.length_cons] at h
      by_cases hc : c = 32
      · subst hc; rw [toks_blank]; exact ih u (by omega)
      · have hp := tkw_pos (c :: u)
        rw [toks_cons hc]
        intro t ht
        rcases List.mem_cons.1 ht with rfl | ht
        · exact tkw_flt _
        · exact ih _ (by rw [List.length_drop, List.length_cons]; omega) t ht

set_option maxHeartbeats 4000000 in
theorem call165 {w : World} {B : FB7} {T : List Tk} {k a te : Nat} {ar : List Nd} {ov : List Nat} {os : List Mk} {dn : Bool} (ho : FBo B) (V : FW w B T k ar (ci ov) os false dn false) (ht : (hdT (T.drop k)).k = 5) (hk1 : ov.length ≤ k) (hk2 : os.length ≤ k) :
    Ret Tryz.prog 165 [ptr B.f, .agg (tkc a te (hdT (T.drop k))).toArray] w (fun v w' => v = .tuple #[] ∧ RnP B T dn w' (atomP (T.drop k) ar ov os) ∧ Fram (fset B) w w') := by
  have hF : Fram (fset B) w w := Fram.refl _ _
  obtain ⟨pos, er, bd, wi, ft, fa, fv, fo, ⟨hB, hK, hA, hV, hO, htv, hav, hvv, hmv, hkT, hlT, hla⟩, hbad⟩ := V
  obtain ⟨hkl, hdr⟩ := hd_drop (T := T) (k := k) (by omega)
  generalize htt : hdT (T.drop k) = t at ht hdr
  have hat : atomP (T.drop k) ar ov os = if (hdT (T.drop (k + 1))).k = 40 ∧ (hdT (T.drop (k + 1)).tail).k ≠ 41 ∧ (hdT (T.drop (k + 1)).tail).k ≠ 1 then some ⟨(T.drop (k + 1)).tail, ar, ov, ⟨4, t.n, 0, -1⟩ :: os, false⟩ else none := by rw [hdr]; exact atomP_call ht
  rw [hat]
  have her : er = 0 := by simpa using hbad
  refine ret_of Tryz.func165 rfl Tryz.ntmps165 rfl ?_
  refine c_seq (fun K1 hK1 => ?_)
  refine c_reg ?_ -- region 0 parse.go:156
  refine wl_box (cs := (tkc a te t)) rfl rfl (fun xb w1 hbxb hX F1 => ?_)
  have hbsxb := Nat.le_trans hF.size hbxb
  have hneB.fxb : B.f < xb := Nat.lt_of_lt_of_le hB.lt hbxb
  have hneB.txb : B.t < xb := Nat.lt_of_lt_of_le hK.lt hbxb
  have hneB.axb : B.a < xb := Nat.lt_of_lt_of_le hA.lt hbxb
  have hneB.vxb : B.v < xb := Nat.lt_of_lt_of_le hV.lt hbxb
  have hneB.oxb : B.o < xb := Nat.lt_of_lt_of_le hO.lt hbxb
  replace hF := hF.thenDrew.thenN F1
  replace hB := F1.blkN hB
  replace hK := F1.blkN hK
  replace hA := F1.blkN hA
  replace hV := F1.blkN hV
  replace hO := F1.blkN hO
  refine wl_nil (x_then (hK1 _ _ ?_))
  clear hK1 K1
  refine forget [(0, _), (3, _)] ⟨rfl, rfl, trivial⟩ (fun e => ?_)
  refine c_seq (fun K2 hK2 => ?_)
  refine c_reg ?_ -- region 1 parse.go:157
  refine wl (ro_move rfl) ?_
  refine wl_call rfl en_161 (take161 ho hkT hlT hB hK htv) ?_
  rintro _ u3 ⟨rfl, ⟨pos1, hB⟩, G3⟩
  replace hF := hF.transG G3 (by intro k hk h; simp only [one, none', fset, fo2] at h ⊢ <;> omega)
  replace hK := G3.blkF hK (by intro h; simp only [one, none', fset, fo2, ho.all, or_self, false_or, or_false] at h <;> omega)
  replace hA := G3.blkF hA (by intro h; simp only [one, none', fset, fo2, ho.all, or_self, false_or, or_false] at h <;> omega)
  replace hV := G3.blkF hV (by intro h; simp only [one, none', fset, fo2, ho.all, or_self, false_or, or_false] at h <;> omega)
  replace hO := G3.blkF hO (by intro h; simp only [one, none', fset, fo2, ho.all, or_self, false_or, or_false] at h <;> omega)
  replace hX := G3.blkF hX (by intro h; simp only [one, none', fset, fo2, ho.all, or_self, false_or, or_false] at h <;> omega)
  refine wl_nil (x_then (hK2 _ _ ?_))
  clear hK2 K2
  refine forget [(0, _), (3, _)] ⟨rfl, rfl, trivial⟩ (fun e => ?_)
  refine c_seq (fun K3 hK3 => ?_)
  refine c_reg ?_ -- region 2 parse.go:158
  refine wl (ro_move rfl) ?_
  refine wl_call rfl en_155 (look155 (k := k + 1) ho (by omega) hlT hB hK htv) ?_
  rintro _ u4 ⟨a1, te1, rfl, ⟨pos2, er2, bd2, her1, her2, hB⟩, G4⟩
  replace hF := hF.transG G4 (by intro k hk h; simp only [one, none', fset, fo2] at h ⊢ <;> omega)
  replace hK := G4.blkF hK (by intro h; simp only [one, none', fset, fo2, ho.all, or_self, false_or, or_false] at h <;> omega)
  replace hA := G4.blkF hA (by intro h; simp only [one, none', fset, fo2, ho.all, or_self, false_or, or_false] at h <;> omega)
  replace hV := G4.blkF hV (by intro h; simp only [one, none', fset, fo2, ho.all, or_self, false_or, or_false] at h <;> omega)
  replace hO := G4.blkF hO (by intro h; simp only [one, none', fset, fo2, ho.all, or_self, false_or, or_false] at h <;> omega)
  replace hX := G4.blkF hX (by intro h; simp only [one, none', fset, fo2, ho.all, or_self, false_or, or_false] at h <;> omega)
  generalize hcc : hdT (T.drop (k + 1)) = c1 at her1 her2 hat
  refine wl_new (ze_189) (fun cb w2 hbcb hC F2 => ?_)
  have hbscb := Nat.le_trans hF.size hbcb
  have hneB.fcb : B.f < cb := Nat.lt_of_lt_of_le hB.lt hbcb
  have hneB.tcb : B.t < cb := Nat.lt_of_lt_of_le hK.lt hbcb
  have hneB.acb : B.a < cb := Nat.lt_of_lt_of_le hA.lt hbcb
  have hneB.vcb : B.v < cb := Nat.lt_of_lt_of_le hV.lt hbcb
  have hneB.ocb : B.o < cb := Nat.lt_of_lt_of_le hO.lt hbcb
  have hnexbcb : xb < cb := Nat.lt_of_lt_of_le hX.lt hbcb
  replace hF := hF.thenDrew.thenN F2
  replace hB := F2.blkN hB
  replace hK := F2.blkN hK
  replace hA := F2.blkN hA
  replace hV := F2.blkN hV
  replace hO := F2.blkN hO
  replace hX := F2.blkN hX
  refine wl_puta rfl rfl ((tkc_cells a1 te1 c1)) sz_189 (rfl) hC ((by simp)) (rfl) (fun w3 hC F3 => ?_)
  replace hF := hF.thenDrew.thenO F3 (by first | exact .inr (by omega) | exact .inl rfl | exact .inl (by assumption))
  replace hB := F3.blkO hB (by first | (simp only [ne_eq, ho.all, not_false_eq_true]; done) | omega)
  replace hK := F3.blkO hK (by first | (simp only [ne_eq, ho.all, not_false_eq_true]; done) | omega)
  replace hA := F3.blkO hA (by first | (simp only [ne_eq, ho.all, not_false_eq_true]; done) | omega)
  replace hV := F3.blkO hV (by first | (simp only [ne_eq, ho.all, not_false_eq_true]; done) | omega)
  replace hO := F3.blkO hO (by first | (simp only [ne_eq, ho.all, not_false_eq_true]; done) | omega)
  replace hX := F3.blkO hX (by first | (simp only [ne_eq, ho.all, not_false_eq_true]; done) | omega)
  refine wl_nil (x_then (hK3 _ _ ?_))
  clear hK3 K3
  refine c_seq (fun K4 hK4 => ?_)
  refine c_seq (fun K5 hK5 => ?_)
  refine c_reg ?_ -- region 3 parse.go:159
  refine wl (ro_fieldAddr (k := 0) rfl fo_189_0) ?_
  refine wl (ro_loadB rfl sc_3 (hC) (rfl)) ?_
  refine wl (ro_cmp (r := decide (c1.k ≠ 40)) rfl rfl (congrArg some (bnec c1.k 40))) ?_
  refine wl_nil (x_then (hK5 _ _ ?_))
  clear hK5 K5
  refine wc_cond rfl (fun hc12 => ?_) (fun hc12 => ?_)
  · try simp only [decide_eq_true_eq, decide_eq_false_iff_not, Bool.not_eq_true', Bool.not_eq_false', Bool.not_eq_eq_eq_not, Bool.not_true, Bool.not_false, beq_iff_eq, bne_iff_ne, ne_eq, beq_eq_false_iff_ne, bne_eq_false_iff_eq, gt_iff_lt, ge_iff_le, Int.not_lt, Int.not_le] at hc12
    refine c_seq (fun K6 hK6 => ?_)
    refine c_reg ?_ -- region 4 parse.go:160
    refine wl (ro_move rfl) ?_
    refine wl (ro_fieldAddr (k := 1) rfl fo_189_1) ?_
    refine wl (ro_loadB rfl sc_3 (hX) (rfl)) ?_
    refine wl_call rfl en_160 (fail160 (by decide) hB) ?_
    rintro _ u8 ⟨rfl, ⟨er7, bd7, hne7, hB⟩, G8⟩
    replace hF := hF.transG G8 (by intro k hk h; simp only [one, none', fset, fo2] at h ⊢ <;> omega)
    replace hK := G8.blkF hK (by intro h; simp only [one, none', fset, fo2, ho.all, or_self, false_or, or_false] at h <;> omega)
    replace hA := G8.blkF hA (by intro h; simp only [one, none', fset, fo2, ho.all, or_self, false_or, or_false] at h <;> omega)
    replace hV := G8.blkF hV (by intro h; simp only [one, none', fset, fo2, ho.all, or_self, false_or, or_false] at h <;> omega)
    replace hO := G8.blkF hO (by intro h; simp only [one, none', fset, fo2, ho.all, or_self, false_or, or_false] at h <;> omega)
    replace hX := G8.blkF hX (by intro h; simp only [one, none', fset, fo2, ho.all, or_self, false_or, or_false] at h <;> omega)
    replace hC := G8.blkF hC (by intro h; simp only [one, none', fset, fo2, ho.all, or_self, false_or, or_false] at h <;> omega)
    refine wl_nil (x_then (hK6 _ _ ?_))
    clear hK6 K6
    refine c_ret (x_thenR ?_)
    refine bp_ret Tryz.results165 rfl ?_
    refine ⟨rfl, RnP.bad (k := k + 1) (ar := ar) (ov := ci ov) (os := os) (hv := false) ⟨_, _, _, _, _, _, _, _, ⟨hB, hK, hA, hV, hO, htv, hav, hvv, hmv, by omega, hlT, hla⟩, by simpa using hne7⟩ ?_, hF⟩
    rw [hcc, if_neg (fun h => hc12 h.1)]
  · try simp only [decide_eq_true_eq, decide_eq_false_iff_not, Bool.not_eq_true', Bool.not_eq_false', Bool.not_eq_eq_eq_not, Bool.not_true, Bool.not_false, beq_iff_eq, bne_iff_ne, ne_eq, beq_eq_false_iff_ne, bne_eq_false_iff_eq, gt_iff_lt, ge_iff_le, Int.not_lt, Int.not_le] at hc12
    have h40 : c1.k = 40 := by omega
    obtain ⟨hkl1, hdr1⟩ := hd_drop (T := T) (k := k + 1) (by rw [hcc]; omega)
    have her3 : er2 = er := her2 (by omega)
    rw [her3] at hB
    have htl : (T.drop (k + 1)).tail = T.drop (k + 2) := by rw [hdr1]; rfl
    refine c_skip (x_then (hK4 _ _ ?_))
    clear hK4 K4
    refine forget [(0, _), (3, _)] ⟨rfl, rfl, trivial⟩ (fun e => ?_)
    refine c_seq (fun K7 hK7 => ?_)
    refine c_reg ?_ -- region 5 parse.go:163
    refine wl (ro_move rfl) ?_
    refine wl_call rfl en_161 (take161 (k := k + 1) ho (by omega) hlT hB hK htv) ?_
    rintro _ u5 ⟨rfl, ⟨pos3, hB⟩, G5⟩
    replace hF := hF.transG G5 (by intro k hk h; simp only [one, none', fset, fo2] at h ⊢ <;> omega)
    replace hK := G5.blkF hK (by intro h; simp only [one, none', fset, fo2, ho.all, or_self, false_or, or_false] at h <;> omega)
    replace hA := G5.blkF hA (by intro h; simp only [one, none', fset, fo2, ho.all, or_self, false_or, or_false] at h <;> omega)
    replace hV := G5.blkF hV (by intro h; simp only [one, none', fset, fo2, ho.all, or_self, false_or, or_false] at h <;> omega)
    replace hO := G5.blkF hO (by intro h; simp only [one, none', fset, fo2, ho.all, or_self, false_or, or_false] at h <;> omega)
    replace hX := G5.blkF hX (by intro h; simp only [one, none', fset, fo2, ho.all, or_self, false_or, or_false] at h <;> omega)
    replace hC := G5.blkF hC (by intro h; simp only [one, none', fset, fo2, ho.all, or_self, false_or, or_false] at h <;> omega)
    refine wl_nil (x_then (hK7 _ _ ?_))
    clear hK7 K7
    refine forget [(0, _), (3, _)] ⟨rfl, rfl, trivial⟩ (fun e => ?_)
    refine c_seq (fun K8 hK8 => ?_)
    refine c_reg ?_ -- region 6 parse.go:164
    refine wl (ro_move rfl) ?_
    refine wl_call rfl en_155 (look155 (k := k + 2) ho (by omega) hlT hB hK htv) ?_
    rintro _ u6 ⟨a2, te2, rfl, ⟨pos4, er4, bd4, her5, her6, hB⟩, G6⟩
    replace hF := hF.transG G6 (by intro k hk h; simp only [one, none', fset, fo2] at h ⊢ <;> omega)
    replace hK := G6.blkF hK (by intro h; simp only [one, none', fset, fo2, ho.all, or_self, false_or, or_false] at h <;> omega)
    replace hA := G6.blkF hA (by intro h; simp only [one, none', fset, fo2, ho.all, or_self, false_or, or_false] at h <;> omega)
    replace hV := G6.blkF hV (by intro h; simp only [one, none', fset, fo2, ho.all, or_self, false_or, or_false] at h <;> omega)
    replace hO := G6.blkF hO (by intro h; simp only [one, none', fset, fo2, ho.all, or_self, false_or, or_false] at h <;> omega)
    replace hX := G6.blkF hX (by intro h; simp only [one, none', fset, fo2, ho.all, or_self, false_or, or_false] at h <;> omega)
    replace hC := G6.blkF hC (by intro h; simp only [one, none', fset, fo2, ho.all, or_self, false_or, or_false] at h <;> omega)
    generalize hcu : hdT (T.drop (k + 2)) = c2 at her5 her6
    refine wl_new (ze_189) (fun ub w4 hbub hU F4 => ?_)
    have hbsub := Nat.le_trans hF.size hbub
    have hneB.fub : B.f < ub := Nat.lt_of_lt_of_le hB.lt hbub
    have hneB.tub : B.t < ub := Nat.lt_of_lt_of_le hK.lt hbub
    have hneB.aub : B.a < ub := Nat.lt_of_lt_of_le hA.lt hbub
    have hneB.vub : B.v < ub := Nat.lt_of_lt_of_le hV.lt hbub
    have hneB.oub : B.o < ub := Nat.lt_of_lt_of_le hO.lt hbub
    have hnexbub : xb < ub := Nat.lt_of_lt_of_le hX.lt hbub
    have hnecbub : cb < ub := Nat.lt_of_lt_of_le hC.lt hbub
    replace hF := hF.thenDrew.thenN F4
    replace hB := F4.blkN hB
    replace hK := F4.blkN hK
    replace hA := F4.blkN hA
    replace hV := F4.blkN hV
    replace hO := F4.blkN hO
    replace hX := F4.blkN hX
    replace hC := F4.blkN hC
    refine wl_puta rfl rfl ((tkc_cells a2 te2 c2)) sz_189 (rfl) hU ((by simp)) (rfl) (fun w5 hU F5 => ?_)
    replace hF := hF.thenDrew.thenO F5 (by first | exact .inr (by omega) | exact .inl rfl | exact .inl (by assumption))
    replace hB := F5.blkO hB (by first | (simp only [ne_eq, ho.all, not_false_eq_true]; done) | omega)
    replace hK := F5.blkO hK (by first | (simp only [ne_eq, ho.all, not_false_eq_true]; done) | omega)
    replace hA := F5.blkO hA (by first | (simp only [ne_eq, ho.all, not_false_eq_true]; done) | omega)
    replace hV := F5.blkO hV (by first | (simp only [ne_eq, ho.all, not_false_eq_true]; done) | omega)
    replace hO := F5.blkO hO (by first | (simp only [ne_eq, ho.all, not_false_eq_true]; done) | omega)
    replace hX := F5.blkO hX (by first | (simp only [ne_eq, ho.all, not_false_eq_true]; done) | omega)
    replace hC := F5.blkO hC (by first | (simp only [ne_eq, ho.all, not_false_eq_true]; done) | omega)
    refine wl_nil (x_then (hK8 _ _ ?_))
    clear hK8 K8
    refine c_seq (fun K9 hK9 => ?_)
    refine c_seq (fun K10 hK10 => ?_)
    refine c_reg ?_ -- region 7 parse.go:165
    refine wl (ro_fieldAddr (k := 0) rfl fo_189_0) ?_
    refine wl (ro_loadB rfl sc_3 (hU) (rfl)) ?_
    refine wl (ro_cmp (r := decide (c2.k = 41)) rfl rfl (congrArg some (beqc c2.k 41))) ?_
    refine wl_nil (x_then (hK10 _ _ ?_))
    clear hK10 K10
    refine wc_cond rfl (fun hc23 => ?_) (fun hc23 => ?_)
    · try simp only [decide_eq_true_eq, decide_eq_false_iff_not, Bool.not_eq_true', Bool.not_eq_false', Bool.not_eq_eq_eq_not, Bool.not_true, Bool.not_false, beq_iff_eq, bne_iff_ne, ne_eq, beq_eq_false_iff_ne, bne_eq_false_iff_eq, gt_iff_lt, ge_iff_le, Int.not_lt, Int.not_le] at hc23
      refine c_seq (fun K11 hK11 => ?_)
      refine c_reg ?_ -- region 8 parse.go:166
      refine wl (ro_move rfl) ?_
      refine wl (ro_fieldAddr (k := 1) rfl fo_189_1) ?_
      refine wl (ro_loadB rfl sc_3 (hX) (rfl)) ?_
      refine wl_call rfl en_160 (fail160 (by decide) hB) ?_
      rintro _ u8 ⟨rfl, ⟨er7, bd7, hne7, hB⟩, G8⟩
      replace hF := hF.transG G8 (by intro k hk h; simp only [one, none', fset, fo2] at h ⊢ <;> omega)
      replace hK := G8.blkF hK (by intro h; simp only [one, none', fset, fo2, ho.all, or_self, false_or, or_false] at h <;> omega)
      replace hA := G8.blkF hA (by intro h; simp only [one, none', fset, fo2, ho.all, or_self, false_or, or_false] at h <;> omega)
      replace hV := G8.blkF hV (by intro h; simp only [one, none', fset, fo2, ho.all, or_self, false_or, or_false] at h <;> omega)
      replace hO := G8.blkF hO (by intro h; simp only [one, none', fset, fo2, ho.all, or_self, false_or, or_false] at h <;> omega)
      replace hX := G8.blkF hX (by intro h; simp only [one, none', fset, fo2, ho.all, or_self, false_or, or_false] at h <;> omega)
      replace hC := G8.blkF hC (by intro h; simp only [one, none', fset, fo2, ho.all, or_self, false_or, or_false] at h <;> omega)
      replace hU := G8.blkF hU (by intro h; simp only [one, none', fset, fo2, ho.all, or_self, false_or, or_false] at h <;> omega)
      refine wl_nil (x_then (hK11 _ _ ?_))
      clear hK11 K11
      refine c_ret (x_thenR ?_)
      refine bp_ret Tryz.results165 rfl ?_
      refine ⟨rfl, RnP.bad (k := k + 2) (ar := ar) (ov := ci ov) (os := os) (hv := false) ⟨_, _, _, _, _, _, _, _, ⟨hB, hK, hA, hV, hO, htv, hav, hvv, hmv, by omega, hlT, hla⟩, by simpa using hne7⟩ ?_, hF⟩
      rw [htl, hcu, if_neg (fun h => h.2.1 hc23)]
    · try simp only [decide_eq_true_eq, decide_eq_false_iff_not, Bool.not_eq_true', Bool.not_eq_false', Bool.not_eq_eq_eq_not, Bool.not_true, Bool.not_false, beq_iff_eq, bne_iff_ne, ne_eq, beq_eq_false_iff_ne, bne_eq_false_iff_eq, gt_iff_lt, ge_iff_le, Int.not_lt, Int.not_le] at hc23
      refine c_skip (x_then (hK9 _ _ ?_))
      clear hK9 K9
      refine c_reg ?_ -- region 9 parse.go:169
      refine wl (ro_move rfl) ?_
      refine wl (ro_fieldAddr (k := 4) rfl fo_189_4) ?_
      refine wl (ro_loadB rfl sc_3 (hX) (rfl)) ?_
      refine wl (ro_fieldAddr (k := 1) rfl fo_189_1) ?_
      refine wl (ro_loadB rfl sc_3 (hX) (rfl)) ?_
      refine wl (ro_build rfl bld_197_0_1_2_4) ?_
      refine wl_call rfl en_162 (push162 (a := (a : Int)) (m := ⟨4, t.n, 0, -1⟩) ho (by omega) hB hO hmv) ?_
      rintro _ u9 ⟨rfl, hB, ⟨fo9, hO, hmv⟩, G9⟩
      replace hF := hF.transG G9 (by intro k hk h; simp only [one, none', fset, fo2] at h ⊢ <;> omega)
      replace hK := G9.blkF hK (by intro h; simp only [one, none', fset, fo2, ho.all, or_self, false_or, or_false] at h <;> omega)
      replace hA := G9.blkF hA (by intro h; simp only [one, none', fset, fo2, ho.all, or_self, false_or, or_false] at h <;> omega)
      replace hV := G9.blkF hV (by intro h; simp only [one, none', fset, fo2, ho.all, or_self, false_or, or_false] at h <;> omega)
      replace hX := G9.blkF hX (by intro h; simp only [one, none', fset, fo2, ho.all, or_self, false_or, or_false] at h <;> omega)
      replace hC := G9.blkF hC (by intro h; simp only [one, none', fset, fo2, ho.all, or_self, false_or, or_false] at h <;> omega)
      replace hU := G9.blkF hU (by intro h; simp only [one, none', fset, fo2, ho.all, or_self, false_or, or_false] at h <;> omega)
      refine wl_nil ?_
      refine bp_end Tryz.results165 rfl ?_
      refine ⟨rfl, ?_, hF⟩
      rw [htl, hcc, hcu]
      by_cases h1 : c2.k = 1
      · rw [if_neg (fun h => h.2.2 h1)]
        exact RnP.bad (k := k + 2) (ar := ar) (ov := ci ov) (os := ⟨4, t.n, 0, -1⟩ :: os) (hv := false) ⟨_, _, _, _, _, _, _, _, ⟨hB, hK, hA, hV, hO, htv, hav, hvv, hmv, by omega, hlT, hla⟩, by simpa using her5 h1⟩ rfl
      · rw [if_pos ⟨h40, hc23, h1⟩]
        exact .inl ⟨_, k + 2, rfl, rfl, ⟨_, _, _, _, _, _, _, _, ⟨hB, hK, hA, hV, hO, htv, hav, hvv, hmv, by omega, hlT, hla⟩, by rw [her6 h1, her]; rfl⟩, by show ov.length ≤ _; omega, by show os.length + 1 ≤ _; omega⟩

set_option maxHeartbeats 4000000 in
theorem atom127 {w : World} {B : FB7} {T : List Tk} {k : Nat} {ar : List Nd} {ov : List Nat} {os : List Mk} {dn : Bool} (ho : FBo B) (V : FW w B T k ar (ci ov) os false dn false) (hft : ∀ t ∈ T, t.k = 3 → t.n ≠ 0) (hht : ov.length = nb os) (hk1 : ov.length ≤ k) (hk2 : os.length ≤ k) :
    Ret Tryz.prog 127 [ptr B.f] w (fun v w' => v = .tuple #[] ∧ RnP B T dn w' (atomP (T.drop k) ar ov os) ∧ Fram (fset B) w w') := by
  have hF : Fram (fset B) w w := Fram.refl _ _
  obtain ⟨pos, er, bd, wi, ft, fa, fv, fo, ⟨hB, hK, hA, hV, hO, htv, hav, hvv, hmv, hkT, hlT, hla⟩, hbad⟩ := V
  have her : er = 0 := by simpa using hbad
  have hcil : (ci ov).length = ov.length := by simp [ci]
  refine ret_of Tryz.func127 rfl Tryz.ntmps127 rfl ?_
  refine c_seq (fun K1 hK1 => ?_)
  refine c_reg ?_ -- region 0 parse.go:105
  refine wl (ro_move rfl) ?_
  refine wl_call rfl en_155 (look155 ho hkT hlT hB hK htv) ?_
  rintro _ u4 ⟨a, te, rfl, ⟨pos2, er2, bd2, her1, her2, hB⟩, G4⟩
  replace hF := hF.transG G4 (by intro k hk h; simp only [one, none', fset, fo2] at h ⊢ <;> omega)
  replace hK := G4.blkF hK (by intro h; simp only [one, none', fset, fo2, ho.all, or_self, false_or, or_false] at h <;> omega)
  replace hA := G4.blkF hA (by intro h; simp only [one, none', fset, fo2, ho.all, or_self, false_or, or_false] at h <;> omega)
  replace hV := G4.blkF hV (by intro h; simp only [one, none', fset, fo2, ho.all, or_self, false_or, or_false] at h <;> omega)
  replace hO := G4.blkF hO (by intro h; simp only [one, none', fset, fo2, ho.all, or_self, false_or, or_false] at h <;> omega)
  generalize htt : hdT (T.drop k) = t at her1 her2
  have hhd : hdT (T.drop k) = t := htt
  refine wl_new (ze_189) (fun xb w1 hbxb hX F1 => ?_)
  have hbsxb := Nat.le_trans hF.size hbxb
  have hneB.fxb : B.f < xb := Nat.lt_of_lt_of_le hB.lt hbxb
  have hneB.txb : B.t < xb := Nat.lt_of_lt_of_le hK.lt hbxb
  have hneB.axb : B.a < xb := Nat.lt_of_lt_of_le hA.lt hbxb
  have hneB.vxb : B.v < xb := Nat.lt_of_lt_of_le hV.lt hbxb
  have hneB.oxb : B.o < xb := Nat.lt_of_lt_of_le hO.lt hbxb
  replace hF := hF.thenDrew.thenN F1
  replace hB := F1.blkN hB
  replace hK := F1.blkN hK
  replace hA := F1.blkN hA
  replace hV := F1.blkN hV
  replace hO := F1.blkN hO
  refine wl_puta rfl rfl ((tkc_cells a te t)) sz_189 (rfl) hX ((by simp)) (rfl) (fun w2 hX F2 => ?_)
  replace hF := hF.thenDrew.thenO F2 (by first | exact .inr (by omega) | exact .inl rfl | exact .inl (by assumption))
  replace hB := F2.blkO hB (by first | (simp only [ne_eq, ho.all, not_false_eq_true]; done) | omega)
  replace hK := F2.blkO hK (by first | (simp only [ne_eq, ho.all, not_false_eq_true]; done) | omega)
  replace hA := F2.blkO hA (by first | (simp only [ne_eq, ho.all, not_false_eq_true]; done) | omega)
  replace hV := F2.blkO hV (by first | (simp only [ne_eq, ho.all, not_false_eq_true]; done) | omega)
  replace hO := F2.blkO hO (by first | (simp only [ne_eq, ho.all, not_false_eq_true]; done) | omega)
  refine wl_nil (x_then (hK1 _ _ ?_))
  clear hK1 K1
  refine forget [(0, _), (2, _)] ⟨rfl, rfl, trivial⟩ (fun e => ?_)
  refine c_seq (fun K2 hK2 => ?_)
  have hcs : t.k = 2 ∨ t.k = 4 ∨ t.k = 5 ∨ t.k = 40 ∨ t.k = 3 ∨ (t.k = 6 ∧ t.n = 8) ∨ (t.k ≠ 2 ∧ t.k ≠ 4 ∧ t.k ≠ 5 ∧ t.k ≠ 40 ∧ t.k ≠ 3 ∧ ¬ (t.k = 6 ∧ t.n = 8)) := by omega
  rcases hcs with q | q | q | q | q | q | q
  · skip
    obtain ⟨hkl, hdr⟩ := hd_drop (T := T) (k := k) (by rw [hhd]; omega)
    have her3 : er2 = er := her2 (by omega)
    rw [her3] at hB
    have htl : (T.drop k).tail = T.drop (k + 1) := by rw [hdr]; rfl
    have hat : atomP (T.drop k) ar ov os = wholeP (nLeaf t.o t.n) (T.drop (k + 1)) ar ov os := by unfold atomP; rw [hhd, if_pos q, htl]
    refine c_reg ?_ -- region 1 parse.go:106
    refine wl (ro_fieldAddr (k := 0) rfl fo_189_0) ?_
    refine wl (ro_loadB rfl sc_3 (hX) (rfl)) ?_
    refine wl_nil (x_then (hK2 _ _ ?_))
    clear hK2 K2
    refine c_block ?_
    refine forget [(0, _), (2, _), (6, _)] ⟨rfl, rfl, rfl, trivial⟩ (fun e => ?_)
    refine c_seq (fun K3 hK3 => ?_)
    refine c_reg ?_ -- region 6 parse.go:107
    refine wl (ro_cmp (r := true) rfl rfl (congrArg some ((beqc t.k 2).trans (decide_eq_true (by omega))))) ?_
    refine wl (ro_assign rfl) ?_
    refine wl_nil (x_then (hK3 _ _ ?_))
    clear hK3 K3
    refine wc_condT rfl ?_
    refine c_seq (fun K4 hK4 => ?_)
    refine c_reg ?_ -- region 7 parse.go:108
    refine wl (ro_move rfl) ?_
    refine wl_call rfl en_161 (take161 ho hkT hlT hB hK htv) ?_
    rintro _ u5 ⟨rfl, ⟨pos3, hB⟩, G5⟩
    replace hF := hF.transG G5 (by intro k hk h; simp only [one, none', fset, fo2] at h ⊢ <;> omega)
    replace hK := G5.blkF hK (by intro h; simp only [one, none', fset, fo2, ho.all, or_self, false_or, or_false] at h <;> omega)
    replace hA := G5.blkF hA (by intro h; simp only [one, none', fset, fo2, ho.all, or_self, false_or, or_false] at h <;> omega)
    replace hV := G5.blkF hV (by intro h; simp only [one, none', fset, fo2, ho.all, or_self, false_or, or_false] at h <;> omega)
    replace hO := G5.blkF hO (by intro h; simp only [one, none', fset, fo2, ho.all, or_self, false_or, or_false] at h <;> omega)
    replace hX := G5.blkF hX (by intro h; simp only [one, none', fset, fo2, ho.all, or_self, false_or, or_false] at h <;> omega)
    have V5 : FW u5 B T (k + 1) ar (ci ov) os false dn false := ⟨_, _, _, _, _, _, _, _, ⟨hB, hK, hA, hV, hO, htv, hav, hvv, hmv, by omega, hlT, hla⟩, hbad⟩
    refine wl_nil (x_then (hK4 _ _ ?_))
    clear hK4 K4
    refine c_reg ?_ -- region 8 parse.go:109
    refine wl (ro_move rfl) ?_
    refine wl (ro_fieldAddr (k := 3) rfl fo_189_3) ?_
    refine wl (ro_loadB rfl sc_3 (hX) (rfl)) ?_
    refine wl (ro_fieldAddr (k := 4) rfl fo_189_4) ?_
    refine wl (ro_loadB rfl sc_3 (hX) (rfl)) ?_
    refine wl (ro_build rfl bld_143_0_2_3_4) ?_
    refine wl_call rfl en_163 (whole163 (x := nLeaf t.o t.n) ho V5 (by rw [hcil]; exact hht) (by rw [hcil]; omega) (by omega)) ?_
    rintro _ u6 ⟨rfl, V6, G6⟩
    replace hF := hF.transG G6 (fun k _ h ↦ h)
    refine wl_nil (x_blk ?_)
    refine bp_end Tryz.results127 rfl ?_
    exact ⟨rfl, by rw [hat]; exact RnP.whole V6 rfl hht (by omega) (by omega), hF⟩
  · skip
    have her3 : er2 = er := her2 (by omega)
    rw [her3] at hB
    have V4 : FW _ B T k ar (ci ov) os false dn false := ⟨_, _, _, _, _, _, _, _, ⟨hB, hK, hA, hV, hO, htv, hav, hvv, hmv, hkT, hlT, hla⟩, hbad⟩
    have hcal := ref164 (a := a) (te := te) ho V4 (by rw [hhd]; exact q) hht hk1 hk2
    rw [hhd] at hcal
    refine c_reg ?_ -- region 1 parse.go:106
    refine wl (ro_fieldAddr (k := 0) rfl fo_189_0) ?_
    refine wl (ro_loadB rfl sc_3 (hX) (rfl)) ?_
    refine wl_nil (x_then (hK2 _ _ ?_))
    clear hK2 K2
    refine c_block ?_
    refine forget [(0, _), (2, _), (6, _)] ⟨rfl, rfl, rfl, trivial⟩ (fun e => ?_)
    refine c_seq (fun K5 hK5 => ?_)
    refine c_reg ?_ -- region 6 parse.go:107
    refine wl (ro_cmp (r := false) rfl rfl (congrArg some ((beqc t.k 2).trans (decide_eq_false (by omega))))) ?_
    refine wl (ro_assign rfl) ?_
    refine wl_nil (x_then (hK5 _ _ ?_))
    clear hK5 K5
    refine wc_condF rfl ?_
    refine c_seq (fun K6 hK6 => ?_)
    refine c_reg ?_ -- region 9 parse.go:110
    refine wl (ro_cmp (r := true) rfl rfl (congrArg some ((beqc t.k 4).trans (decide_eq_true (by omega))))) ?_
    refine wl (ro_assign rfl) ?_
    refine wl_nil (x_then (hK6 _ _ ?_))
    clear hK6 K6
    refine wc_condT rfl ?_
    refine c_reg ?_ -- region 10 parse.go:111
    refine wl (ro_move rfl) ?_
    refine wl (ro_loadAggB rfl ag_189 (hX) (rfl) (rfl)) ?_
    refine wl_call rfl en_164 (hcal) ?_
    rintro _ u6 ⟨rfl, V6, G6⟩
    replace hF := hF.transG G6 (fun k _ h ↦ h)
    refine wl_nil (x_blk ?_)
    refine bp_end Tryz.results127 rfl ?_
    exact ⟨rfl, V6, hF⟩
  · skip
    have her3 : er2 = er := her2 (by omega)
    rw [her3] at hB
    have V4 : FW _ B T k ar (ci ov) os false dn false := ⟨_, _, _, _, _, _, _, _, ⟨hB, hK, hA, hV, hO, htv, hav, hvv, hmv, hkT, hlT, hla⟩, hbad⟩
    have hcal := call165 (a := a) (te := te) ho V4 (by rw [hhd]; exact q) hk1 hk2
    rw [hhd] at hcal
    refine c_reg ?_ -- region 1 parse.go:106
    refine wl (ro_fieldAddr (k := 0) rfl fo_189_0) ?_
    refine wl (ro_loadB rfl sc_3 (hX) (rfl)) ?_
    refine wl_nil (x_then (hK2 _ _ ?_))
    clear hK2 K2
    refine c_block ?_
    refine forget [(0, _), (2, _), (6, _)] ⟨rfl, rfl, rfl, trivial⟩ (fun e => ?_)
    refine c_seq (fun K7 hK7 => ?_)
    refine c_reg ?_ -- region 6 parse.go:107
    refine wl (ro_cmp (r := false) rfl rfl (congrArg some ((beqc t.k 2).trans (decide_eq_false (by omega))))) ?_
    refine wl (ro_assign rfl) ?_
    refine wl_nil (x_then (hK7 _ _ ?_))
    clear hK7 K7
    refine wc_condF rfl ?_
    refine c_seq (fun K8 hK8 => ?_)
    refine c_reg ?_ -- region 9 parse.go:110
    refine wl (ro_cmp (r := false) rfl rfl (congrArg some ((beqc t.k 4).trans (decide_eq_false (by omega))))) ?_
    refine wl (ro_assign rfl) ?_
    refine wl_nil (x_then (hK8 _ _ ?_))
    clear hK8 K8
    refine wc_condF rfl ?_
    refine c_seq (fun K9 hK9 => ?_)
    refine c_reg ?_ -- region 11 parse.go:112
    refine wl (ro_cmp (r := true) rfl rfl (congrArg some ((beqc t.k 5).trans (decide_eq_true (by omega))))) ?_
    refine wl (ro_assign rfl) ?_
    refine wl_nil (x_then (hK9 _ _ ?_))
    clear hK9 K9
    refine wc_condT rfl ?_
    refine c_reg ?_ -- region 12 parse.go:113
    refine wl (ro_move rfl) ?_
    refine wl (ro_loadAggB rfl ag_189 (hX) (rfl) (rfl)) ?_
    refine wl_call rfl en_165 (hcal) ?_
    rintro _ u6 ⟨rfl, V6, G6⟩
    replace hF := hF.transG G6 (fun k _ h ↦ h)
    refine wl_nil (x_blk ?_)
    refine bp_end Tryz.results127 rfl ?_
    exact ⟨rfl, V6, hF⟩
  · skip
    obtain ⟨hkl, hdr⟩ := hd_drop (T := T) (k := k) (by rw [hhd]; omega)
    have her3 : er2 = er := her2 (by omega)
    rw [her3] at hB
    have htl : (T.drop k).tail = T.drop (k + 1) := by rw [hdr]; rfl
    have hat : atomP (T.drop k) ar ov os = some ⟨T.drop (k + 1), ar, ov, ⟨3, 0, 0, 0⟩ :: os, false⟩ := by unfold atomP; rw [hhd, if_neg (by omega), if_neg (by omega), if_neg (by omega), if_pos q, htl]
    refine c_reg ?_ -- region 1 parse.go:106
    refine wl (ro_fieldAddr (k := 0) rfl fo_189_0) ?_
    refine wl (ro_loadB rfl sc_3 (hX) (rfl)) ?_
    refine wl_nil (x_then (hK2 _ _ ?_))
    clear hK2 K2
    refine c_block ?_
    refine forget [(0, _), (2, _), (6, _)] ⟨rfl, rfl, rfl, trivial⟩ (fun e => ?_)
    refine c_seq (fun K10 hK10 => ?_)
    refine c_reg ?_ -- region 6 parse.go:107
    refine wl (ro_cmp (r := false) rfl rfl (congrArg some ((beqc t.k 2).trans (decide_eq_false (by omega))))) ?_
    refine wl (ro_assign rfl) ?_
    refine wl_nil (x_then (hK10 _ _ ?_))
    clear hK10 K10
    refine wc_condF rfl ?_
    refine c_seq (fun K11 hK11 => ?_)
    refine c_reg ?_ -- region 9 parse.go:110
    refine wl (ro_cmp (r := false) rfl rfl (congrArg some ((beqc t.k 4).trans (decide_eq_false (by omega))))) ?_
    refine wl (ro_assign rfl) ?_
    refine wl_nil (x_then (hK11 _ _ ?_))
    clear hK11 K11
    refine wc_condF rfl ?_
    refine c_seq (fun K12 hK12 => ?_)
    refine c_reg ?_ -- region 11 parse.go:112
    refine wl (ro_cmp (r := false) rfl rfl (congrArg some ((beqc t.k 5).trans (decide_eq_false (by omega))))) ?_
    refine wl (ro_assign rfl) ?_
    refine wl_nil (x_then (hK12 _ _ ?_))
    clear hK12 K12
    refine wc_condF rfl ?_
    refine c_seq (fun K13 hK13 => ?_)
    refine c_reg ?_ -- region 13 parse.go:114
    refine wl (ro_cmp (r := true) rfl rfl (congrArg some ((beqc t.k 40).trans (decide_eq_true (by omega))))) ?_
    refine wl (ro_assign rfl) ?_
    refine wl_nil (x_then (hK13 _ _ ?_))
    clear hK13 K13
    refine wc_condT rfl ?_
    refine c_seq (fun K14 hK14 => ?_)
    refine c_reg ?_ -- region 14 parse.go:115
    refine wl (ro_move rfl) ?_
    refine wl_call rfl en_161 (take161 ho hkT hlT hB hK htv) ?_
    rintro _ u5 ⟨rfl, ⟨pos3, hB⟩, G5⟩
    replace hF := hF.transG G5 (by intro k hk h; simp only [one, none', fset, fo2] at h ⊢ <;> omega)
    replace hK := G5.blkF hK (by intro h; simp only [one, none', fset, fo2, ho.all, or_self, false_or, or_false] at h <;> omega)
    replace hA := G5.blkF hA (by intro h; simp only [one, none', fset, fo2, ho.all, or_self, false_or, or_false] at h <;> omega)
    replace hV := G5.blkF hV (by intro h; simp only [one, none', fset, fo2, ho.all, or_self, false_or, or_false] at h <;> omega)
    replace hO := G5.blkF hO (by intro h; simp only [one, none', fset, fo2, ho.all, or_self, false_or, or_false] at h <;> omega)
    replace hX := G5.blkF hX (by intro h; simp only [one, none', fset, fo2, ho.all, or_self, false_or, or_false] at h <;> omega)
    refine wl_nil (x_then (hK14 _ _ ?_))
    clear hK14 K14
    refine c_reg ?_ -- region 15 parse.go:116
    refine wl (ro_move rfl) ?_
    refine wl (ro_build rfl bld_197_0) ?_
    refine wl_call rfl en_162 (push162 (a := 0) (m := ⟨3, 0, 0, 0⟩) ho (by omega) hB hO hmv) ?_
    rintro _ u9 ⟨rfl, hB, ⟨fo9, hO, hmv⟩, G9⟩
    replace hF := hF.transG G9 (by intro k hk h; simp only [one, none', fset, fo2] at h ⊢ <;> omega)
    replace hK := G9.blkF hK (by intro h; simp only [one, none', fset, fo2, ho.all, or_self, false_or, or_false] at h <;> omega)
    replace hA := G9.blkF hA (by intro h; simp only [one, none', fset, fo2, ho.all, or_self, false_or, or_false] at h <;> omega)
    replace hV := G9.blkF hV (by intro h; simp only [one, none', fset, fo2, ho.all, or_self, false_or, or_false] at h <;> omega)
    replace hX := G9.blkF hX (by intro h; simp only [one, none', fset, fo2, ho.all, or_self, false_or, or_false] at h <;> omega)
    refine wl_nil (x_blk ?_)
    refine bp_end Tryz.results127 rfl ?_
    exact ⟨rfl, by rw [hat]; exact .inl ⟨_, k + 1, rfl, rfl, ⟨_, _, _, _, _, _, _, _, ⟨hB, hK, hA, hV, hO, htv, hav, hvv, hmv, by omega, hlT, hla⟩, hbad⟩, by show ov.length ≤ _; omega, by show os.length + 1 ≤ _; omega⟩, hF⟩
  · skip
    have hat : atomP (T.drop k) ar ov os = none := by unfold atomP; rw [hhd, if_neg (by omega), if_neg (by omega), if_neg (by omega), if_neg (by omega), if_neg (by omega)]
    have hn0 : t.n ≠ 0 := by
      obtain ⟨hkl, hdr⟩ := hd_drop (T := T) (k := k) (by rw [hhd]; omega)
      rw [hhd] at hdr
      exact hft t (List.mem_of_mem_drop (by rw [hdr]; simp)) q
    refine c_reg ?_ -- region 1 parse.go:106
    refine wl (ro_fieldAddr (k := 0) rfl fo_189_0) ?_
    refine wl (ro_loadB rfl sc_3 (hX) (rfl)) ?_
    refine wl_nil (x_then (hK2 _ _ ?_))
    clear hK2 K2
    refine c_block ?_
    refine forget [(0, _), (2, _), (6, _)] ⟨rfl, rfl, rfl, trivial⟩ (fun e => ?_)
    refine c_seq (fun K15 hK15 => ?_)
    refine c_reg ?_ -- region 6 parse.go:107
    refine wl (ro_cmp (r := false) rfl rfl (congrArg some ((beqc t.k 2).trans (decide_eq_false (by omega))))) ?_
    refine wl (ro_assign rfl) ?_
    refine wl_nil (x_then (hK15 _ _ ?_))
    clear hK15 K15
    refine wc_condF rfl ?_
    refine c_seq (fun K16 hK16 => ?_)
    refine c_reg ?_ -- region 9 parse.go:110
    refine wl (ro_cmp (r := false) rfl rfl (congrArg some ((beqc t.k 4).trans (decide_eq_false (by omega))))) ?_
    refine wl (ro_assign rfl) ?_
    refine wl_nil (x_then (hK16 _ _ ?_))
    clear hK16 K16
    refine wc_condF rfl ?_
    refine c_seq (fun K17 hK17 => ?_)
    refine c_reg ?_ -- region 11 parse.go:112
    refine wl (ro_cmp (r := false) rfl rfl (congrArg some ((beqc t.k 5).trans (decide_eq_false (by omega))))) ?_
    refine wl (ro_assign rfl) ?_
    refine wl_nil (x_then (hK17 _ _ ?_))
    clear hK17 K17
    refine wc_condF rfl ?_
    refine c_seq (fun K18 hK18 => ?_)
    refine c_reg ?_ -- region 13 parse.go:114
    refine wl (ro_cmp (r := false) rfl rfl (congrArg some ((beqc t.k 40).trans (decide_eq_false (by omega))))) ?_
    refine wl (ro_assign rfl) ?_
    refine wl_nil (x_then (hK18 _ _ ?_))
    clear hK18 K18
    refine wc_condF rfl ?_
    refine c_seq (fun K19 hK19 => ?_)
    refine c_reg ?_ -- region 16 parse.go:117
    refine wl (ro_cmp (r := true) rfl rfl (congrArg some ((beqc t.k 3).trans (decide_eq_true (by omega))))) ?_
    refine wl (ro_assign rfl) ?_
    refine wl_nil (x_then (hK19 _ _ ?_))
    clear hK19 K19
    refine wc_condT rfl ?_
    refine c_reg ?_ -- region 17 parse.go:118
    refine wl (ro_move rfl) ?_
    refine wl (ro_fieldAddr (k := 4) rfl fo_189_4) ?_
    refine wl (ro_loadB rfl sc_3 (hX) (rfl)) ?_
    refine wl (ro_fieldAddr (k := 1) rfl fo_189_1) ?_
    refine wl (ro_loadB rfl sc_3 (hX) (rfl)) ?_
    refine wl_call rfl en_160 (fail160 (e := (t.n : Int)) (by omega) hB) ?_
    rintro _ u8 ⟨rfl, ⟨er7, bd7, hne7, hB⟩, G8⟩
    replace hF := hF.transG G8 (by intro k hk h; simp only [one, none', fset, fo2] at h ⊢ <;> omega)
    replace hK := G8.blkF hK (by intro h; simp only [one, none', fset, fo2, ho.all, or_self, false_or, or_false] at h <;> omega)
    replace hA := G8.blkF hA (by intro h; simp only [one, none', fset, fo2, ho.all, or_self, false_or, or_false] at h <;> omega)
    replace hV := G8.blkF hV (by intro h; simp only [one, none', fset, fo2, ho.all, or_self, false_or, or_false] at h <;> omega)
    replace hO := G8.blkF hO (by intro h; simp only [one, none', fset, fo2, ho.all, or_self, false_or, or_false] at h <;> omega)
    replace hX := G8.blkF hX (by intro h; simp only [one, none', fset, fo2, ho.all, or_self, false_or, or_false] at h <;> omega)
    refine wl_nil (x_blk ?_)
    refine bp_end Tryz.results127 rfl ?_
    exact ⟨rfl, RnP.bad (k := k) (ar := ar) (ov := ci ov) (os := os) (hv := false) ⟨_, _, _, _, _, _, _, _, ⟨hB, hK, hA, hV, hO, htv, hav, hvv, hmv, hkT, hlT, hla⟩, by simpa using hne7⟩ hat, hF⟩
  · skip
    obtain ⟨hkl, hdr⟩ := hd_drop (T := T) (k := k) (by rw [hhd]; omega)
    have her3 : er2 = er := her2 (by omega)
    rw [her3] at hB
    have htl : (T.drop k).tail = T.drop (k + 1) := by rw [hdr]; rfl
    have hat : atomP (T.drop k) ar ov os = some ⟨T.drop (k + 1), ar, ov, ⟨1, 0, 0, 0⟩ :: os, false⟩ := by unfold atomP; rw [hhd, if_neg (by omega), if_neg (by omega), if_neg (by omega), if_neg (by omega), if_pos q, htl]
    refine c_reg ?_ -- region 1 parse.go:106
    refine wl (ro_fieldAddr (k := 0) rfl fo_189_0) ?_
    refine wl (ro_loadB rfl sc_3 (hX) (rfl)) ?_
    refine wl_nil (x_then (hK2 _ _ ?_))
    clear hK2 K2
    refine c_block ?_
    refine forget [(0, _), (2, _), (6, _)] ⟨rfl, rfl, rfl, trivial⟩ (fun e => ?_)
    refine c_seq (fun K20 hK20 => ?_)
    refine c_reg ?_ -- region 6 parse.go:107
    refine wl (ro_cmp (r := false) rfl rfl (congrArg some ((beqc t.k 2).trans (decide_eq_false (by omega))))) ?_
    refine wl (ro_assign rfl) ?_
    refine wl_nil (x_then (hK20 _ _ ?_))
    clear hK20 K20
    refine wc_condF rfl ?_
    refine c_seq (fun K21 hK21 => ?_)
    refine c_reg ?_ -- region 9 parse.go:110
    refine wl (ro_cmp (r := false) rfl rfl (congrArg some ((beqc t.k 4).trans (decide_eq_false (by omega))))) ?_
    refine wl (ro_assign rfl) ?_
    refine wl_nil (x_then (hK21 _ _ ?_))
    clear hK21 K21
    refine wc_condF rfl ?_
    refine c_seq (fun K22 hK22 => ?_)
    refine c_reg ?_ -- region 11 parse.go:112
    refine wl (ro_cmp (r := false) rfl rfl (congrArg some ((beqc t.k 5).trans (decide_eq_false (by omega))))) ?_
    refine wl (ro_assign rfl) ?_
    refine wl_nil (x_then (hK22 _ _ ?_))
    clear hK22 K22
    refine wc_condF rfl ?_
    refine c_seq (fun K23 hK23 => ?_)
    refine c_reg ?_ -- region 13 parse.go:114
    refine wl (ro_cmp (r := false) rfl rfl (congrArg some ((beqc t.k 40).trans (decide_eq_false (by omega))))) ?_
    refine wl (ro_assign rfl) ?_
    refine wl_nil (x_then (hK23 _ _ ?_))
    clear hK23 K23
    refine wc_condF rfl ?_
    refine c_seq (fun K24 hK24 => ?_)
    refine c_reg ?_ -- region 16 parse.go:117
    refine wl (ro_cmp (r := false) rfl rfl (congrArg some ((beqc t.k 3).trans (decide_eq_false (by omega))))) ?_
    refine wl (ro_assign rfl) ?_
    refine wl_nil (x_then (hK24 _ _ ?_))
    clear hK24 K24
    refine wc_condF rfl ?_
    refine c_seq (fun K25 hK25 => ?_)
    refine c_seq (fun K26 hK26 => ?_)
    refine c_reg ?_ -- region 2 parse.go:120
    refine wl (ro_fieldAddr (k := 0) rfl fo_189_0) ?_
    refine wl (ro_loadB rfl sc_3 (hX) (rfl)) ?_
    refine wl (ro_cmp (r := false) rfl rfl (congrArg some ((bnec t.k 6).trans (decide_eq_false (by omega))))) ?_
    refine wl (ro_move rfl) ?_
    refine wlg_yes rfl (ro_fieldAddr (k := 4) rfl fo_189_4) ?_
    refine wlg_yes rfl (ro_loadB rfl sc_3 (hX) (rfl)) ?_
    refine wlg_yes rfl (ro_cmp (r := false) rfl rfl (congrArg some ((bnec t.n 8).trans (decide_eq_false (by omega))))) ?_
    refine wl (ro_pick rfl rfl rfl) ?_
    refine wl_nil (x_then (hK26 _ _ ?_))
    clear hK26 K26
    refine wc_condF rfl ?_
    refine c_skip (x_then (hK25 _ _ ?_))
    clear hK25 K25
    refine forget [(0, _)] ⟨rfl, trivial⟩ (fun e => ?_)
    refine c_seq (fun K27 hK27 => ?_)
    refine c_reg ?_ -- region 4 parse.go:124
    refine wl (ro_move rfl) ?_
    refine wl_call rfl en_161 (take161 ho hkT hlT hB hK htv) ?_
    rintro _ u5 ⟨rfl, ⟨pos3, hB⟩, G5⟩
    replace hF := hF.transG G5 (by intro k hk h; simp only [one, none', fset, fo2] at h ⊢ <;> omega)
    replace hK := G5.blkF hK (by intro h; simp only [one, none', fset, fo2, ho.all, or_self, false_or, or_false] at h <;> omega)
    replace hA := G5.blkF hA (by intro h; simp only [one, none', fset, fo2, ho.all, or_self, false_or, or_false] at h <;> omega)
    replace hV := G5.blkF hV (by intro h; simp only [one, none', fset, fo2, ho.all, or_self, false_or, or_false] at h <;> omega)
    replace hO := G5.blkF hO (by intro h; simp only [one, none', fset, fo2, ho.all, or_self, false_or, or_false] at h <;> omega)
    replace hX := G5.blkF hX (by intro h; simp only [one, none', fset, fo2, ho.all, or_self, false_or, or_false] at h <;> omega)
    refine wl_nil (x_then (hK27 _ _ ?_))
    clear hK27 K27
    refine c_reg ?_ -- region 5 parse.go:125
    refine wl (ro_move rfl) ?_
    refine wl (ro_build rfl bld_197_0) ?_
    refine wl_call rfl en_162 (push162 (a := 0) (m := ⟨1, 0, 0, 0⟩) ho (by omega) hB hO hmv) ?_
    rintro _ u9 ⟨rfl, hB, ⟨fo9, hO, hmv⟩, G9⟩
    replace hF := hF.transG G9 (by intro k hk h; simp only [one, none', fset, fo2] at h ⊢ <;> omega)
    replace hK := G9.blkF hK (by intro h; simp only [one, none', fset, fo2, ho.all, or_self, false_or, or_false] at h <;> omega)
    replace hA := G9.blkF hA (by intro h; simp only [one, none', fset, fo2, ho.all, or_self, false_or, or_false] at h <;> omega)
    replace hV := G9.blkF hV (by intro h; simp only [one, none', fset, fo2, ho.all, or_self, false_or, or_false] at h <;> omega)
    replace hX := G9.blkF hX (by intro h; simp only [one, none', fset, fo2, ho.all, or_self, false_or, or_false] at h <;> omega)
    refine wl_nil (x_blk ?_)
    refine bp_end Tryz.results127 rfl ?_
    exact ⟨rfl, by rw [hat]; exact .inl ⟨_, k + 1, rfl, rfl, ⟨_, _, _, _, _, _, _, _, ⟨hB, hK, hA, hV, hO, htv, hav, hvv, hmv, by omega, hlT, hla⟩, hbad⟩, by show ov.length ≤ _; omega, by show os.length + 1 ≤ _; omega⟩, hF⟩
  · skip
    have hat : atomP (T.drop k) ar ov os = none := by unfold atomP; rw [hhd, if_neg q.1, if_neg q.2.1, if_neg q.2.2.1, if_neg q.2.2.2.1, if_neg q.2.2.2.2.2]
    refine c_reg ?_ -- region 1 parse.go:106
    refine wl (ro_fieldAddr (k := 0) rfl fo_189_0) ?_
    refine wl (ro_loadB rfl sc_3 (hX) (rfl)) ?_
    refine wl_nil (x_then (hK2 _ _ ?_))
    clear hK2 K2
    refine c_block ?_
    refine forget [(0, _), (2, _), (6, _)] ⟨rfl, rfl, rfl, trivial⟩ (fun e => ?_)
    refine c_seq (fun K28 hK28 => ?_)
    refine c_reg ?_ -- region 6 parse.go:107
    refine wl (ro_cmp (r := false) rfl rfl (congrArg some ((beqc t.k 2).trans (decide_eq_false (by omega))))) ?_
    refine wl (ro_assign rfl) ?_
    refine wl_nil (x_then (hK28 _ _ ?_))
    clear hK28 K28
    refine wc_condF rfl ?_
    refine c_seq (fun K29 hK29 => ?_)
    refine c_reg ?_ -- region 9 parse.go:110
    refine wl (ro_cmp (r := false) rfl rfl (congrArg some ((beqc t.k 4).trans (decide_eq_false (by omega))))) ?_
    refine wl (ro_assign rfl) ?_
    refine wl_nil (x_then (hK29 _ _ ?_))
    clear hK29 K29
    refine wc_condF rfl ?_
    refine c_seq (fun K30 hK30 => ?_)
    refine c_reg ?_ -- region 11 parse.go:112
    refine wl (ro_cmp (r := false) rfl rfl (congrArg some ((beqc t.k 5).trans (decide_eq_false (by omega))))) ?_
    refine wl (ro_assign rfl) ?_
    refine wl_nil (x_then (hK30 _ _ ?_))
    clear hK30 K30
    refine wc_condF rfl ?_
    refine c_seq (fun K31 hK31 => ?_)
    refine c_reg ?_ -- region 13 parse.go:114
    refine wl (ro_cmp (r := false) rfl rfl (congrArg some ((beqc t.k 40).trans (decide_eq_false (by omega))))) ?_
    refine wl (ro_assign rfl) ?_
    refine wl_nil (x_then (hK31 _ _ ?_))
    clear hK31 K31
    refine wc_condF rfl ?_
    refine c_seq (fun K32 hK32 => ?_)
    refine c_reg ?_ -- region 16 parse.go:117
    refine wl (ro_cmp (r := false) rfl rfl (congrArg some ((beqc t.k 3).trans (decide_eq_false (by omega))))) ?_
    refine wl (ro_assign rfl) ?_
    refine wl_nil (x_then (hK32 _ _ ?_))
    clear hK32 K32
    refine wc_condF rfl ?_
    refine c_seq (fun K33 hK33 => ?_)
    refine c_seq (fun K34 hK34 => ?_)
    rcases Classical.em (t.k = 6) with q6 | q6
    · skip
      refine c_reg ?_ -- region 2 parse.go:120
      refine wl (ro_fieldAddr (k := 0) rfl fo_189_0) ?_
      refine wl (ro_loadB rfl sc_3 (hX) (rfl)) ?_
      refine wl (ro_cmp (r := false) rfl rfl (congrArg some ((bnec t.k 6).trans (decide_eq_false (by omega))))) ?_
      refine wl (ro_move rfl) ?_
      refine wlg_yes rfl (ro_fieldAddr (k := 4) rfl fo_189_4) ?_
      refine wlg_yes rfl (ro_loadB rfl sc_3 (hX) (rfl)) ?_
      refine wlg_yes rfl (ro_cmp (r := true) rfl rfl (congrArg some ((bnec t.n 8).trans (decide_eq_true (by omega))))) ?_
      refine wl (ro_pick rfl rfl rfl) ?_
      refine wl_nil (x_then (hK34 _ _ ?_))
      clear hK34 K34
      refine wc_condT rfl ?_
      refine c_seq (fun K35 hK35 => ?_)
      refine c_reg ?_ -- region 3 parse.go:121
      refine wl (ro_move rfl) ?_
      refine wl (ro_fieldAddr (k := 1) rfl fo_189_1) ?_
      refine wl (ro_loadB rfl sc_3 (hX) (rfl)) ?_
      refine wl_call rfl en_160 (fail160 (by decide) hB) ?_
      rintro _ u8 ⟨rfl, ⟨er7, bd7, hne7, hB⟩, G8⟩
      replace hF := hF.transG G8 (by intro k hk h; simp only [one, none', fset, fo2] at h ⊢ <;> omega)
      replace hK := G8.blkF hK (by intro h; simp only [one, none', fset, fo2, ho.all, or_self, false_or, or_false] at h <;> omega)
      replace hA := G8.blkF hA (by intro h; simp only [one, none', fset, fo2, ho.all, or_self, false_or, or_false] at h <;> omega)
      replace hV := G8.blkF hV (by intro h; simp only [one, none', fset, fo2, ho.all, or_self, false_or, or_false] at h <;> omega)
      replace hO := G8.blkF hO (by intro h; simp only [one, none', fset, fo2, ho.all, or_self, false_or, or_false] at h <;> omega)
      replace hX := G8.blkF hX (by intro h; simp only [one, none', fset, fo2, ho.all, or_self, false_or, or_false] at h <;> omega)
      refine wl_nil (x_then (hK35 _ _ ?_))
      clear hK35 K35
      refine c_ret (x_thenR (x_blkR ?_))
      refine bp_ret Tryz.results127 rfl ?_
      exact ⟨rfl, RnP.bad (k := k) (ar := ar) (ov := ci ov) (os := os) (hv := false) ⟨_, _, _, _, _, _, _, _, ⟨hB, hK, hA, hV, hO, htv, hav, hvv, hmv, hkT, hlT, hla⟩, by simpa using hne7⟩ hat, hF⟩
    · skip
      refine c_reg ?_ -- region 2 parse.go:120
      refine wl (ro_fieldAddr (k := 0) rfl fo_189_0) ?_
      refine wl (ro_loadB rfl sc_3 (hX) (rfl)) ?_
      refine wl (ro_cmp (r := true) rfl rfl (congrArg some ((bnec t.k 6).trans (decide_eq_true (by omega))))) ?_
      refine wl (ro_move rfl) ?_
      refine wlg_no rfl ?_
      refine wlg_no rfl ?_
      refine wlg_no rfl ?_
      refine wl (ro_pick rfl rfl rfl) ?_
      refine wl_nil (x_then (hK34 _ _ ?_))
      clear hK34 K34
      refine wc_condT rfl ?_
      refine c_seq (fun K36 hK36 => ?_)
      refine c_reg ?_ -- region 3 parse.go:121
      refine wl (ro_move rfl) ?_
      refine wl (ro_fieldAddr (k := 1) rfl fo_189_1) ?_
      refine wl (ro_loadB rfl sc_3 (hX) (rfl)) ?_
      refine wl_call rfl en_160 (fail160 (by decide) hB) ?_
      rintro _ u8 ⟨rfl, ⟨er7, bd7, hne7, hB⟩, G8⟩
      replace hF := hF.transG G8 (by intro k hk h; simp only [one, none', fset, fo2] at h ⊢ <;> omega)
      replace hK := G8.blkF hK (by intro h; simp only [one, none', fset, fo2, ho.all, or_self, false_or, or_false] at h <;> omega)
      replace hA := G8.blkF hA (by intro h; simp only [one, none', fset, fo2, ho.all, or_self, false_or, or_false] at h <;> omega)
      replace hV := G8.blkF hV (by intro h; simp only [one, none', fset, fo2, ho.all, or_self, false_or, or_false] at h <;> omega)
      replace hO := G8.blkF hO (by intro h; simp only [one, none', fset, fo2, ho.all, or_self, false_or, or_false] at h <;> omega)
      replace hX := G8.blkF hX (by intro h; simp only [one, none', fset, fo2, ho.all, or_self, false_or, or_false] at h <;> omega)
      refine wl_nil (x_then (hK36 _ _ ?_))
      clear hK36 K36
      refine c_ret (x_thenR (x_blkR ?_))
      refine bp_ret Tryz.results127 rfl ?_
      exact ⟨rfl, RnP.bad (k := k) (ar := ar) (ov := ci ov) (os := os) (hv := false) ⟨_, _, _, _, _, _, _, _, ⟨hB, hK, hA, hV, hO, htv, hav, hvv, hmv, hkT, hlT, hla⟩, by simpa using hne7⟩ hat, hF⟩

end Go.Proofs.Qxb6500570aGreat
