import Derived.Test.Qxb6500567aGreatEe
/- The model's simplifier: Core, New. -/
namespace Go.Proofs.Qxb6500567aGreat
set_option linter.unusedVariables false
set_option linter.unusedSimpArgs false

/-- What the model's Core answers: its error alone is asked for. -/
def EV (v : Value) (X : Except Er (RE × Nat)) : Prop := match X with
  | .error e => v = .agg (erV e).toArray
  | .ok _ => ∃ x0 x1 x2 : Value, v = .agg [x0, x1, x2, icv 0, icv 0].toArray ∧ ∀ u ∈ [x0, x1, x2, icv 0, icv 0], u.oneCell' = true

theorem child_le {r : RE} (h : zs r ≤ 31) : nds (child r) ≤ 31 := by unfold zs at h; omega

set_option maxHeartbeats 4000000 in
theorem Core67 {w : World} {mb pb k c : Nat} {p : List UInt8} (hB : Blk w.heap mb [ptr pb, i64c k] 137) (hP : Blk w.heap pb [i64c c] 135) (hmp : pb < mb) (hk : k ≤ 1000000000000000000) (hc : c ≤ 1000000000000000000) (hpm : p.length ≤ 9223372036854775807) :
    Ret Tryz.prog 67 [ptr mb, S p] w (fun v w' => EV v (coreT p) ∧ Blk w'.heap mb [ptr pb, i64c (k + 1)] 137 ∧ Blk w'.heap pb [i64c (c + 1)] 135 ∧ Fram (two mb pb) w w') := by
  have hF : Fram (two mb pb) w w := Fram.refl _ _
  have hm1 : two mb pb mb := .inl rfl
  have hm2 : two mb pb pb := .inr rfl
  have b1 := hB.lt
  have b2 := hP.lt
  refine ret_of Tryz.func67 rfl Tryz.ntmps67 rfl ?_
  refine c_seq (fun K1 hK1 => ?_)
  refine c_reg ?_ -- region 0 simpm.go:234
  refine wl_new (ze_151) (fun vb w1 hbvb hM F1 => ?_)
  have hbsvb := Nat.le_trans hF.size hbvb
  have hnembvb : mb < vb := Nat.lt_of_lt_of_le hB.lt hbvb
  have hnepbvb : pb < vb := Nat.lt_of_lt_of_le hP.lt hbvb
  replace hF := hF.thenDrew.thenN F1
  replace hB := F1.blkN hB
  replace hP := F1.blkN hP
  refine wl_nil (x_then (hK1 _ _ ?_))
  clear hK1 K1
  refine forget [(0, _), (1, _), (4, _)] ⟨rfl, rfl, rfl, trivial⟩ (fun e => ?_)
  refine c_seq (fun K2 hK2 => ?_)
  refine c_reg ?_ -- region 1 simpm.go:235
  refine wl (ro_move rfl) ?_
  refine wl (ro_nilCheck rfl) ?_
  refine wl (ro_fieldAddr (k := 1) rfl fo_137_1) ?_
  refine wl (ro_loadB rfl sc_3 (hB) (rfl)) ?_
  refine wl (ro_arith rfl rfl rfl (Go.IntWalk.i64_in _ (by omega))) ?_
  refine wl (ro_nilCheck rfl) ?_
  refine wl (ro_fieldAddr (k := 1) rfl fo_137_1) ?_
  refine wl_put rfl rfl rfl sz_3 hB ((by simp)) (rfl) (fun w2 hB F2 => ?_)
  replace hF := hF.thenDrew.thenO F2 (by first | exact .inr (by omega) | exact .inl rfl | exact .inl (by assumption))
  replace hP := F2.blkO hP (by omega)
  replace hM := F2.blkO hM (by omega)
  refine wl_nil (x_then (hK2 _ _ ?_))
  clear hK2 K2
  refine forget [(0, _), (1, _), (4, _)] ⟨rfl, rfl, rfl, trivial⟩ (fun e => ?_)
  refine c_seq (fun K3 hK3 => ?_)
  rcases hPT : parseT p with e3 | ⟨r3, g3⟩
  · skip
    have he3 := parseT_er hPT
    have hCT : coreT p = .error e3 := by unfold coreT; rw [hPT]
    refine c_reg ?_ -- region 2 simpm.go:236
    refine wl (ro_move rfl) ?_
    refine wl (ro_nilCheck rfl) ?_
    refine wl (ro_fieldAddr (k := 0) rfl fo_137_0) ?_
    refine wl (ro_loadB rfl sc_79 (hB) (rfl)) ?_
    refine wl (ro_move rfl) ?_
    refine wl_call rfl en_66 (Parse66 hP (by omega) hpm) ?_
    rintro v w3 ⟨hTV, hP, F3⟩
    replace hF := hF.transG F3 (by intro k hk h; simp only [one, two, none'] at h ⊢ <;> omega)
    replace hB := F3.blkF hB (by intro h; simp only [one, two, none'] at h <;> omega)
    replace hM := F3.blkF hM (by intro h; simp only [one, two, none'] at h <;> omega)
    rw [hPT] at hTV
    obtain rfl := hTV
    refine wl_new (ze_151) (fun tb w3 hbtb hX F3 => ?_)
    have hbstb := Nat.le_trans hF.size hbtb
    have hnembtb : mb < tb := Nat.lt_of_lt_of_le hB.lt hbtb
    have hnepbtb : pb < tb := Nat.lt_of_lt_of_le hP.lt hbtb
    have hnevbtb : vb < tb := Nat.lt_of_lt_of_le hM.lt hbtb
    replace hF := hF.thenDrew.thenN F3
    replace hB := F3.blkN hB
    replace hP := F3.blkN hP
    replace hM := F3.blkN hM
    refine wl_puta rfl rfl (by simp [Value.oneCell', i64c, u64c, u8c, ptr]) sz_151 (rfl) hX ((by simp)) (rfl) (fun w4 hX F4 => ?_)
    replace hF := hF.thenDrew.thenO F4 (by first | exact .inr (by omega) | exact .inl rfl | exact .inl (by assumption))
    replace hB := F4.blkO hB (by omega)
    replace hP := F4.blkO hP (by omega)
    replace hM := F4.blkO hM (by omega)
    refine wl_nil (x_then (hK3 _ _ ?_))
    clear hK3 K3
    refine c_seq (fun K4 hK4 => ?_)
    refine c_seq (fun K5 hK5 => ?_)
    refine c_reg ?_ -- region 3 simpm.go:237
    refine wl (ro_fieldAddr (k := 3) rfl fo_151_3) ?_
    refine wl (ro_loadB rfl sc_53 (hX) (rfl)) ?_
    refine wl (ro_cmp (r := true) rfl rfl (congrArg some ((bnec e3.1 0).trans (decide_eq_true he3)))) ?_
    refine wl_nil (x_then (hK5 _ _ ?_))
    clear hK5 K5
    refine wc_condT rfl ?_
    refine c_seq (fun K6 hK6 => ?_)
    refine c_reg ?_ -- region 4 simpm.go:238
    refine wl (ro_loadAggB rfl ag_151 (hX) (rfl) (rfl)) ?_
    refine wl_puta rfl rfl (by simp [Value.oneCell', i64c, u64c, u8c, ptr]) sz_151 (rfl) hM ((by simp)) (rfl) (fun w5 hM F5 => ?_)
    replace hF := hF.thenDrew.thenO F5 (by first | exact .inr (by omega) | exact .inl rfl | exact .inl (by assumption))
    replace hB := F5.blkO hB (by omega)
    replace hP := F5.blkO hP (by omega)
    replace hX := F5.blkO hX (by omega)
    refine wl_nil (x_then (hK6 _ _ ?_))
    clear hK6 K6
    refine c_ret (x_thenR ?_)
    refine bq_ret (res1 Tryz.results67 (rv_c rfl ag_151 (hM) rfl)) ?_
    rw [hCT]; exact ⟨rfl, hB, hP, hF⟩
  · skip
    obtain ⟨hw3, hn3⟩ := parseT_ok hPT
    have hmlt := hM.lt
    refine c_reg ?_ -- region 2 simpm.go:236
    refine wl (ro_move rfl) ?_
    refine wl (ro_nilCheck rfl) ?_
    refine wl (ro_fieldAddr (k := 0) rfl fo_137_0) ?_
    refine wl (ro_loadB rfl sc_79 (hB) (rfl)) ?_
    refine wl (ro_move rfl) ?_
    refine wl_call rfl en_66 (Parse66 hP (by omega) hpm) ?_
    rintro v w3 ⟨hTV, hP, F3⟩
    have hszl := hF.size
    replace hF := hF.transG F3 (by intro k hk h; simp only [one, two, none'] at h ⊢ <;> omega)
    replace hB := F3.blkF hB (by intro h; simp only [one, two, none'] at h <;> omega)
    replace hM := F3.blkF hM (by intro h; simp only [one, two, none'] at h <;> omega)
    rw [hPT] at hTV
    obtain ⟨nb, cap, root, T, cc, rfl, hnb, hT, hle, h24, hAR, hroot⟩ := hTV
    have hmbnb : vb < nb := Nat.lt_of_lt_of_le hmlt hnb
    have hnbw : w.heap.size ≤ nb := Nat.le_trans hszl hnb
    refine wl_new (ze_151) (fun tb w6 hbtb hX F6 => ?_)
    have hbstb := Nat.le_trans hF.size hbtb
    have hnembtb : mb < tb := Nat.lt_of_lt_of_le hB.lt hbtb
    have hnepbtb : pb < tb := Nat.lt_of_lt_of_le hP.lt hbtb
    have hnevbtb : vb < tb := Nat.lt_of_lt_of_le hM.lt hbtb
    have hnenbtb : nb < tb := Nat.lt_of_lt_of_le hT.lt hbtb
    replace hF := hF.thenDrew.thenN F6
    replace hB := F6.blkN hB
    replace hP := F6.blkN hP
    replace hM := F6.blkN hM
    replace hT := F6.blkN hT
    refine wl_puta rfl rfl (by simp [Value.oneCell', i64c, u64c, u8c, ptr]) sz_151 (rfl) hX ((by simp)) (rfl) (fun w7 hX F7 => ?_)
    replace hF := hF.thenDrew.thenO F7 (by first | exact .inr (by omega) | exact .inl rfl | exact .inl (by assumption))
    replace hB := F7.blkO hB (by omega)
    replace hP := F7.blkO hP (by omega)
    replace hM := F7.blkO hM (by omega)
    replace hT := F7.blkO hT (by omega)
    refine wl_nil (x_then (hK3 _ _ ?_))
    clear hK3 K3
    refine c_seq (fun K7 hK7 => ?_)
    refine c_seq (fun K8 hK8 => ?_)
    refine c_reg ?_ -- region 3 simpm.go:237
    refine wl (ro_fieldAddr (k := 3) rfl fo_151_3) ?_
    refine wl (ro_loadB rfl sc_53 (hX) (rfl)) ?_
    refine wl (ro_cmp rfl rfl rfl) ?_
    refine wl_nil (x_then (hK8 _ _ ?_))
    clear hK8 K8
    refine wc_condF rfl ?_
    refine c_skip (x_then (hK7 _ _ ?_))
    clear hK7 K7
    refine c_seq (fun K9 hK9 => ?_)
    refine c_seq (fun K10 hK10 => ?_)
    refine c_reg ?_ -- region 5 simpm.go:240
    refine wl (ro_loadAggB rfl ag_151 (hX) (rfl) (rfl)) ?_
    refine wl (ro_fieldAddr (k := 1) rfl fo_151_1) ?_
    refine wl (ro_loadB rfl sc_3 (hX) (rfl)) ?_
    refine wl_call rfl en_91 (leaf91 hle hAR (size118 hle hAR root) hT hroot hw3) ?_
    rintro _ w8 ⟨rfl, F8⟩
    replace hF := hF.thenDrew.thenN F8
    replace hB := F8.blkN hB
    replace hP := F8.blkN hP
    replace hM := F8.blkN hM
    replace hT := F8.blkN hT
    replace hX := F8.blkN hX
    refine wl (ro_cmp (r := decide (31 < zs r3)) rfl rfl (congrArg some (decide_eq_decide.2 (by show ((zs r3 : Nat) : Int) > 31 ↔ _; omega)))) ?_
    refine wl_nil (x_then (hK10 _ _ ?_))
    clear hK10 K10
    refine wc_cond rfl (fun hc30 => ?_) (fun hc30 => ?_)
    · try simp only [decide_eq_true_eq, decide_eq_false_iff_not, Bool.not_eq_true', Bool.not_eq_false', Bool.not_eq_eq_eq_not, Bool.not_true, Bool.not_false, beq_iff_eq, bne_iff_ne, ne_eq, beq_eq_false_iff_ne, bne_eq_false_iff_eq, gt_iff_lt, ge_iff_le, Int.not_lt, Int.not_le] at hc30
      have hcg : 31 < nds (child r3) := by unfold zs at hc30; omega
      have hCT : coreT p = .error (8, 0) := by unfold coreT; rw [hPT]; simp only; rw [if_pos hcg]
      refine c_seq (fun K11 hK11 => ?_)
      refine c_reg ?_ -- region 6 simpm.go:241
      refine wl (ro_build rfl bld_151_1_3_4) ?_
      refine wl_puta rfl rfl (by simp [Value.oneCell', i64c, u64c, u8c, ptr]) sz_151 (rfl) hM ((by simp)) (rfl) (fun w9 hM F9 => ?_)
      replace hF := hF.thenDrew.thenO F9 (by first | exact .inr (by omega) | exact .inl rfl | exact .inl (by assumption))
      replace hB := F9.blkO hB (by omega)
      replace hP := F9.blkO hP (by omega)
      replace hT := F9.blkO hT (by omega)
      replace hX := F9.blkO hX (by omega)
      refine wl_nil (x_then (hK11 _ _ ?_))
      clear hK11 K11
      refine c_ret (x_thenR ?_)
      refine bq_ret (res1 Tryz.results67 (rv_c rfl ag_151 (hM) rfl)) ?_
      rw [hCT]
      first
        | exact ⟨rfl, hB, hP, hF⟩
        | exact ⟨⟨_, _, _, rfl, by simp [Value.oneCell', i64c, icv]⟩, hB, hP, hF⟩
    · try simp only [decide_eq_true_eq, decide_eq_false_iff_not, Bool.not_eq_true', Bool.not_eq_false', Bool.not_eq_eq_eq_not, Bool.not_true, Bool.not_false, beq_iff_eq, bne_iff_ne, ne_eq, beq_eq_false_iff_ne, bne_eq_false_iff_eq, gt_iff_lt, ge_iff_le, Int.not_lt, Int.not_le] at hc30
      have hcg : nds (child r3) ≤ 31 := child_le (by omega)
      have hCT : coreT p = .ok (r3, g3) := by unfold coreT; rw [hPT]; simp only; rw [if_neg (by omega)]
      have hcp := nds_pos (child r3)
      refine c_skip (x_then (hK9 _ _ ?_))
      clear hK9 K9
      refine forget [(4, _), (5, _)] ⟨rfl, rfl, trivial⟩ (fun e => ?_)
      refine c_seq (fun K12 hK12 => ?_)
      refine c_reg ?_ -- region 7 simpm.go:243
      refine wl (ro_loadAggB rfl ag_151 (hX) (rfl) (rfl)) ?_
      refine wl (ro_build rfl bld_193_0) ?_
      refine wl_box (cs := (tcs nb T.length cap (i64c root) (i64c g3) (icv 0) (icv 0) (.slice none 0 0))) rfl rfl (fun rb w10 hbrb hR F10 => ?_)
      have hbsrb := Nat.le_trans hF.size hbrb
      have hnembrb : mb < rb := Nat.lt_of_lt_of_le hB.lt hbrb
      have hnepbrb : pb < rb := Nat.lt_of_lt_of_le hP.lt hbrb
      have hnevbrb : vb < rb := Nat.lt_of_lt_of_le hM.lt hbrb
      have hnenbrb : nb < rb := Nat.lt_of_lt_of_le hT.lt hbrb
      have hnetbrb : tb < rb := Nat.lt_of_lt_of_le hX.lt hbrb
      replace hF := hF.thenDrew.thenN F10
      replace hB := F10.blkN hB
      replace hP := F10.blkN hP
      replace hM := F10.blkN hM
      replace hT := F10.blkN hT
      replace hX := F10.blkN hX
      refine wl (ro_assign rfl) ?_
      refine wl_nil (x_then (hK12 _ _ ?_))
      clear hK12 K12
      refine forget [(4, _), (5, _), (6, _)] ⟨rfl, rfl, rfl, trivial⟩ (fun e => ?_)
      refine c_seq (fun K13 hK13 => ?_)
      refine c_reg ?_ -- region 8 simpm.go:244
      refine wl (ro_move rfl) ?_
      refine wl (ro_fieldAddr (k := 1) rfl fo_151_1) ?_
      refine wl (ro_loadB rfl sc_3 (hX) (rfl)) ?_
      refine wl_call rfl en_92 (child92 (n := 0) (by simp [Value.oneCell', i64c, icv]) hle hAR (build120 (by simp [Value.oneCell', i64c, icv]) hle hAR root) ⟨hR, [], Own.nil _ _ _, by simp⟩ hT (by simp [Value.ownBlock]) (by omega) hroot hw3 (by omega)) ?_
      rintro _ w6 ⟨⟨j6, rfl⟩, VN6, ⟨hR6, xs6, hon6, hxc6⟩, hnb6, F6⟩
      have hmf : ∀ b, b < rb → ¬ mfr rb (.slice none 0 0) b := by
        rintro b hb (h | h)
        · omega
        · simp [Value.ownBlock] at h
      clear hR
      replace hB := F6.blkF hB (hmf _ (by omega))
      replace hP := F6.blkF hP (hmf _ (by omega))
      replace hM := F6.blkF hM (hmf _ (by omega))
      replace hX := F6.blkF hX (hmf _ (by omega))
      replace hT := F6.blkF hT (hmf _ (by omega))
      replace hF := hF.transG F6 (fun k hk h => absurd h (hmf k (by omega)))
      have hR := hR6
      rw [Nat.zero_add] at hon6
      obtain ⟨gb, cap6, l6, rfl, hG, hc61, hc62, hl6, hx6⟩ := hon6.pos hcp
      have hgl := hG.lt
      have hG' : FB w6.heap gb l6.length (fun j => l6.getD j undef) 89 := (congrArg (fun l => Blk w6.heap gb l 89) (cel_of l6)).mp hG
      refine wl (ro_assign rfl) ?_
      refine wl_nil (x_then (hK13 _ _ ?_))
      clear hK13 K13
      refine forget [(4, _), (5, _), (6, _), (7, _)] ⟨rfl, rfl, rfl, rfl, trivial⟩ (fun e => ?_)
      refine c_seq (fun K14 hK14 => ?_)
      refine c_reg ?_ -- region 9 simpm.go:245
      refine wl (ro_move rfl) ?_
      refine wl (ro_nilCheck rfl) ?_
      refine wl (ro_fieldAddr (k := 5) rfl fo_193_1) ?_
      refine wl (ro_loadB rfl sc_98 (hR) (rfl)) ?_
      refine wl (ro_lenL rfl se_98) ?_
      refine wl_make (len := nds (child r3)) (cap := nds (child r3)) rfl rfl se_98 ze_89 (by simp) (by omega) (by omega) rfl bb_89 (fun qb w11 hbqb hN F11 => ?_)
      have hbsqb := Nat.le_trans hF.size hbqb
      have hnembqb : mb < qb := Nat.lt_of_lt_of_le hB.lt hbqb
      have hnepbqb : pb < qb := Nat.lt_of_lt_of_le hP.lt hbqb
      have hnevbqb : vb < qb := Nat.lt_of_lt_of_le hM.lt hbqb
      have hnenbqb : nb < qb := Nat.lt_of_lt_of_le hT.lt hbqb
      have hnetbqb : tb < qb := Nat.lt_of_lt_of_le hX.lt hbqb
      have hnerbqb : rb < qb := Nat.lt_of_lt_of_le hR.lt hbqb
      have hnegbqb : gb < qb := Nat.lt_of_lt_of_le hG'.lt hbqb
      replace hF := hF.thenDrew.thenN F11
      replace hB := F11.blkN hB
      replace hP := F11.blkN hP
      replace hM := F11.blkN hM
      replace hT := F11.blkN hT
      replace hX := F11.blkN hX
      replace hR := F11.blkN hR
      replace hG' := F11.blkN hG'
      refine wl (ro_assign rfl) ?_
      refine wl_nil (x_then (hK14 _ _ ?_))
      clear hK14 K14
      refine forget [(4, _), (5, _), (6, _), (7, _), (8, _)] ⟨rfl, rfl, rfl, rfl, rfl, trivial⟩ (fun e => ?_)
      refine c_seq (fun K15 hK15 => ?_)
      refine c_reg ?_ -- region 10 simpm.go:246
      refine wl (ro_move rfl) ?_
      refine wl (ro_move rfl) ?_
      refine wl (ro_nilCheck rfl) ?_
      refine wl (ro_fieldAddr (k := 5) rfl fo_193_1) ?_
      refine wl (ro_loadB rfl sc_98 (hR) (rfl)) ?_
      refine wl_copy (m := nds (child r3)) (k := 11) rfl rfl se_98 hN hG' (Nat.min_self _) (fun j hj ↦ ?_) (by omega) (by omega) (fun w17 hN F17 ↦ ?_)
      · skip
        refine hxc6 _ ?_
        rw [← hx6]
        have hjl : j < (l6.take (nds (child r3) * 11)).length := by rw [List.length_take]; omega
        have : l6.getD (0 + j) undef = (l6.take (nds (child r3) * 11))[j] := by
          rw [Nat.zero_add, List.getElem_take, List.getD, List.getElem?_eq_getElem (by rw [List.length_take] at hjl; omega)]
          rfl
        rw [this]
        exact List.getElem_mem _
      replace hF := hF.transG F17 (by intro k hk h; simp only [one, two, none'] at h ⊢ <;> omega)
      replace hB := F17.blkF hB (by intro h; simp only [one, two, none'] at h <;> omega)
      replace hP := F17.blkF hP (by intro h; simp only [one, two, none'] at h <;> omega)
      replace hM := F17.blkF hM (by intro h; simp only [one, two, none'] at h <;> omega)
      replace hT := F17.blkF hT (by intro h; simp only [one, two, none'] at h <;> omega)
      replace hX := F17.blkF hX (by intro h; simp only [one, two, none'] at h <;> omega)
      replace hR := F17.blkF hR (by intro h; simp only [one, two, none'] at h <;> omega)
      refine wl_nil (x_then (hK15 _ _ ?_))
      clear hK15 K15
      refine forget [(4, _), (5, _), (7, _), (8, _)] ⟨rfl, rfl, rfl, rfl, trivial⟩ (fun e => ?_)
      refine c_seq (fun K16 hK16 => ?_)
      refine c_reg ?_ -- region 11 simpm.go:247
      refine wl (ro_move rfl) ?_
      refine wl (ro_move rfl) ?_
      refine wl (ro_fieldAddr (k := 2) rfl fo_151_2) ?_
      refine wl (ro_loadB rfl sc_3 (hX) (rfl)) ?_
      refine wl (ro_build rfl bld_151_0_1_2) ?_
      refine wl_puta rfl rfl (by simp [Value.oneCell', i64c, u64c, u8c, ptr]) sz_151 (rfl) hM ((by simp)) (rfl) (fun w12 hM F12 => ?_)
      replace hF := hF.thenDrew.thenO F12 (by first | exact .inr (by omega) | exact .inl rfl | exact .inl (by assumption))
      replace hB := F12.blkO hB (by omega)
      replace hP := F12.blkO hP (by omega)
      replace hT := F12.blkO hT (by omega)
      replace hX := F12.blkO hX (by omega)
      replace hR := F12.blkO hR (by omega)
      replace hN := F12.blkO hN (by omega)
      refine wl_nil (x_then (hK16 _ _ ?_))
      clear hK16 K16
      refine c_ret ?_
      refine bq_ret (res1 Tryz.results67 (rv_c rfl ag_151 (hM) rfl)) ?_
      rw [hCT]
      first
        | exact ⟨rfl, hB, hP, hF⟩
        | exact ⟨⟨_, _, _, rfl, by simp [Value.oneCell', i64c, icv]⟩, hB, hP, hF⟩

theorem New34 {w : World} : Ret Tryz.prog 34 [] w (fun v w' => ∃ mb pb, v = ptr mb ∧ w.heap.size ≤ pb ∧ pb < mb ∧ Blk w'.heap mb [ptr pb, i64c 0] 137 ∧ Blk w'.heap pb [i64c 0] 135 ∧ Fram none' w w') := by
  have hF : Fram none' w w := Fram.refl _ _
  refine ret_of Tryz.func34 rfl Tryz.ntmps34 rfl ?_
  refine c_seq (fun K1 hK1 => ?_)
  refine c_reg ?_ -- region 0 simpm.go:14
  refine wl (ro_assign rfl) ?_
  refine wl_nil (x_then (hK1 _ _ ?_))
  clear hK1 K1
  refine forget [] trivial (fun e => ?_)
  refine c_seq (fun K2 hK2 => ?_)
  refine c_reg ?_ -- region 1 simpm.go:14
  refine wl_call rfl en_33 (New33) ?_
  rintro _ w1 ⟨pb, rfl, hpb, hP, F1⟩
  replace hF := hF.transG F1 (by intro k hk h; simp only [one, two, none'] at h ⊢ <;> omega)
  refine wl (ro_build rfl bld_137_0) ?_
  refine wl_box (cs := [ptr pb, i64c 0]) rfl rfl (fun mb w1 hbmb hB F1 => ?_)
  have hbsmb := Nat.le_trans hF.size hbmb
  have hnepbmb : pb < mb := Nat.lt_of_lt_of_le hP.lt hbmb
  replace hF := hF.thenDrew.thenN F1
  replace hP := F1.blkN hP
  refine wl (ro_assign rfl) ?_
  refine wl_nil (x_then (hK2 _ _ ?_))
  clear hK2 K2
  refine c_ret ?_
  refine bp_ret Tryz.results34 rfl ?_
  exact ⟨mb, pb, rfl, hpb, by omega, hB, hP, hF⟩

end Go.Proofs.Qxb6500567aGreat
