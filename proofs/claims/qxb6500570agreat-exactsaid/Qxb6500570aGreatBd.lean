import Derived.Test.Qxb6500570aGreatBc
/- The real former: a sign's token; the scan. -/
namespace Go.Proofs.Qxb6500570aGreat
set_option linter.unusedVariables false
set_option linter.unusedSimpArgs false

abbrev zTk : List Value := [i64c 0, i64c 0, i64c 0, i64c 0, i64c 0, icv 0, icv 0, .bool false, .bool false]

set_option maxHeartbeats 4000000 in
theorem sign154 {w : World} {s : List UInt8} {i : Nat} {c : UInt8} (hc : s[i]? = some c) (hs : s.length ≤ 40) : Ret Tryz.prog 154 [S s, i64c i] w (fun v w' => v = .agg (tkc i (i + (sgnT c ((s.drop (i + 1)).headD 0)).2) (sgnT c ((s.drop (i + 1)).headD 0)).1).toArray ∧ Fram none' w w') := by
  have hF : Fram none' w w := Fram.refl _ _
  have hil : i < s.length := (List.getElem?_eq_some_iff.1 hc).1
  generalize hdd : (s.drop (i + 1)).headD 0 = d
  have hd1 : ∀ x, s[i + 1]? = some x → d = x := by
    intro x hx
    rw [← hdd, List.headD_eq_head?_getD, List.head?_drop, hx]
    rfl
  have hd0 : s.length ≤ i + 1 → d = 0 := by
    intro h
    rw [← hdd, List.drop_eq_nil_of_le h]
    rfl
  refine ret_of Tryz.func154 rfl Tryz.ntmps154 rfl ?_
  refine c_seq (fun K1 hK1 => ?_)
  refine c_reg ?_ -- region 0 scan.go:135
  refine wl_new (ze_189) (fun rb w1 hbrb hR F1 => ?_)
  have hbsrb := Nat.le_trans hF.size hbrb
  replace hF := hF.thenDrew.thenN F1
  refine wl_nil (x_then (hK1 _ _ ?_))
  clear hK1 K1
  refine forget [(0, _), (1, _), (4, _)] ⟨rfl, rfl, rfl, trivial⟩ (fun e => ?_)
  refine c_seq (fun K2 hK2 => ?_)
  refine c_reg ?_ -- region 1 scan.go:136
  refine wl (ro_move rfl) ?_
  refine wl (ro_move rfl) ?_
  refine wl (ro_arith (r := ((i + 1 : Nat) : Int)) rfl rfl rfl (Go.IntWalk.i64_in _ (by omega))) ?_
  refine wl (ro_build rfl bld_189_0_1_2) ?_
  refine wl_new (ze_189) (fun tb w2 hbtb hT F2 => ?_)
  have hbstb := Nat.le_trans hF.size hbtb
  have hnerbtb : rb < tb := Nat.lt_of_lt_of_le hR.lt hbtb
  replace hF := hF.thenDrew.thenN F2
  replace hR := F2.blkN hR
  refine wl_puta rfl rfl ((tkc_cells i (i + 1) ⟨6, 0, 0, zR⟩)) sz_189 (rfl) hT ((by simp)) (rfl) (fun w3 hT F3 => ?_)
  replace hF := hF.thenDrew.thenO F3 (by first | exact .inr (by omega) | exact .inl rfl | exact .inl (by assumption))
  replace hR := F3.blkO hR (by omega)
  refine wl_nil (x_then (hK2 _ _ ?_))
  clear hK2 K2
  refine forget [(0, _), (1, _), (4, _), (5, _)] ⟨rfl, rfl, rfl, rfl, trivial⟩ (fun e => ?_)
  refine c_seq (fun K3 hK3 => ?_)
  refine c_reg ?_ -- region 2 scan.go:137
  refine wl (ro_assign rfl) ?_
  refine wl_nil (x_then (hK3 _ _ ?_))
  clear hK3 K3
  refine c_mid (fun a' w' => Blk w'.heap rb zTk 189 ∧ Blk w'.heap tb (tkc i (i + 1) ⟨6, 0, 0, zR⟩) 189 ∧ Fram none' w w' ∧ ∃ e, a' = Fr 86 (upds e [(0, S s), (1, i64c i), (4, ptr rb), (5, ptr tb), (6, u8c d)]) []) ?_ ?_
  · skip
    refine c_seq (fun K4 hK4 => ?_)
    refine c_reg ?_ -- region 3 scan.go:138
    refine wl (ro_move rfl) ?_
    refine wl (ro_arith (r := ((i + 1 : Nat) : Int)) rfl rfl rfl (Go.IntWalk.i64_in _ (by omega))) ?_
    refine wl (ro_move rfl) ?_
    refine wl (ro_lenS rfl st_9) ?_
    refine wl (ro_cmp (r := decide (i + 1 < s.length)) rfl rfl (congrArg some (decide_eq_decide.2 (by omega)))) ?_
    refine wl_nil (x_then (hK4 _ _ ?_))
    clear hK4 K4
    refine wc_cond rfl (fun hc15 => ?_) (fun hc15 => ?_)
    · try simp only [decide_eq_true_eq, decide_eq_false_iff_not, Bool.not_eq_true', Bool.not_eq_false', Bool.not_eq_eq_eq_not, Bool.not_true, Bool.not_false, beq_iff_eq, bne_iff_ne, ne_eq, beq_eq_false_iff_ne, bne_eq_false_iff_eq, gt_iff_lt, ge_iff_le, Int.not_lt, Int.not_le] at hc15
      obtain ⟨x, hx⟩ : ∃ x, s[i + 1]? = some x := ⟨_, List.getElem?_eq_getElem hc15⟩
      have hdx := hd1 x hx
      refine c_reg ?_ -- region 4 scan.go:139
      refine wl (ro_move rfl) ?_
      refine wl (ro_move rfl) ?_
      refine wl (ro_arith (r := ((i + 1 : Nat) : Int)) rfl rfl rfl (Go.IntWalk.i64_in _ (by omega))) ?_
      refine wl (ro_indexS rfl rfl st_9 (rfl) (hx)) ?_
      refine wl (ro_assign rfl) ?_
      refine wl_nil (x_then ?_)
      exact ⟨hR, hT, hF, kp _ ⟨rfl, rfl, rfl, rfl, by rw [hdx]; rfl, trivial⟩⟩
    · try simp only [decide_eq_true_eq, decide_eq_false_iff_not, Bool.not_eq_true', Bool.not_eq_false', Bool.not_eq_eq_eq_not, Bool.not_true, Bool.not_false, beq_iff_eq, bne_iff_ne, ne_eq, beq_eq_false_iff_ne, bne_eq_false_iff_eq, gt_iff_lt, ge_iff_le, Int.not_lt, Int.not_le] at hc15
      have hdx := hd0 (by omega)
      refine c_skip (x_then ?_)
      exact ⟨hR, hT, hF, kp _ ⟨rfl, rfl, rfl, rfl, by rw [hdx]; rfl, trivial⟩⟩
  clear hR hT hF
  rintro a' w2 ⟨hR, hT, hF, e, rfl⟩
  refine c_seq (fun K5 hK5 => ?_)
  refine c_seq (fun K6 hK6 => ?_)
  have hcl : c.toNat = 40 ∨ c.toNat = 41 ∨ c.toNat = 44 ∨ c.toNat = 58 ∨ c.toNat = 43 ∨ c.toNat = 45 ∨ c.toNat = 42 ∨ c.toNat = 47 ∨ c.toNat = 61 ∨ (c.toNat = 60 ∧ d.toNat = 61) ∨ (c.toNat = 60 ∧ d.toNat = 62) ∨ (c.toNat = 60 ∧ d.toNat ≠ 61 ∧ d.toNat ≠ 62) ∨ (c.toNat = 62 ∧ d.toNat = 61) ∨ (c.toNat = 62 ∧ d.toNat ≠ 61) ∨ (c.toNat = 35 ∧ d.toNat = 35) ∨ (c.toNat = 35 ∧ d.toNat ≠ 35) ∨ (c.toNat ≠ 40 ∧ c.toNat ≠ 41 ∧ c.toNat ≠ 44 ∧ c.toNat ≠ 58 ∧ c.toNat ≠ 43 ∧ c.toNat ≠ 45 ∧ c.toNat ≠ 42 ∧ c.toNat ≠ 47 ∧ c.toNat ≠ 61 ∧ c.toNat ≠ 60 ∧ c.toNat ≠ 62 ∧ c.toNat ≠ 35) := by omega
  rcases hcl with q | q | q | q | q | q | q | q | q | q | q | q | q | q | q | q | q
  · skip
    have hce : c = 40 := (u8_eq (n := 40) (by omega)).2 q
    have hres : sgnT c d = (⟨40, 0, 0, zR⟩, 1) := by rw [hce]; rfl
    refine c_reg ?_ -- region 5 scan.go:141
    refine wl (ro_move rfl) ?_
    refine wl (ro_move rfl) ?_
    refine wl (ro_indexS rfl rfl st_9 (rfl) (hc)) ?_
    refine wl_nil (x_then (hK6 _ _ ?_))
    clear hK6 K6
    refine c_block ?_
    refine c_seq (fun K7 hK7 => ?_)
    refine c_seq (fun K8 hK8 => ?_)
    refine c_reg ?_ -- region 7 scan.go:142
    refine wl (ro_cmp (r := true) rfl rfl (congrArg some ((beqc c.toNat 40).trans (decide_eq_true (by omega))))) ?_
    refine wl (ro_assign rfl) ?_
    refine wl_nil (x_then (hK8 _ _ ?_))
    clear hK8 K8
    refine wc_condT rfl ?_
    refine c_skip (x_then (hK7 _ _ ?_))
    clear hK7 K7
    refine wc_condT rfl ?_
    refine c_reg ?_ -- region 11 scan.go:143
    refine wl (ro_move rfl) ?_
    refine wl (ro_move rfl) ?_
    refine wl (ro_indexS rfl rfl st_9 (rfl) (hc)) ?_
    refine wl (ro_conv rfl sc_5 in_3 (Go.IntWalk.i64_in _ (by omega))) ?_
    refine wl (ro_fieldAddr (k := 0) rfl fo_189_0) ?_
    refine wl_put rfl rfl rfl sz_3 hT ((by simp)) ((show _ = tkc i (i + 1) ⟨c.toNat, 0, 0, zR⟩ from rfl)) (fun w4 hT F4 => ?_)
    replace hF := hF.thenDrew.thenO F4 (by first | exact .inr (by omega) | exact .inl rfl | exact .inl (by assumption))
    replace hR := F4.blkO hR (by omega)
    refine wl_nil (x_blk (x_then (hK5 _ _ ?_)))
    clear hK5 K5
    refine forget [(4, _), (5, _)] ⟨rfl, rfl, trivial⟩ (fun e => ?_)
    refine c_seq (fun K9 hK9 => ?_)
    refine c_reg ?_ -- region 36 scan.go:174
    refine wl (ro_loadAggB rfl ag_189 (hT) (rfl) (rfl)) ?_
    refine wl_puta rfl rfl ((tkc_cells _ _ _)) sz_189 (rfl) hR ((by simp)) (rfl) (fun w5 hR F5 => ?_)
    replace hF := hF.thenDrew.thenO F5 (by first | exact .inr (by omega) | exact .inl rfl | exact .inl (by assumption))
    replace hT := F5.blkO hT (by omega)
    refine wl_nil (x_then (hK9 _ _ ?_))
    clear hK9 K9
    refine c_ret ?_
    refine bq_ret (res1 Tryz.results154 (rv_c rfl ag_189 (hR) rfl)) ?_
    rw [hres, q]; exact ⟨rfl, hF⟩
  · skip
    have hce : c = 41 := (u8_eq (n := 41) (by omega)).2 q
    have hres : sgnT c d = (⟨41, 0, 0, zR⟩, 1) := by rw [hce]; rfl
    refine c_reg ?_ -- region 5 scan.go:141
    refine wl (ro_move rfl) ?_
    refine wl (ro_move rfl) ?_
    refine wl (ro_indexS rfl rfl st_9 (rfl) (hc)) ?_
    refine wl_nil (x_then (hK6 _ _ ?_))
    clear hK6 K6
    refine c_block ?_
    refine c_seq (fun K10 hK10 => ?_)
    refine c_seq (fun K11 hK11 => ?_)
    refine c_reg ?_ -- region 7 scan.go:142
    refine wl (ro_cmp (r := false) rfl rfl (congrArg some ((beqc c.toNat 40).trans (decide_eq_false (by omega))))) ?_
    refine wl (ro_assign rfl) ?_
    refine wl_nil (x_then (hK11 _ _ ?_))
    clear hK11 K11
    refine wc_condF rfl ?_
    refine c_seq (fun K12 hK12 => ?_)
    refine c_reg ?_ -- region 8 scan.go:142
    refine wl (ro_cmp (r := true) rfl rfl (congrArg some ((beqc c.toNat 41).trans (decide_eq_true (by omega))))) ?_
    refine wl (ro_assign rfl) ?_
    refine wl_nil (x_then (hK12 _ _ ?_))
    clear hK12 K12
    refine wc_condT rfl ?_
    refine c_skip (x_then (hK10 _ _ ?_))
    clear hK10 K10
    refine wc_condT rfl ?_
    refine c_reg ?_ -- region 11 scan.go:143
    refine wl (ro_move rfl) ?_
    refine wl (ro_move rfl) ?_
    refine wl (ro_indexS rfl rfl st_9 (rfl) (hc)) ?_
    refine wl (ro_conv rfl sc_5 in_3 (Go.IntWalk.i64_in _ (by omega))) ?_
    refine wl (ro_fieldAddr (k := 0) rfl fo_189_0) ?_
    refine wl_put rfl rfl rfl sz_3 hT ((by simp)) ((show _ = tkc i (i + 1) ⟨c.toNat, 0, 0, zR⟩ from rfl)) (fun w6 hT F6 => ?_)
    replace hF := hF.thenDrew.thenO F6 (by first | exact .inr (by omega) | exact .inl rfl | exact .inl (by assumption))
    replace hR := F6.blkO hR (by omega)
    refine wl_nil (x_blk (x_then (hK5 _ _ ?_)))
    clear hK5 K5
    refine forget [(4, _), (5, _)] ⟨rfl, rfl, trivial⟩ (fun e => ?_)
    refine c_seq (fun K13 hK13 => ?_)
    refine c_reg ?_ -- region 36 scan.go:174
    refine wl (ro_loadAggB rfl ag_189 (hT) (rfl) (rfl)) ?_
    refine wl_puta rfl rfl ((tkc_cells _ _ _)) sz_189 (rfl) hR ((by simp)) (rfl) (fun w7 hR F7 => ?_)
    replace hF := hF.thenDrew.thenO F7 (by first | exact .inr (by omega) | exact .inl rfl | exact .inl (by assumption))
    replace hT := F7.blkO hT (by omega)
    refine wl_nil (x_then (hK13 _ _ ?_))
    clear hK13 K13
    refine c_ret ?_
    refine bq_ret (res1 Tryz.results154 (rv_c rfl ag_189 (hR) rfl)) ?_
    rw [hres, q]; exact ⟨rfl, hF⟩
  · skip
    have hce : c = 44 := (u8_eq (n := 44) (by omega)).2 q
    have hres : sgnT c d = (⟨44, 0, 0, zR⟩, 1) := by rw [hce]; rfl
    refine c_reg ?_ -- region 5 scan.go:141
    refine wl (ro_move rfl) ?_
    refine wl (ro_move rfl) ?_
    refine wl (ro_indexS rfl rfl st_9 (rfl) (hc)) ?_
    refine wl_nil (x_then (hK6 _ _ ?_))
    clear hK6 K6
    refine c_block ?_
    refine c_seq (fun K14 hK14 => ?_)
    refine c_seq (fun K15 hK15 => ?_)
    refine c_reg ?_ -- region 7 scan.go:142
    refine wl (ro_cmp (r := false) rfl rfl (congrArg some ((beqc c.toNat 40).trans (decide_eq_false (by omega))))) ?_
    refine wl (ro_assign rfl) ?_
    refine wl_nil (x_then (hK15 _ _ ?_))
    clear hK15 K15
    refine wc_condF rfl ?_
    refine c_seq (fun K16 hK16 => ?_)
    refine c_reg ?_ -- region 8 scan.go:142
    refine wl (ro_cmp (r := false) rfl rfl (congrArg some ((beqc c.toNat 41).trans (decide_eq_false (by omega))))) ?_
    refine wl (ro_assign rfl) ?_
    refine wl_nil (x_then (hK16 _ _ ?_))
    clear hK16 K16
    refine wc_condF rfl ?_
    refine c_seq (fun K17 hK17 => ?_)
    refine c_reg ?_ -- region 9 scan.go:142
    refine wl (ro_cmp (r := true) rfl rfl (congrArg some ((beqc c.toNat 44).trans (decide_eq_true (by omega))))) ?_
    refine wl (ro_assign rfl) ?_
    refine wl_nil (x_then (hK17 _ _ ?_))
    clear hK17 K17
    refine wc_condT rfl ?_
    refine c_skip (x_then (hK14 _ _ ?_))
    clear hK14 K14
    refine wc_condT rfl ?_
    refine c_reg ?_ -- region 11 scan.go:143
    refine wl (ro_move rfl) ?_
    refine wl (ro_move rfl) ?_
    refine wl (ro_indexS rfl rfl st_9 (rfl) (hc)) ?_
    refine wl (ro_conv rfl sc_5 in_3 (Go.IntWalk.i64_in _ (by omega))) ?_
    refine wl (ro_fieldAddr (k := 0) rfl fo_189_0) ?_
    refine wl_put rfl rfl rfl sz_3 hT ((by simp)) ((show _ = tkc i (i + 1) ⟨c.toNat, 0, 0, zR⟩ from rfl)) (fun w8 hT F8 => ?_)
    replace hF := hF.thenDrew.thenO F8 (by first | exact .inr (by omega) | exact .inl rfl | exact .inl (by assumption))
    replace hR := F8.blkO hR (by omega)
    refine wl_nil (x_blk (x_then (hK5 _ _ ?_)))
    clear hK5 K5
    refine forget [(4, _), (5, _)] ⟨rfl, rfl, trivial⟩ (fun e => ?_)
    refine c_seq (fun K18 hK18 => ?_)
    refine c_reg ?_ -- region 36 scan.go:174
    refine wl (ro_loadAggB rfl ag_189 (hT) (rfl) (rfl)) ?_
    refine wl_puta rfl rfl ((tkc_cells _ _ _)) sz_189 (rfl) hR ((by simp)) (rfl) (fun w9 hR F9 => ?_)
    replace hF := hF.thenDrew.thenO F9 (by first | exact .inr (by omega) | exact .inl rfl | exact .inl (by assumption))
    replace hT := F9.blkO hT (by omega)
    refine wl_nil (x_then (hK18 _ _ ?_))
    clear hK18 K18
    refine c_ret ?_
    refine bq_ret (res1 Tryz.results154 (rv_c rfl ag_189 (hR) rfl)) ?_
    rw [hres, q]; exact ⟨rfl, hF⟩
  · skip
    have hce : c = 58 := (u8_eq (n := 58) (by omega)).2 q
    have hres : sgnT c d = (⟨58, 0, 0, zR⟩, 1) := by rw [hce]; rfl
    refine c_reg ?_ -- region 5 scan.go:141
    refine wl (ro_move rfl) ?_
    refine wl (ro_move rfl) ?_
    refine wl (ro_indexS rfl rfl st_9 (rfl) (hc)) ?_
    refine wl_nil (x_then (hK6 _ _ ?_))
    clear hK6 K6
    refine c_block ?_
    refine c_seq (fun K19 hK19 => ?_)
    refine c_seq (fun K20 hK20 => ?_)
    refine c_reg ?_ -- region 7 scan.go:142
    refine wl (ro_cmp (r := false) rfl rfl (congrArg some ((beqc c.toNat 40).trans (decide_eq_false (by omega))))) ?_
    refine wl (ro_assign rfl) ?_
    refine wl_nil (x_then (hK20 _ _ ?_))
    clear hK20 K20
    refine wc_condF rfl ?_
    refine c_seq (fun K21 hK21 => ?_)
    refine c_reg ?_ -- region 8 scan.go:142
    refine wl (ro_cmp (r := false) rfl rfl (congrArg some ((beqc c.toNat 41).trans (decide_eq_false (by omega))))) ?_
    refine wl (ro_assign rfl) ?_
    refine wl_nil (x_then (hK21 _ _ ?_))
    clear hK21 K21
    refine wc_condF rfl ?_
    refine c_seq (fun K22 hK22 => ?_)
    refine c_reg ?_ -- region 9 scan.go:142
    refine wl (ro_cmp (r := false) rfl rfl (congrArg some ((beqc c.toNat 44).trans (decide_eq_false (by omega))))) ?_
    refine wl (ro_assign rfl) ?_
    refine wl_nil (x_then (hK22 _ _ ?_))
    clear hK22 K22
    refine wc_condF rfl ?_
    refine c_reg ?_ -- region 10 scan.go:142
    refine wl (ro_cmp (r := true) rfl rfl (congrArg some ((beqc c.toNat 58).trans (decide_eq_true (by omega))))) ?_
    refine wl (ro_assign rfl) ?_
    refine wl_nil (x_then (hK19 _ _ ?_))
    clear hK19 K19
    refine wc_condT rfl ?_
    refine c_reg ?_ -- region 11 scan.go:143
    refine wl (ro_move rfl) ?_
    refine wl (ro_move rfl) ?_
    refine wl (ro_indexS rfl rfl st_9 (rfl) (hc)) ?_
    refine wl (ro_conv rfl sc_5 in_3 (Go.IntWalk.i64_in _ (by omega))) ?_
    refine wl (ro_fieldAddr (k := 0) rfl fo_189_0) ?_
    refine wl_put rfl rfl rfl sz_3 hT ((by simp)) ((show _ = tkc i (i + 1) ⟨c.toNat, 0, 0, zR⟩ from rfl)) (fun w10 hT F10 => ?_)
    replace hF := hF.thenDrew.thenO F10 (by first | exact .inr (by omega) | exact .inl rfl | exact .inl (by assumption))
    replace hR := F10.blkO hR (by omega)
    refine wl_nil (x_blk (x_then (hK5 _ _ ?_)))
    clear hK5 K5
    refine forget [(4, _), (5, _)] ⟨rfl, rfl, trivial⟩ (fun e => ?_)
    refine c_seq (fun K23 hK23 => ?_)
    refine c_reg ?_ -- region 36 scan.go:174
    refine wl (ro_loadAggB rfl ag_189 (hT) (rfl) (rfl)) ?_
    refine wl_puta rfl rfl ((tkc_cells _ _ _)) sz_189 (rfl) hR ((by simp)) (rfl) (fun w11 hR F11 => ?_)
    replace hF := hF.thenDrew.thenO F11 (by first | exact .inr (by omega) | exact .inl rfl | exact .inl (by assumption))
    replace hT := F11.blkO hT (by omega)
    refine wl_nil (x_then (hK23 _ _ ?_))
    clear hK23 K23
    refine c_ret ?_
    refine bq_ret (res1 Tryz.results154 (rv_c rfl ag_189 (hR) rfl)) ?_
    rw [hres, q]; exact ⟨rfl, hF⟩
  · skip
    have hce : c = 43 := (u8_eq (n := 43) (by omega)).2 q
    have hres : sgnT c d = (⟨6, 0, 7, zR⟩, 1) := by rw [hce]; rfl
    refine c_reg ?_ -- region 5 scan.go:141
    refine wl (ro_move rfl) ?_
    refine wl (ro_move rfl) ?_
    refine wl (ro_indexS rfl rfl st_9 (rfl) (hc)) ?_
    refine wl_nil (x_then (hK6 _ _ ?_))
    clear hK6 K6
    refine c_block ?_
    refine c_seq (fun K24 hK24 => ?_)
    refine c_seq (fun K25 hK25 => ?_)
    refine c_reg ?_ -- region 7 scan.go:142
    refine wl (ro_cmp (r := false) rfl rfl (congrArg some ((beqc c.toNat 40).trans (decide_eq_false (by omega))))) ?_
    refine wl (ro_assign rfl) ?_
    refine wl_nil (x_then (hK25 _ _ ?_))
    clear hK25 K25
    refine wc_condF rfl ?_
    refine c_seq (fun K26 hK26 => ?_)
    refine c_reg ?_ -- region 8 scan.go:142
    refine wl (ro_cmp (r := false) rfl rfl (congrArg some ((beqc c.toNat 41).trans (decide_eq_false (by omega))))) ?_
    refine wl (ro_assign rfl) ?_
    refine wl_nil (x_then (hK26 _ _ ?_))
    clear hK26 K26
    refine wc_condF rfl ?_
    refine c_seq (fun K27 hK27 => ?_)
    refine c_reg ?_ -- region 9 scan.go:142
    refine wl (ro_cmp (r := false) rfl rfl (congrArg some ((beqc c.toNat 44).trans (decide_eq_false (by omega))))) ?_
    refine wl (ro_assign rfl) ?_
    refine wl_nil (x_then (hK27 _ _ ?_))
    clear hK27 K27
    refine wc_condF rfl ?_
    refine c_reg ?_ -- region 10 scan.go:142
    refine wl (ro_cmp (r := false) rfl rfl (congrArg some ((beqc c.toNat 58).trans (decide_eq_false (by omega))))) ?_
    refine wl (ro_assign rfl) ?_
    refine wl_nil (x_then (hK24 _ _ ?_))
    clear hK24 K24
    refine wc_condF rfl ?_
    refine c_seq (fun K28 hK28 => ?_)
    refine c_reg ?_ -- region 12 scan.go:144
    refine wl (ro_cmp (r := true) rfl rfl (congrArg some ((beqc c.toNat 43).trans (decide_eq_true (by omega))))) ?_
    refine wl (ro_assign rfl) ?_
    refine wl_nil (x_then (hK28 _ _ ?_))
    clear hK28 K28
    refine wc_condT rfl ?_
    refine c_reg ?_ -- region 13 scan.go:145
    refine wl (ro_fieldAddr (k := 4) rfl fo_189_4) ?_
    refine wl_put rfl rfl rfl sz_3 hT ((by simp)) ((show _ = tkc i (i + 1) ⟨6, 0, 7, zR⟩ from rfl)) (fun w12 hT F12 => ?_)
    replace hF := hF.thenDrew.thenO F12 (by first | exact .inr (by omega) | exact .inl rfl | exact .inl (by assumption))
    replace hR := F12.blkO hR (by omega)
    refine wl_nil (x_blk (x_then (hK5 _ _ ?_)))
    clear hK5 K5
    refine forget [(4, _), (5, _)] ⟨rfl, rfl, trivial⟩ (fun e => ?_)
    refine c_seq (fun K29 hK29 => ?_)
    refine c_reg ?_ -- region 36 scan.go:174
    refine wl (ro_loadAggB rfl ag_189 (hT) (rfl) (rfl)) ?_
    refine wl_puta rfl rfl ((tkc_cells _ _ _)) sz_189 (rfl) hR ((by simp)) (rfl) (fun w13 hR F13 => ?_)
    replace hF := hF.thenDrew.thenO F13 (by first | exact .inr (by omega) | exact .inl rfl | exact .inl (by assumption))
    replace hT := F13.blkO hT (by omega)
    refine wl_nil (x_then (hK29 _ _ ?_))
    clear hK29 K29
    refine c_ret ?_
    refine bq_ret (res1 Tryz.results154 (rv_c rfl ag_189 (hR) rfl)) ?_
    rw [hres]; exact ⟨rfl, hF⟩
  · skip
    have hce : c = 45 := (u8_eq (n := 45) (by omega)).2 q
    have hres : sgnT c d = (⟨6, 0, 8, zR⟩, 1) := by rw [hce]; rfl
    refine c_reg ?_ -- region 5 scan.go:141
    refine wl (ro_move rfl) ?_
    refine wl (ro_move rfl) ?_
    refine wl (ro_indexS rfl rfl st_9 (rfl) (hc)) ?_
    refine wl_nil (x_then (hK6 _ _ ?_))
    clear hK6 K6
    refine c_block ?_
    refine c_seq (fun K30 hK30 => ?_)
    refine c_seq (fun K31 hK31 => ?_)
    refine c_reg ?_ -- region 7 scan.go:142
    refine wl (ro_cmp (r := false) rfl rfl (congrArg some ((beqc c.toNat 40).trans (decide_eq_false (by omega))))) ?_
    refine wl (ro_assign rfl) ?_
    refine wl_nil (x_then (hK31 _ _ ?_))
    clear hK31 K31
    refine wc_condF rfl ?_
    refine c_seq (fun K32 hK32 => ?_)
    refine c_reg ?_ -- region 8 scan.go:142
    refine wl (ro_cmp (r := false) rfl rfl (congrArg some ((beqc c.toNat 41).trans (decide_eq_false (by omega))))) ?_
    refine wl (ro_assign rfl) ?_
    refine wl_nil (x_then (hK32 _ _ ?_))
    clear hK32 K32
    refine wc_condF rfl ?_
    refine c_seq (fun K33 hK33 => ?_)
    refine c_reg ?_ -- region 9 scan.go:142
    refine wl (ro_cmp (r := false) rfl rfl (congrArg some ((beqc c.toNat 44).trans (decide_eq_false (by omega))))) ?_
    refine wl (ro_assign rfl) ?_
    refine wl_nil (x_then (hK33 _ _ ?_))
    clear hK33 K33
    refine wc_condF rfl ?_
    refine c_reg ?_ -- region 10 scan.go:142
    refine wl (ro_cmp (r := false) rfl rfl (congrArg some ((beqc c.toNat 58).trans (decide_eq_false (by omega))))) ?_
    refine wl (ro_assign rfl) ?_
    refine wl_nil (x_then (hK30 _ _ ?_))
    clear hK30 K30
    refine wc_condF rfl ?_
    refine c_seq (fun K34 hK34 => ?_)
    refine c_reg ?_ -- region 12 scan.go:144
    refine wl (ro_cmp (r := false) rfl rfl (congrArg some ((beqc c.toNat 43).trans (decide_eq_false (by omega))))) ?_
    refine wl (ro_assign rfl) ?_
    refine wl_nil (x_then (hK34 _ _ ?_))
    clear hK34 K34
    refine wc_condF rfl ?_
    refine c_seq (fun K35 hK35 => ?_)
    refine c_reg ?_ -- region 14 scan.go:146
    refine wl (ro_cmp (r := true) rfl rfl (congrArg some ((beqc c.toNat 45).trans (decide_eq_true (by omega))))) ?_
    refine wl (ro_assign rfl) ?_
    refine wl_nil (x_then (hK35 _ _ ?_))
    clear hK35 K35
    refine wc_condT rfl ?_
    refine c_reg ?_ -- region 15 scan.go:147
    refine wl (ro_fieldAddr (k := 4) rfl fo_189_4) ?_
    refine wl_put rfl rfl rfl sz_3 hT ((by simp)) ((show _ = tkc i (i + 1) ⟨6, 0, 8, zR⟩ from rfl)) (fun w14 hT F14 => ?_)
    replace hF := hF.thenDrew.thenO F14 (by first | exact .inr (by omega) | exact .inl rfl | exact .inl (by assumption))
    replace hR := F14.blkO hR (by omega)
    refine wl_nil (x_blk (x_then (hK5 _ _ ?_)))
    clear hK5 K5
    refine forget [(4, _), (5, _)] ⟨rfl, rfl, trivial⟩ (fun e => ?_)
    refine c_seq (fun K36 hK36 => ?_)
    refine c_reg ?_ -- region 36 scan.go:174
    refine wl (ro_loadAggB rfl ag_189 (hT) (rfl) (rfl)) ?_
    refine wl_puta rfl rfl ((tkc_cells _ _ _)) sz_189 (rfl) hR ((by simp)) (rfl) (fun w15 hR F15 => ?_)
    replace hF := hF.thenDrew.thenO F15 (by first | exact .inr (by omega) | exact .inl rfl | exact .inl (by assumption))
    replace hT := F15.blkO hT (by omega)
    refine wl_nil (x_then (hK36 _ _ ?_))
    clear hK36 K36
    refine c_ret ?_
    refine bq_ret (res1 Tryz.results154 (rv_c rfl ag_189 (hR) rfl)) ?_
    rw [hres]; exact ⟨rfl, hF⟩
  · skip
    have hce : c = 42 := (u8_eq (n := 42) (by omega)).2 q
    have hres : sgnT c d = (⟨6, 0, 9, zR⟩, 1) := by rw [hce]; rfl
    refine c_reg ?_ -- region 5 scan.go:141
    refine wl (ro_move rfl) ?_
    refine wl (ro_move rfl) ?_
    refine wl (ro_indexS rfl rfl st_9 (rfl) (hc)) ?_
    refine wl_nil (x_then (hK6 _ _ ?_))
    clear hK6 K6
    refine c_block ?_
    refine c_seq (fun K37 hK37 => ?_)
    refine c_seq (fun K38 hK38 => ?_)
    refine c_reg ?_ -- region 7 scan.go:142
    refine wl (ro_cmp (r := false) rfl rfl (congrArg some ((beqc c.toNat 40).trans (decide_eq_false (by omega))))) ?_
    refine wl (ro_assign rfl) ?_
    refine wl_nil (x_then (hK38 _ _ ?_))
    clear hK38 K38
    refine wc_condF rfl ?_
    refine c_seq (fun K39 hK39 => ?_)
    refine c_reg ?_ -- region 8 scan.go:142
    refine wl (ro_cmp (r := false) rfl rfl (congrArg some ((beqc c.toNat 41).trans (decide_eq_false (by omega))))) ?_
    refine wl (ro_assign rfl) ?_
    refine wl_nil (x_then (hK39 _ _ ?_))
    clear hK39 K39
    refine wc_condF rfl ?_
    refine c_seq (fun K40 hK40 => ?_)
    refine c_reg ?_ -- region 9 scan.go:142
    refine wl (ro_cmp (r := false) rfl rfl (congrArg some ((beqc c.toNat 44).trans (decide_eq_false (by omega))))) ?_
    refine wl (ro_assign rfl) ?_
    refine wl_nil (x_then (hK40 _ _ ?_))
    clear hK40 K40
    refine wc_condF rfl ?_
    refine c_reg ?_ -- region 10 scan.go:142
    refine wl (ro_cmp (r := false) rfl rfl (congrArg some ((beqc c.toNat 58).trans (decide_eq_false (by omega))))) ?_
    refine wl (ro_assign rfl) ?_
    refine wl_nil (x_then (hK37 _ _ ?_))
    clear hK37 K37
    refine wc_condF rfl ?_
    refine c_seq (fun K41 hK41 => ?_)
    refine c_reg ?_ -- region 12 scan.go:144
    refine wl (ro_cmp (r := false) rfl rfl (congrArg some ((beqc c.toNat 43).trans (decide_eq_false (by omega))))) ?_
    refine wl (ro_assign rfl) ?_
    refine wl_nil (x_then (hK41 _ _ ?_))
    clear hK41 K41
    refine wc_condF rfl ?_
    refine c_seq (fun K42 hK42 => ?_)
    refine c_reg ?_ -- region 14 scan.go:146
    refine wl (ro_cmp (r := false) rfl rfl (congrArg some ((beqc c.toNat 45).trans (decide_eq_false (by omega))))) ?_
    refine wl (ro_assign rfl) ?_
    refine wl_nil (x_then (hK42 _ _ ?_))
    clear hK42 K42
    refine wc_condF rfl ?_
    refine c_seq (fun K43 hK43 => ?_)
    refine c_reg ?_ -- region 16 scan.go:148
    refine wl (ro_cmp (r := true) rfl rfl (congrArg some ((beqc c.toNat 42).trans (decide_eq_true (by omega))))) ?_
    refine wl (ro_assign rfl) ?_
    refine wl_nil (x_then (hK43 _ _ ?_))
    clear hK43 K43
    refine wc_condT rfl ?_
    refine c_reg ?_ -- region 17 scan.go:149
    refine wl (ro_fieldAddr (k := 4) rfl fo_189_4) ?_
    refine wl_put rfl rfl rfl sz_3 hT ((by simp)) ((show _ = tkc i (i + 1) ⟨6, 0, 9, zR⟩ from rfl)) (fun w16 hT F16 => ?_)
    replace hF := hF.thenDrew.thenO F16 (by first | exact .inr (by omega) | exact .inl rfl | exact .inl (by assumption))
    replace hR := F16.blkO hR (by omega)
    refine wl_nil (x_blk (x_then (hK5 _ _ ?_)))
    clear hK5 K5
    refine forget [(4, _), (5, _)] ⟨rfl, rfl, trivial⟩ (fun e => ?_)
    refine c_seq (fun K44 hK44 => ?_)
    refine c_reg ?_ -- region 36 scan.go:174
    refine wl (ro_loadAggB rfl ag_189 (hT) (rfl) (rfl)) ?_
    refine wl_puta rfl rfl ((tkc_cells _ _ _)) sz_189 (rfl) hR ((by simp)) (rfl) (fun w17 hR F17 => ?_)
    replace hF := hF.thenDrew.thenO F17 (by first | exact .inr (by omega) | exact .inl rfl | exact .inl (by assumption))
    replace hT := F17.blkO hT (by omega)
    refine wl_nil (x_then (hK44 _ _ ?_))
    clear hK44 K44
    refine c_ret ?_
    refine bq_ret (res1 Tryz.results154 (rv_c rfl ag_189 (hR) rfl)) ?_
    rw [hres]; exact ⟨rfl, hF⟩
  · skip
    have hce : c = 47 := (u8_eq (n := 47) (by omega)).2 q
    have hres : sgnT c d = (⟨6, 0, 10, zR⟩, 1) := by rw [hce]; rfl
    refine c_reg ?_ -- region 5 scan.go:141
    refine wl (ro_move rfl) ?_
    refine wl (ro_move rfl) ?_
    refine wl (ro_indexS rfl rfl st_9 (rfl) (hc)) ?_
    refine wl_nil (x_then (hK6 _ _ ?_))
    clear hK6 K6
    refine c_block ?_
    refine c_seq (fun K45 hK45 => ?_)
    refine c_seq (fun K46 hK46 => ?_)
    refine c_reg ?_ -- region 7 scan.go:142
    refine wl (ro_cmp (r := false) rfl rfl (congrArg some ((beqc c.toNat 40).trans (decide_eq_false (by omega))))) ?_
    refine wl (ro_assign rfl) ?_
    refine wl_nil (x_then (hK46 _ _ ?_))
    clear hK46 K46
    refine wc_condF rfl ?_
    refine c_seq (fun K47 hK47 => ?_)
    refine c_reg ?_ -- region 8 scan.go:142
    refine wl (ro_cmp (r := false) rfl rfl (congrArg some ((beqc c.toNat 41).trans (decide_eq_false (by omega))))) ?_
    refine wl (ro_assign rfl) ?_
    refine wl_nil (x_then (hK47 _ _ ?_))
    clear hK47 K47
    refine wc_condF rfl ?_
    refine c_seq (fun K48 hK48 => ?_)
    refine c_reg ?_ -- region 9 scan.go:142
    refine wl (ro_cmp (r := false) rfl rfl (congrArg some ((beqc c.toNat 44).trans (decide_eq_false (by omega))))) ?_
    refine wl (ro_assign rfl) ?_
    refine wl_nil (x_then (hK48 _ _ ?_))
    clear hK48 K48
    refine wc_condF rfl ?_
    refine c_reg ?_ -- region 10 scan.go:142
    refine wl (ro_cmp (r := false) rfl rfl (congrArg some ((beqc c.toNat 58).trans (decide_eq_false (by omega))))) ?_
    refine wl (ro_assign rfl) ?_
    refine wl_nil (x_then (hK45 _ _ ?_))
    clear hK45 K45
    refine wc_condF rfl ?_
    refine c_seq (fun K49 hK49 => ?_)
    refine c_reg ?_ -- region 12 scan.go:144
    refine wl (ro_cmp (r := false) rfl rfl (congrArg some ((beqc c.toNat 43).trans (decide_eq_false (by omega))))) ?_
    refine wl (ro_assign rfl) ?_
    refine wl_nil (x_then (hK49 _ _ ?_))
    clear hK49 K49
    refine wc_condF rfl ?_
    refine c_seq (fun K50 hK50 => ?_)
    refine c_reg ?_ -- region 14 scan.go:146
    refine wl (ro_cmp (r := false) rfl rfl (congrArg some ((beqc c.toNat 45).trans (decide_eq_false (by omega))))) ?_
    refine wl (ro_assign rfl) ?_
    refine wl_nil (x_then (hK50 _ _ ?_))
    clear hK50 K50
    refine wc_condF rfl ?_
    refine c_seq (fun K51 hK51 => ?_)
    refine c_reg ?_ -- region 16 scan.go:148
    refine wl (ro_cmp (r := false) rfl rfl (congrArg some ((beqc c.toNat 42).trans (decide_eq_false (by omega))))) ?_
    refine wl (ro_assign rfl) ?_
    refine wl_nil (x_then (hK51 _ _ ?_))
    clear hK51 K51
    refine wc_condF rfl ?_
    refine c_seq (fun K52 hK52 => ?_)
    refine c_reg ?_ -- region 18 scan.go:150
    refine wl (ro_cmp (r := true) rfl rfl (congrArg some ((beqc c.toNat 47).trans (decide_eq_true (by omega))))) ?_
    refine wl (ro_assign rfl) ?_
    refine wl_nil (x_then (hK52 _ _ ?_))
    clear hK52 K52
    refine wc_condT rfl ?_
    refine c_reg ?_ -- region 19 scan.go:151
    refine wl (ro_fieldAddr (k := 4) rfl fo_189_4) ?_
    refine wl_put rfl rfl rfl sz_3 hT ((by simp)) ((show _ = tkc i (i + 1) ⟨6, 0, 10, zR⟩ from rfl)) (fun w18 hT F18 => ?_)
    replace hF := hF.thenDrew.thenO F18 (by first | exact .inr (by omega) | exact .inl rfl | exact .inl (by assumption))
    replace hR := F18.blkO hR (by omega)
    refine wl_nil (x_blk (x_then (hK5 _ _ ?_)))
    clear hK5 K5
    refine forget [(4, _), (5, _)] ⟨rfl, rfl, trivial⟩ (fun e => ?_)
    refine c_seq (fun K53 hK53 => ?_)
    refine c_reg ?_ -- region 36 scan.go:174
    refine wl (ro_loadAggB rfl ag_189 (hT) (rfl) (rfl)) ?_
    refine wl_puta rfl rfl ((tkc_cells _ _ _)) sz_189 (rfl) hR ((by simp)) (rfl) (fun w19 hR F19 => ?_)
    replace hF := hF.thenDrew.thenO F19 (by first | exact .inr (by omega) | exact .inl rfl | exact .inl (by assumption))
    replace hT := F19.blkO hT (by omega)
    refine wl_nil (x_then (hK53 _ _ ?_))
    clear hK53 K53
    refine c_ret ?_
    refine bq_ret (res1 Tryz.results154 (rv_c rfl ag_189 (hR) rfl)) ?_
    rw [hres]; exact ⟨rfl, hF⟩
  · skip
    have hce : c = 61 := (u8_eq (n := 61) (by omega)).2 q
    have hres : sgnT c d = (⟨6, 0, 1, zR⟩, 1) := by rw [hce]; rfl
    refine c_reg ?_ -- region 5 scan.go:141
    refine wl (ro_move rfl) ?_
    refine wl (ro_move rfl) ?_
    refine wl (ro_indexS rfl rfl st_9 (rfl) (hc)) ?_
    refine wl_nil (x_then (hK6 _ _ ?_))
    clear hK6 K6
    refine c_block ?_
    refine c_seq (fun K54 hK54 => ?_)
    refine c_seq (fun K55 hK55 => ?_)
    refine c_reg ?_ -- region 7 scan.go:142
    refine wl (ro_cmp (r := false) rfl rfl (congrArg some ((beqc c.toNat 40).trans (decide_eq_false (by omega))))) ?_
    refine wl (ro_assign rfl) ?_
    refine wl_nil (x_then (hK55 _ _ ?_))
    clear hK55 K55
    refine wc_condF rfl ?_
    refine c_seq (fun K56 hK56 => ?_)
    refine c_reg ?_ -- region 8 scan.go:142
    refine wl (ro_cmp (r := false) rfl rfl (congrArg some ((beqc c.toNat 41).trans (decide_eq_false (by omega))))) ?_
    refine wl (ro_assign rfl) ?_
    refine wl_nil (x_then (hK56 _ _ ?_))
    clear hK56 K56
    refine wc_condF rfl ?_
    refine c_seq (fun K57 hK57 => ?_)
    refine c_reg ?_ -- region 9 scan.go:142
    refine wl (ro_cmp (r := false) rfl rfl (congrArg some ((beqc c.toNat 44).trans (decide_eq_false (by omega))))) ?_
    refine wl (ro_assign rfl) ?_
    refine wl_nil (x_then (hK57 _ _ ?_))
    clear hK57 K57
    refine wc_condF rfl ?_
    refine c_reg ?_ -- region 10 scan.go:142
    refine wl (ro_cmp (r := false) rfl rfl (congrArg some ((beqc c.toNat 58).trans (decide_eq_false (by omega))))) ?_
    refine wl (ro_assign rfl) ?_
    refine wl_nil (x_then (hK54 _ _ ?_))
    clear hK54 K54
    refine wc_condF rfl ?_
    refine c_seq (fun K58 hK58 => ?_)
    refine c_reg ?_ -- region 12 scan.go:144
    refine wl (ro_cmp (r := false) rfl rfl (congrArg some ((beqc c.toNat 43).trans (decide_eq_false (by omega))))) ?_
    refine wl (ro_assign rfl) ?_
    refine wl_nil (x_then (hK58 _ _ ?_))
    clear hK58 K58
    refine wc_condF rfl ?_
    refine c_seq (fun K59 hK59 => ?_)
    refine c_reg ?_ -- region 14 scan.go:146
    refine wl (ro_cmp (r := false) rfl rfl (congrArg some ((beqc c.toNat 45).trans (decide_eq_false (by omega))))) ?_
    refine wl (ro_assign rfl) ?_
    refine wl_nil (x_then (hK59 _ _ ?_))
    clear hK59 K59
    refine wc_condF rfl ?_
    refine c_seq (fun K60 hK60 => ?_)
    refine c_reg ?_ -- region 16 scan.go:148
    refine wl (ro_cmp (r := false) rfl rfl (congrArg some ((beqc c.toNat 42).trans (decide_eq_false (by omega))))) ?_
    refine wl (ro_assign rfl) ?_
    refine wl_nil (x_then (hK60 _ _ ?_))
    clear hK60 K60
    refine wc_condF rfl ?_
    refine c_seq (fun K61 hK61 => ?_)
    refine c_reg ?_ -- region 18 scan.go:150
    refine wl (ro_cmp (r := false) rfl rfl (congrArg some ((beqc c.toNat 47).trans (decide_eq_false (by omega))))) ?_
    refine wl (ro_assign rfl) ?_
    refine wl_nil (x_then (hK61 _ _ ?_))
    clear hK61 K61
    refine wc_condF rfl ?_
    refine c_seq (fun K62 hK62 => ?_)
    refine c_reg ?_ -- region 20 scan.go:152
    refine wl (ro_cmp (r := true) rfl rfl (congrArg some ((beqc c.toNat 61).trans (decide_eq_true (by omega))))) ?_
    refine wl (ro_assign rfl) ?_
    refine wl_nil (x_then (hK62 _ _ ?_))
    clear hK62 K62
    refine wc_condT rfl ?_
    refine c_reg ?_ -- region 21 scan.go:153
    refine wl (ro_fieldAddr (k := 4) rfl fo_189_4) ?_
    refine wl_put rfl rfl rfl sz_3 hT ((by simp)) ((show _ = tkc i (i + 1) ⟨6, 0, 1, zR⟩ from rfl)) (fun w20 hT F20 => ?_)
    replace hF := hF.thenDrew.thenO F20 (by first | exact .inr (by omega) | exact .inl rfl | exact .inl (by assumption))
    replace hR := F20.blkO hR (by omega)
    refine wl_nil (x_blk (x_then (hK5 _ _ ?_)))
    clear hK5 K5
    refine forget [(4, _), (5, _)] ⟨rfl, rfl, trivial⟩ (fun e => ?_)
    refine c_seq (fun K63 hK63 => ?_)
    refine c_reg ?_ -- region 36 scan.go:174
    refine wl (ro_loadAggB rfl ag_189 (hT) (rfl) (rfl)) ?_
    refine wl_puta rfl rfl ((tkc_cells _ _ _)) sz_189 (rfl) hR ((by simp)) (rfl) (fun w21 hR F21 => ?_)
    replace hF := hF.thenDrew.thenO F21 (by first | exact .inr (by omega) | exact .inl rfl | exact .inl (by assumption))
    replace hT := F21.blkO hT (by omega)
    refine wl_nil (x_then (hK63 _ _ ?_))
    clear hK63 K63
    refine c_ret ?_
    refine bq_ret (res1 Tryz.results154 (rv_c rfl ag_189 (hR) rfl)) ?_
    rw [hres]; exact ⟨rfl, hF⟩
  · skip
    have hce : c = 60 := (u8_eq (n := 60) (by omega)).2 q.1
    have hres : sgnT c d = (⟨6, 0, 4, zR⟩, 2) := by
      have n1 : d = 61 := (u8_eq (n := 61) (by omega)).2 q.2
      rw [hce, n1]
      rfl
    refine c_reg ?_ -- region 5 scan.go:141
    refine wl (ro_move rfl) ?_
    refine wl (ro_move rfl) ?_
    refine wl (ro_indexS rfl rfl st_9 (rfl) (hc)) ?_
    refine wl_nil (x_then (hK6 _ _ ?_))
    clear hK6 K6
    refine c_block ?_
    refine c_seq (fun K64 hK64 => ?_)
    refine c_seq (fun K65 hK65 => ?_)
    refine c_reg ?_ -- region 7 scan.go:142
    refine wl (ro_cmp (r := false) rfl rfl (congrArg some ((beqc c.toNat 40).trans (decide_eq_false (by omega))))) ?_
    refine wl (ro_assign rfl) ?_
    refine wl_nil (x_then (hK65 _ _ ?_))
    clear hK65 K65
    refine wc_condF rfl ?_
    refine c_seq (fun K66 hK66 => ?_)
    refine c_reg ?_ -- region 8 scan.go:142
    refine wl (ro_cmp (r := false) rfl rfl (congrArg some ((beqc c.toNat 41).trans (decide_eq_false (by omega))))) ?_
    refine wl (ro_assign rfl) ?_
    refine wl_nil (x_then (hK66 _ _ ?_))
    clear hK66 K66
    refine wc_condF rfl ?_
    refine c_seq (fun K67 hK67 => ?_)
    refine c_reg ?_ -- region 9 scan.go:142
    refine wl (ro_cmp (r := false) rfl rfl (congrArg some ((beqc c.toNat 44).trans (decide_eq_false (by omega))))) ?_
    refine wl (ro_assign rfl) ?_
    refine wl_nil (x_then (hK67 _ _ ?_))
    clear hK67 K67
    refine wc_condF rfl ?_
    refine c_reg ?_ -- region 10 scan.go:142
    refine wl (ro_cmp (r := false) rfl rfl (congrArg some ((beqc c.toNat 58).trans (decide_eq_false (by omega))))) ?_
    refine wl (ro_assign rfl) ?_
    refine wl_nil (x_then (hK64 _ _ ?_))
    clear hK64 K64
    refine wc_condF rfl ?_
    refine c_seq (fun K68 hK68 => ?_)
    refine c_reg ?_ -- region 12 scan.go:144
    refine wl (ro_cmp (r := false) rfl rfl (congrArg some ((beqc c.toNat 43).trans (decide_eq_false (by omega))))) ?_
    refine wl (ro_assign rfl) ?_
    refine wl_nil (x_then (hK68 _ _ ?_))
    clear hK68 K68
    refine wc_condF rfl ?_
    refine c_seq (fun K69 hK69 => ?_)
    refine c_reg ?_ -- region 14 scan.go:146
    refine wl (ro_cmp (r := false) rfl rfl (congrArg some ((beqc c.toNat 45).trans (decide_eq_false (by omega))))) ?_
    refine wl (ro_assign rfl) ?_
    refine wl_nil (x_then (hK69 _ _ ?_))
    clear hK69 K69
    refine wc_condF rfl ?_
    refine c_seq (fun K70 hK70 => ?_)
    refine c_reg ?_ -- region 16 scan.go:148
    refine wl (ro_cmp (r := false) rfl rfl (congrArg some ((beqc c.toNat 42).trans (decide_eq_false (by omega))))) ?_
    refine wl (ro_assign rfl) ?_
    refine wl_nil (x_then (hK70 _ _ ?_))
    clear hK70 K70
    refine wc_condF rfl ?_
    refine c_seq (fun K71 hK71 => ?_)
    refine c_reg ?_ -- region 18 scan.go:150
    refine wl (ro_cmp (r := false) rfl rfl (congrArg some ((beqc c.toNat 47).trans (decide_eq_false (by omega))))) ?_
    refine wl (ro_assign rfl) ?_
    refine wl_nil (x_then (hK71 _ _ ?_))
    clear hK71 K71
    refine wc_condF rfl ?_
    refine c_seq (fun K72 hK72 => ?_)
    refine c_reg ?_ -- region 20 scan.go:152
    refine wl (ro_cmp (r := false) rfl rfl (congrArg some ((beqc c.toNat 61).trans (decide_eq_false (by omega))))) ?_
    refine wl (ro_assign rfl) ?_
    refine wl_nil (x_then (hK72 _ _ ?_))
    clear hK72 K72
    refine wc_condF rfl ?_
    refine c_seq (fun K73 hK73 => ?_)
    refine c_reg ?_ -- region 22 scan.go:154
    refine wl (ro_cmp (r := true) rfl rfl (congrArg some ((beqc c.toNat 60).trans (decide_eq_true (by omega))))) ?_
    refine wl (ro_assign rfl) ?_
    refine wl_nil (x_then (hK73 _ _ ?_))
    clear hK73 K73
    refine wc_condT rfl ?_
    refine c_seq (fun K74 hK74 => ?_)
    refine c_reg ?_ -- region 23 scan.go:155
    refine wl (ro_fieldAddr (k := 4) rfl fo_189_4) ?_
    refine wl_put rfl rfl rfl sz_3 hT ((by simp)) ((show _ = tkc i (i + 1) ⟨6, 0, 3, zR⟩ from rfl)) (fun w22 hT F22 => ?_)
    replace hF := hF.thenDrew.thenO F22 (by first | exact .inr (by omega) | exact .inl rfl | exact .inl (by assumption))
    replace hR := F22.blkO hR (by omega)
    refine wl_nil (x_then (hK74 _ _ ?_))
    clear hK74 K74
    refine forget [(1, _), (4, _), (5, _), (6, _)] ⟨rfl, rfl, rfl, rfl, trivial⟩ (fun e => ?_)
    refine c_seq (fun K75 hK75 => ?_)
    refine c_reg ?_ -- region 24 scan.go:156
    refine wl (ro_move rfl) ?_
    refine wl (ro_cmp (r := true) rfl rfl (congrArg some ((beqc d.toNat 61).trans (decide_eq_true (by omega))))) ?_
    refine wl_nil (x_then (hK75 _ _ ?_))
    clear hK75 K75
    refine wc_condT rfl ?_
    refine c_reg ?_ -- region 25 scan.go:157
    refine wl (ro_move rfl) ?_
    refine wl (ro_arith (r := ((i + 2 : Nat) : Int)) rfl rfl rfl (Go.IntWalk.i64_in _ (by omega))) ?_
    refine wl (ro_fieldAddr (k := 4) rfl fo_189_4) ?_
    refine wl_put rfl rfl rfl sz_3 hT ((by simp)) ((show _ = tkc i (i + 1) ⟨6, 0, 4, zR⟩ from rfl)) (fun w23 hT F23 => ?_)
    replace hF := hF.thenDrew.thenO F23 (by first | exact .inr (by omega) | exact .inl rfl | exact .inl (by assumption))
    replace hR := F23.blkO hR (by omega)
    refine wl (ro_fieldAddr (k := 2) rfl fo_189_2) ?_
    refine wl_put rfl rfl rfl sz_3 hT ((by simp)) ((show _ = tkc i (i + 2) ⟨6, 0, 4, zR⟩ from rfl)) (fun w24 hT F24 => ?_)
    replace hF := hF.thenDrew.thenO F24 (by first | exact .inr (by omega) | exact .inl rfl | exact .inl (by assumption))
    replace hR := F24.blkO hR (by omega)
    refine wl_nil (x_blk (x_then (hK5 _ _ ?_)))
    clear hK5 K5
    refine forget [(4, _), (5, _)] ⟨rfl, rfl, trivial⟩ (fun e => ?_)
    refine c_seq (fun K76 hK76 => ?_)
    refine c_reg ?_ -- region 36 scan.go:174
    refine wl (ro_loadAggB rfl ag_189 (hT) (rfl) (rfl)) ?_
    refine wl_puta rfl rfl ((tkc_cells _ _ _)) sz_189 (rfl) hR ((by simp)) (rfl) (fun w25 hR F25 => ?_)
    replace hF := hF.thenDrew.thenO F25 (by first | exact .inr (by omega) | exact .inl rfl | exact .inl (by assumption))
    replace hT := F25.blkO hT (by omega)
    refine wl_nil (x_then (hK76 _ _ ?_))
    clear hK76 K76
    refine c_ret ?_
    refine bq_ret (res1 Tryz.results154 (rv_c rfl ag_189 (hR) rfl)) ?_
    rw [hres]; exact ⟨rfl, hF⟩
  · skip
    have hce : c = 60 := (u8_eq (n := 60) (by omega)).2 q.1
    have hres : sgnT c d = (⟨6, 0, 2, zR⟩, 2) := by
      have n1 : d = 62 := (u8_eq (n := 62) (by omega)).2 q.2
      rw [hce, n1]
      rfl
    refine c_reg ?_ -- region 5 scan.go:141
    refine wl (ro_move rfl) ?_
    refine wl (ro_move rfl) ?_
    refine wl (ro_indexS rfl rfl st_9 (rfl) (hc)) ?_
    refine wl_nil (x_then (hK6 _ _ ?_))
    clear hK6 K6
    refine c_block ?_
    refine c_seq (fun K77 hK77 => ?_)
    refine c_seq (fun K78 hK78 => ?_)
    refine c_reg ?_ -- region 7 scan.go:142
    refine wl (ro_cmp (r := false) rfl rfl (congrArg some ((beqc c.toNat 40).trans (decide_eq_false (by omega))))) ?_
    refine wl (ro_assign rfl) ?_
    refine wl_nil (x_then (hK78 _ _ ?_))
    clear hK78 K78
    refine wc_condF rfl ?_
    refine c_seq (fun K79 hK79 => ?_)
    refine c_reg ?_ -- region 8 scan.go:142
    refine wl (ro_cmp (r := false) rfl rfl (congrArg some ((beqc c.toNat 41).trans (decide_eq_false (by omega))))) ?_
    refine wl (ro_assign rfl) ?_
    refine wl_nil (x_then (hK79 _ _ ?_))
    clear hK79 K79
    refine wc_condF rfl ?_
    refine c_seq (fun K80 hK80 => ?_)
    refine c_reg ?_ -- region 9 scan.go:142
    refine wl (ro_cmp (r := false) rfl rfl (congrArg some ((beqc c.toNat 44).trans (decide_eq_false (by omega))))) ?_
    refine wl (ro_assign rfl) ?_
    refine wl_nil (x_then (hK80 _ _ ?_))
    clear hK80 K80
    refine wc_condF rfl ?_
    refine c_reg ?_ -- region 10 scan.go:142
    refine wl (ro_cmp (r := false) rfl rfl (congrArg some ((beqc c.toNat 58).trans (decide_eq_false (by omega))))) ?_
    refine wl (ro_assign rfl) ?_
    refine wl_nil (x_then (hK77 _ _ ?_))
    clear hK77 K77
    refine wc_condF rfl ?_
    refine c_seq (fun K81 hK81 => ?_)
    refine c_reg ?_ -- region 12 scan.go:144
    refine wl (ro_cmp (r := false) rfl rfl (congrArg some ((beqc c.toNat 43).trans (decide_eq_false (by omega))))) ?_
    refine wl (ro_assign rfl) ?_
    refine wl_nil (x_then (hK81 _ _ ?_))
    clear hK81 K81
    refine wc_condF rfl ?_
    refine c_seq (fun K82 hK82 => ?_)
    refine c_reg ?_ -- region 14 scan.go:146
    refine wl (ro_cmp (r := false) rfl rfl (congrArg some ((beqc c.toNat 45).trans (decide_eq_false (by omega))))) ?_
    refine wl (ro_assign rfl) ?_
    refine wl_nil (x_then (hK82 _ _ ?_))
    clear hK82 K82
    refine wc_condF rfl ?_
    refine c_seq (fun K83 hK83 => ?_)
    refine c_reg ?_ -- region 16 scan.go:148
    refine wl (ro_cmp (r := false) rfl rfl (congrArg some ((beqc c.toNat 42).trans (decide_eq_false (by omega))))) ?_
    refine wl (ro_assign rfl) ?_
    refine wl_nil (x_then (hK83 _ _ ?_))
    clear hK83 K83
    refine wc_condF rfl ?_
    refine c_seq (fun K84 hK84 => ?_)
    refine c_reg ?_ -- region 18 scan.go:150
    refine wl (ro_cmp (r := false) rfl rfl (congrArg some ((beqc c.toNat 47).trans (decide_eq_false (by omega))))) ?_
    refine wl (ro_assign rfl) ?_
    refine wl_nil (x_then (hK84 _ _ ?_))
    clear hK84 K84
    refine wc_condF rfl ?_
    refine c_seq (fun K85 hK85 => ?_)
    refine c_reg ?_ -- region 20 scan.go:152
    refine wl (ro_cmp (r := false) rfl rfl (congrArg some ((beqc c.toNat 61).trans (decide_eq_false (by omega))))) ?_
    refine wl (ro_assign rfl) ?_
    refine wl_nil (x_then (hK85 _ _ ?_))
    clear hK85 K85
    refine wc_condF rfl ?_
    refine c_seq (fun K86 hK86 => ?_)
    refine c_reg ?_ -- region 22 scan.go:154
    refine wl (ro_cmp (r := true) rfl rfl (congrArg some ((beqc c.toNat 60).trans (decide_eq_true (by omega))))) ?_
    refine wl (ro_assign rfl) ?_
    refine wl_nil (x_then (hK86 _ _ ?_))
    clear hK86 K86
    refine wc_condT rfl ?_
    refine c_seq (fun K87 hK87 => ?_)
    refine c_reg ?_ -- region 23 scan.go:155
    refine wl (ro_fieldAddr (k := 4) rfl fo_189_4) ?_
    refine wl_put rfl rfl rfl sz_3 hT ((by simp)) ((show _ = tkc i (i + 1) ⟨6, 0, 3, zR⟩ from rfl)) (fun w26 hT F26 => ?_)
    replace hF := hF.thenDrew.thenO F26 (by first | exact .inr (by omega) | exact .inl rfl | exact .inl (by assumption))
    replace hR := F26.blkO hR (by omega)
    refine wl_nil (x_then (hK87 _ _ ?_))
    clear hK87 K87
    refine forget [(1, _), (4, _), (5, _), (6, _)] ⟨rfl, rfl, rfl, rfl, trivial⟩ (fun e => ?_)
    refine c_seq (fun K88 hK88 => ?_)
    refine c_reg ?_ -- region 24 scan.go:156
    refine wl (ro_move rfl) ?_
    refine wl (ro_cmp (r := false) rfl rfl (congrArg some ((beqc d.toNat 61).trans (decide_eq_false (by omega))))) ?_
    refine wl_nil (x_then (hK88 _ _ ?_))
    clear hK88 K88
    refine wc_condF rfl ?_
    refine c_seq (fun K89 hK89 => ?_)
    refine c_reg ?_ -- region 26 scan.go:158
    refine wl (ro_move rfl) ?_
    refine wl (ro_cmp (r := true) rfl rfl (congrArg some ((beqc d.toNat 62).trans (decide_eq_true (by omega))))) ?_
    refine wl_nil (x_then (hK89 _ _ ?_))
    clear hK89 K89
    refine wc_condT rfl ?_
    refine c_reg ?_ -- region 27 scan.go:159
    refine wl (ro_move rfl) ?_
    refine wl (ro_arith (r := ((i + 2 : Nat) : Int)) rfl rfl rfl (Go.IntWalk.i64_in _ (by omega))) ?_
    refine wl (ro_fieldAddr (k := 4) rfl fo_189_4) ?_
    refine wl_put rfl rfl rfl sz_3 hT ((by simp)) ((show _ = tkc i (i + 1) ⟨6, 0, 2, zR⟩ from rfl)) (fun w27 hT F27 => ?_)
    replace hF := hF.thenDrew.thenO F27 (by first | exact .inr (by omega) | exact .inl rfl | exact .inl (by assumption))
    replace hR := F27.blkO hR (by omega)
    refine wl (ro_fieldAddr (k := 2) rfl fo_189_2) ?_
    refine wl_put rfl rfl rfl sz_3 hT ((by simp)) ((show _ = tkc i (i + 2) ⟨6, 0, 2, zR⟩ from rfl)) (fun w28 hT F28 => ?_)
    replace hF := hF.thenDrew.thenO F28 (by first | exact .inr (by omega) | exact .inl rfl | exact .inl (by assumption))
    replace hR := F28.blkO hR (by omega)
    refine wl_nil (x_blk (x_then (hK5 _ _ ?_)))
    clear hK5 K5
    refine forget [(4, _), (5, _)] ⟨rfl, rfl, trivial⟩ (fun e => ?_)
    refine c_seq (fun K90 hK90 => ?_)
    refine c_reg ?_ -- region 36 scan.go:174
    refine wl (ro_loadAggB rfl ag_189 (hT) (rfl) (rfl)) ?_
    refine wl_puta rfl rfl ((tkc_cells _ _ _)) sz_189 (rfl) hR ((by simp)) (rfl) (fun w29 hR F29 => ?_)
    replace hF := hF.thenDrew.thenO F29 (by first | exact .inr (by omega) | exact .inl rfl | exact .inl (by assumption))
    replace hT := F29.blkO hT (by omega)
    refine wl_nil (x_then (hK90 _ _ ?_))
    clear hK90 K90
    refine c_ret ?_
    refine bq_ret (res1 Tryz.results154 (rv_c rfl ag_189 (hR) rfl)) ?_
    rw [hres]; exact ⟨rfl, hF⟩
  · skip
    have hce : c = 60 := (u8_eq (n := 60) (by omega)).2 q.1
    have hres : sgnT c d = (⟨6, 0, 3, zR⟩, 1) := by
      have n1 : d ≠ 61 := fun h => q.2.1 ((u8_eq (n := 61) (by omega)).1 h)
      have n2 : d ≠ 62 := fun h => q.2.2 ((u8_eq (n := 62) (by omega)).1 h)
      rw [hce]
      simp [sgnT, n1, n2]
    refine c_reg ?_ -- region 5 scan.go:141
    refine wl (ro_move rfl) ?_
    refine wl (ro_move rfl) ?_
    refine wl (ro_indexS rfl rfl st_9 (rfl) (hc)) ?_
    refine wl_nil (x_then (hK6 _ _ ?_))
    clear hK6 K6
    refine c_block ?_
    refine c_seq (fun K91 hK91 => ?_)
    refine c_seq (fun K92 hK92 => ?_)
    refine c_reg ?_ -- region 7 scan.go:142
    refine wl (ro_cmp (r := false) rfl rfl (congrArg some ((beqc c.toNat 40).trans (decide_eq_false (by omega))))) ?_
    refine wl (ro_assign rfl) ?_
    refine wl_nil (x_then (hK92 _ _ ?_))
    clear hK92 K92
    refine wc_condF rfl ?_
    refine c_seq (fun K93 hK93 => ?_)
    refine c_reg ?_ -- region 8 scan.go:142
    refine wl (ro_cmp (r := false) rfl rfl (congrArg some ((beqc c.toNat 41).trans (decide_eq_false (by omega))))) ?_
    refine wl (ro_assign rfl) ?_
    refine wl_nil (x_then (hK93 _ _ ?_))
    clear hK93 K93
    refine wc_condF rfl ?_
    refine c_seq (fun K94 hK94 => ?_)
    refine c_reg ?_ -- region 9 scan.go:142
    refine wl (ro_cmp (r := false) rfl rfl (congrArg some ((beqc c.toNat 44).trans (decide_eq_false (by omega))))) ?_
    refine wl (ro_assign rfl) ?_
    refine wl_nil (x_then (hK94 _ _ ?_))
    clear hK94 K94
    refine wc_condF rfl ?_
    refine c_reg ?_ -- region 10 scan.go:142
    refine wl (ro_cmp (r := false) rfl rfl (congrArg some ((beqc c.toNat 58).trans (decide_eq_false (by omega))))) ?_
    refine wl (ro_assign rfl) ?_
    refine wl_nil (x_then (hK91 _ _ ?_))
    clear hK91 K91
    refine wc_condF rfl ?_
    refine c_seq (fun K95 hK95 => ?_)
    refine c_reg ?_ -- region 12 scan.go:144
    refine wl (ro_cmp (r := false) rfl rfl (congrArg some ((beqc c.toNat 43).trans (decide_eq_false (by omega))))) ?_
    refine wl (ro_assign rfl) ?_
    refine wl_nil (x_then (hK95 _ _ ?_))
    clear hK95 K95
    refine wc_condF rfl ?_
    refine c_seq (fun K96 hK96 => ?_)
    refine c_reg ?_ -- region 14 scan.go:146
    refine wl (ro_cmp (r := false) rfl rfl (congrArg some ((beqc c.toNat 45).trans (decide_eq_false (by omega))))) ?_
    refine wl (ro_assign rfl) ?_
    refine wl_nil (x_then (hK96 _ _ ?_))
    clear hK96 K96
    refine wc_condF rfl ?_
    refine c_seq (fun K97 hK97 => ?_)
    refine c_reg ?_ -- region 16 scan.go:148
    refine wl (ro_cmp (r := false) rfl rfl (congrArg some ((beqc c.toNat 42).trans (decide_eq_false (by omega))))) ?_
    refine wl (ro_assign rfl) ?_
    refine wl_nil (x_then (hK97 _ _ ?_))
    clear hK97 K97
    refine wc_condF rfl ?_
    refine c_seq (fun K98 hK98 => ?_)
    refine c_reg ?_ -- region 18 scan.go:150
    refine wl (ro_cmp (r := false) rfl rfl (congrArg some ((beqc c.toNat 47).trans (decide_eq_false (by omega))))) ?_
    refine wl (ro_assign rfl) ?_
    refine wl_nil (x_then (hK98 _ _ ?_))
    clear hK98 K98
    refine wc_condF rfl ?_
    refine c_seq (fun K99 hK99 => ?_)
    refine c_reg ?_ -- region 20 scan.go:152
    refine wl (ro_cmp (r := false) rfl rfl (congrArg some ((beqc c.toNat 61).trans (decide_eq_false (by omega))))) ?_
    refine wl (ro_assign rfl) ?_
    refine wl_nil (x_then (hK99 _ _ ?_))
    clear hK99 K99
    refine wc_condF rfl ?_
    refine c_seq (fun K100 hK100 => ?_)
    refine c_reg ?_ -- region 22 scan.go:154
    refine wl (ro_cmp (r := true) rfl rfl (congrArg some ((beqc c.toNat 60).trans (decide_eq_true (by omega))))) ?_
    refine wl (ro_assign rfl) ?_
    refine wl_nil (x_then (hK100 _ _ ?_))
    clear hK100 K100
    refine wc_condT rfl ?_
    refine c_seq (fun K101 hK101 => ?_)
    refine c_reg ?_ -- region 23 scan.go:155
    refine wl (ro_fieldAddr (k := 4) rfl fo_189_4) ?_
    refine wl_put rfl rfl rfl sz_3 hT ((by simp)) ((show _ = tkc i (i + 1) ⟨6, 0, 3, zR⟩ from rfl)) (fun w30 hT F30 => ?_)
    replace hF := hF.thenDrew.thenO F30 (by first | exact .inr (by omega) | exact .inl rfl | exact .inl (by assumption))
    replace hR := F30.blkO hR (by omega)
    refine wl_nil (x_then (hK101 _ _ ?_))
    clear hK101 K101
    refine forget [(1, _), (4, _), (5, _), (6, _)] ⟨rfl, rfl, rfl, rfl, trivial⟩ (fun e => ?_)
    refine c_seq (fun K102 hK102 => ?_)
    refine c_reg ?_ -- region 24 scan.go:156
    refine wl (ro_move rfl) ?_
    refine wl (ro_cmp (r := false) rfl rfl (congrArg some ((beqc d.toNat 61).trans (decide_eq_false (by omega))))) ?_
    refine wl_nil (x_then (hK102 _ _ ?_))
    clear hK102 K102
    refine wc_condF rfl ?_
    refine c_seq (fun K103 hK103 => ?_)
    refine c_reg ?_ -- region 26 scan.go:158
    refine wl (ro_move rfl) ?_
    refine wl (ro_cmp (r := false) rfl rfl (congrArg some ((beqc d.toNat 62).trans (decide_eq_false (by omega))))) ?_
    refine wl_nil (x_then (hK103 _ _ ?_))
    clear hK103 K103
    refine wc_condF rfl ?_
    refine c_skip (x_blk (x_then (hK5 _ _ ?_)))
    clear hK5 K5
    refine forget [(4, _), (5, _)] ⟨rfl, rfl, trivial⟩ (fun e => ?_)
    refine c_seq (fun K104 hK104 => ?_)
    refine c_reg ?_ -- region 36 scan.go:174
    refine wl (ro_loadAggB rfl ag_189 (hT) (rfl) (rfl)) ?_
    refine wl_puta rfl rfl ((tkc_cells _ _ _)) sz_189 (rfl) hR ((by simp)) (rfl) (fun w31 hR F31 => ?_)
    replace hF := hF.thenDrew.thenO F31 (by first | exact .inr (by omega) | exact .inl rfl | exact .inl (by assumption))
    replace hT := F31.blkO hT (by omega)
    refine wl_nil (x_then (hK104 _ _ ?_))
    clear hK104 K104
    refine c_ret ?_
    refine bq_ret (res1 Tryz.results154 (rv_c rfl ag_189 (hR) rfl)) ?_
    rw [hres]; exact ⟨rfl, hF⟩
  · skip
    have hce : c = 62 := (u8_eq (n := 62) (by omega)).2 q.1
    have hres : sgnT c d = (⟨6, 0, 6, zR⟩, 2) := by
      have n1 : d = 61 := (u8_eq (n := 61) (by omega)).2 q.2
      rw [hce, n1]
      rfl
    refine c_reg ?_ -- region 5 scan.go:141
    refine wl (ro_move rfl) ?_
    refine wl (ro_move rfl) ?_
    refine wl (ro_indexS rfl rfl st_9 (rfl) (hc)) ?_
    refine wl_nil (x_then (hK6 _ _ ?_))
    clear hK6 K6
    refine c_block ?_
    refine c_seq (fun K105 hK105 => ?_)
    refine c_seq (fun K106 hK106 => ?_)
    refine c_reg ?_ -- region 7 scan.go:142
    refine wl (ro_cmp (r := false) rfl rfl (congrArg some ((beqc c.toNat 40).trans (decide_eq_false (by omega))))) ?_
    refine wl (ro_assign rfl) ?_
    refine wl_nil (x_then (hK106 _ _ ?_))
    clear hK106 K106
    refine wc_condF rfl ?_
    refine c_seq (fun K107 hK107 => ?_)
    refine c_reg ?_ -- region 8 scan.go:142
    refine wl (ro_cmp (r := false) rfl rfl (congrArg some ((beqc c.toNat 41).trans (decide_eq_false (by omega))))) ?_
    refine wl (ro_assign rfl) ?_
    refine wl_nil (x_then (hK107 _ _ ?_))
    clear hK107 K107
    refine wc_condF rfl ?_
    refine c_seq (fun K108 hK108 => ?_)
    refine c_reg ?_ -- region 9 scan.go:142
    refine wl (ro_cmp (r := false) rfl rfl (congrArg some ((beqc c.toNat 44).trans (decide_eq_false (by omega))))) ?_
    refine wl (ro_assign rfl) ?_
    refine wl_nil (x_then (hK108 _ _ ?_))
    clear hK108 K108
    refine wc_condF rfl ?_
    refine c_reg ?_ -- region 10 scan.go:142
    refine wl (ro_cmp (r := false) rfl rfl (congrArg some ((beqc c.toNat 58).trans (decide_eq_false (by omega))))) ?_
    refine wl (ro_assign rfl) ?_
    refine wl_nil (x_then (hK105 _ _ ?_))
    clear hK105 K105
    refine wc_condF rfl ?_
    refine c_seq (fun K109 hK109 => ?_)
    refine c_reg ?_ -- region 12 scan.go:144
    refine wl (ro_cmp (r := false) rfl rfl (congrArg some ((beqc c.toNat 43).trans (decide_eq_false (by omega))))) ?_
    refine wl (ro_assign rfl) ?_
    refine wl_nil (x_then (hK109 _ _ ?_))
    clear hK109 K109
    refine wc_condF rfl ?_
    refine c_seq (fun K110 hK110 => ?_)
    refine c_reg ?_ -- region 14 scan.go:146
    refine wl (ro_cmp (r := false) rfl rfl (congrArg some ((beqc c.toNat 45).trans (decide_eq_false (by omega))))) ?_
    refine wl (ro_assign rfl) ?_
    refine wl_nil (x_then (hK110 _ _ ?_))
    clear hK110 K110
    refine wc_condF rfl ?_
    refine c_seq (fun K111 hK111 => ?_)
    refine c_reg ?_ -- region 16 scan.go:148
    refine wl (ro_cmp (r := false) rfl rfl (congrArg some ((beqc c.toNat 42).trans (decide_eq_false (by omega))))) ?_
    refine wl (ro_assign rfl) ?_
    refine wl_nil (x_then (hK111 _ _ ?_))
    clear hK111 K111
    refine wc_condF rfl ?_
    refine c_seq (fun K112 hK112 => ?_)
    refine c_reg ?_ -- region 18 scan.go:150
    refine wl (ro_cmp (r := false) rfl rfl (congrArg some ((beqc c.toNat 47).trans (decide_eq_false (by omega))))) ?_
    refine wl (ro_assign rfl) ?_
    refine wl_nil (x_then (hK112 _ _ ?_))
    clear hK112 K112
    refine wc_condF rfl ?_
    refine c_seq (fun K113 hK113 => ?_)
    refine c_reg ?_ -- region 20 scan.go:152
    refine wl (ro_cmp (r := false) rfl rfl (congrArg some ((beqc c.toNat 61).trans (decide_eq_false (by omega))))) ?_
    refine wl (ro_assign rfl) ?_
    refine wl_nil (x_then (hK113 _ _ ?_))
    clear hK113 K113
    refine wc_condF rfl ?_
    refine c_seq (fun K114 hK114 => ?_)
    refine c_reg ?_ -- region 22 scan.go:154
    refine wl (ro_cmp (r := false) rfl rfl (congrArg some ((beqc c.toNat 60).trans (decide_eq_false (by omega))))) ?_
    refine wl (ro_assign rfl) ?_
    refine wl_nil (x_then (hK114 _ _ ?_))
    clear hK114 K114
    refine wc_condF rfl ?_
    refine c_seq (fun K115 hK115 => ?_)
    refine c_reg ?_ -- region 28 scan.go:161
    refine wl (ro_cmp (r := true) rfl rfl (congrArg some ((beqc c.toNat 62).trans (decide_eq_true (by omega))))) ?_
    refine wl (ro_assign rfl) ?_
    refine wl_nil (x_then (hK115 _ _ ?_))
    clear hK115 K115
    refine wc_condT rfl ?_
    refine c_seq (fun K116 hK116 => ?_)
    refine c_reg ?_ -- region 29 scan.go:162
    refine wl (ro_fieldAddr (k := 4) rfl fo_189_4) ?_
    refine wl_put rfl rfl rfl sz_3 hT ((by simp)) ((show _ = tkc i (i + 1) ⟨6, 0, 5, zR⟩ from rfl)) (fun w32 hT F32 => ?_)
    replace hF := hF.thenDrew.thenO F32 (by first | exact .inr (by omega) | exact .inl rfl | exact .inl (by assumption))
    replace hR := F32.blkO hR (by omega)
    refine wl_nil (x_then (hK116 _ _ ?_))
    clear hK116 K116
    refine forget [(1, _), (4, _), (5, _), (6, _)] ⟨rfl, rfl, rfl, rfl, trivial⟩ (fun e => ?_)
    refine c_seq (fun K117 hK117 => ?_)
    refine c_reg ?_ -- region 30 scan.go:163
    refine wl (ro_move rfl) ?_
    refine wl (ro_cmp (r := true) rfl rfl (congrArg some ((beqc d.toNat 61).trans (decide_eq_true (by omega))))) ?_
    refine wl_nil (x_then (hK117 _ _ ?_))
    clear hK117 K117
    refine wc_condT rfl ?_
    refine c_reg ?_ -- region 31 scan.go:164
    refine wl (ro_move rfl) ?_
    refine wl (ro_arith (r := ((i + 2 : Nat) : Int)) rfl rfl rfl (Go.IntWalk.i64_in _ (by omega))) ?_
    refine wl (ro_fieldAddr (k := 4) rfl fo_189_4) ?_
    refine wl_put rfl rfl rfl sz_3 hT ((by simp)) ((show _ = tkc i (i + 1) ⟨6, 0, 6, zR⟩ from rfl)) (fun w33 hT F33 => ?_)
    replace hF := hF.thenDrew.thenO F33 (by first | exact .inr (by omega) | exact .inl rfl | exact .inl (by assumption))
    replace hR := F33.blkO hR (by omega)
    refine wl (ro_fieldAddr (k := 2) rfl fo_189_2) ?_
    refine wl_put rfl rfl rfl sz_3 hT ((by simp)) ((show _ = tkc i (i + 2) ⟨6, 0, 6, zR⟩ from rfl)) (fun w34 hT F34 => ?_)
    replace hF := hF.thenDrew.thenO F34 (by first | exact .inr (by omega) | exact .inl rfl | exact .inl (by assumption))
    replace hR := F34.blkO hR (by omega)
    refine wl_nil (x_blk (x_then (hK5 _ _ ?_)))
    clear hK5 K5
    refine forget [(4, _), (5, _)] ⟨rfl, rfl, trivial⟩ (fun e => ?_)
    refine c_seq (fun K118 hK118 => ?_)
    refine c_reg ?_ -- region 36 scan.go:174
    refine wl (ro_loadAggB rfl ag_189 (hT) (rfl) (rfl)) ?_
    refine wl_puta rfl rfl ((tkc_cells _ _ _)) sz_189 (rfl) hR ((by simp)) (rfl) (fun w35 hR F35 => ?_)
    replace hF := hF.thenDrew.thenO F35 (by first | exact .inr (by omega) | exact .inl rfl | exact .inl (by assumption))
    replace hT := F35.blkO hT (by omega)
    refine wl_nil (x_then (hK118 _ _ ?_))
    clear hK118 K118
    refine c_ret ?_
    refine bq_ret (res1 Tryz.results154 (rv_c rfl ag_189 (hR) rfl)) ?_
    rw [hres]; exact ⟨rfl, hF⟩
  · skip
    have hce : c = 62 := (u8_eq (n := 62) (by omega)).2 q.1
    have hres : sgnT c d = (⟨6, 0, 5, zR⟩, 1) := by
      have n1 : d ≠ 61 := fun h => q.2 ((u8_eq (n := 61) (by omega)).1 h)
      rw [hce]
      simp [sgnT, n1]
    refine c_reg ?_ -- region 5 scan.go:141
    refine wl (ro_move rfl) ?_
    refine wl (ro_move rfl) ?_
    refine wl (ro_indexS rfl rfl st_9 (rfl) (hc)) ?_
    refine wl_nil (x_then (hK6 _ _ ?_))
    clear hK6 K6
    refine c_block ?_
    refine c_seq (fun K119 hK119 => ?_)
    refine c_seq (fun K120 hK120 => ?_)
    refine c_reg ?_ -- region 7 scan.go:142
    refine wl (ro_cmp (r := false) rfl rfl (congrArg some ((beqc c.toNat 40).trans (decide_eq_false (by omega))))) ?_
    refine wl (ro_assign rfl) ?_
    refine wl_nil (x_then (hK120 _ _ ?_))
    clear hK120 K120
    refine wc_condF rfl ?_
    refine c_seq (fun K121 hK121 => ?_)
    refine c_reg ?_ -- region 8 scan.go:142
    refine wl (ro_cmp (r := false) rfl rfl (congrArg some ((beqc c.toNat 41).trans (decide_eq_false (by omega))))) ?_
    refine wl (ro_assign rfl) ?_
    refine wl_nil (x_then (hK121 _ _ ?_))
    clear hK121 K121
    refine wc_condF rfl ?_
    refine c_seq (fun K122 hK122 => ?_)
    refine c_reg ?_ -- region 9 scan.go:142
    refine wl (ro_cmp (r := false) rfl rfl (congrArg some ((beqc c.toNat 44).trans (decide_eq_false (by omega))))) ?_
    refine wl (ro_assign rfl) ?_
    refine wl_nil (x_then (hK122 _ _ ?_))
    clear hK122 K122
    refine wc_condF rfl ?_
    refine c_reg ?_ -- region 10 scan.go:142
    refine wl (ro_cmp (r := false) rfl rfl (congrArg some ((beqc c.toNat 58).trans (decide_eq_false (by omega))))) ?_
    refine wl (ro_assign rfl) ?_
    refine wl_nil (x_then (hK119 _ _ ?_))
    clear hK119 K119
    refine wc_condF rfl ?_
    refine c_seq (fun K123 hK123 => ?_)
    refine c_reg ?_ -- region 12 scan.go:144
    refine wl (ro_cmp (r := false) rfl rfl (congrArg some ((beqc c.toNat 43).trans (decide_eq_false (by omega))))) ?_
    refine wl (ro_assign rfl) ?_
    refine wl_nil (x_then (hK123 _ _ ?_))
    clear hK123 K123
    refine wc_condF rfl ?_
    refine c_seq (fun K124 hK124 => ?_)
    refine c_reg ?_ -- region 14 scan.go:146
    refine wl (ro_cmp (r := false) rfl rfl (congrArg some ((beqc c.toNat 45).trans (decide_eq_false (by omega))))) ?_
    refine wl (ro_assign rfl) ?_
    refine wl_nil (x_then (hK124 _ _ ?_))
    clear hK124 K124
    refine wc_condF rfl ?_
    refine c_seq (fun K125 hK125 => ?_)
    refine c_reg ?_ -- region 16 scan.go:148
    refine wl (ro_cmp (r := false) rfl rfl (congrArg some ((beqc c.toNat 42).trans (decide_eq_false (by omega))))) ?_
    refine wl (ro_assign rfl) ?_
    refine wl_nil (x_then (hK125 _ _ ?_))
    clear hK125 K125
    refine wc_condF rfl ?_
    refine c_seq (fun K126 hK126 => ?_)
    refine c_reg ?_ -- region 18 scan.go:150
    refine wl (ro_cmp (r := false) rfl rfl (congrArg some ((beqc c.toNat 47).trans (decide_eq_false (by omega))))) ?_
    refine wl (ro_assign rfl) ?_
    refine wl_nil (x_then (hK126 _ _ ?_))
    clear hK126 K126
    refine wc_condF rfl ?_
    refine c_seq (fun K127 hK127 => ?_)
    refine c_reg ?_ -- region 20 scan.go:152
    refine wl (ro_cmp (r := false) rfl rfl (congrArg some ((beqc c.toNat 61).trans (decide_eq_false (by omega))))) ?_
    refine wl (ro_assign rfl) ?_
    refine wl_nil (x_then (hK127 _ _ ?_))
    clear hK127 K127
    refine wc_condF rfl ?_
    refine c_seq (fun K128 hK128 => ?_)
    refine c_reg ?_ -- region 22 scan.go:154
    refine wl (ro_cmp (r := false) rfl rfl (congrArg some ((beqc c.toNat 60).trans (decide_eq_false (by omega))))) ?_
    refine wl (ro_assign rfl) ?_
    refine wl_nil (x_then (hK128 _ _ ?_))
    clear hK128 K128
    refine wc_condF rfl ?_
    refine c_seq (fun K129 hK129 => ?_)
    refine c_reg ?_ -- region 28 scan.go:161
    refine wl (ro_cmp (r := true) rfl rfl (congrArg some ((beqc c.toNat 62).trans (decide_eq_true (by omega))))) ?_
    refine wl (ro_assign rfl) ?_
    refine wl_nil (x_then (hK129 _ _ ?_))
    clear hK129 K129
    refine wc_condT rfl ?_
    refine c_seq (fun K130 hK130 => ?_)
    refine c_reg ?_ -- region 29 scan.go:162
    refine wl (ro_fieldAddr (k := 4) rfl fo_189_4) ?_
    refine wl_put rfl rfl rfl sz_3 hT ((by simp)) ((show _ = tkc i (i + 1) ⟨6, 0, 5, zR⟩ from rfl)) (fun w36 hT F36 => ?_)
    replace hF := hF.thenDrew.thenO F36 (by first | exact .inr (by omega) | exact .inl rfl | exact .inl (by assumption))
    replace hR := F36.blkO hR (by omega)
    refine wl_nil (x_then (hK130 _ _ ?_))
    clear hK130 K130
    refine forget [(1, _), (4, _), (5, _), (6, _)] ⟨rfl, rfl, rfl, rfl, trivial⟩ (fun e => ?_)
    refine c_seq (fun K131 hK131 => ?_)
    refine c_reg ?_ -- region 30 scan.go:163
    refine wl (ro_move rfl) ?_
    refine wl (ro_cmp (r := false) rfl rfl (congrArg some ((beqc d.toNat 61).trans (decide_eq_false (by omega))))) ?_
    refine wl_nil (x_then (hK131 _ _ ?_))
    clear hK131 K131
    refine wc_condF rfl ?_
    refine c_skip (x_blk (x_then (hK5 _ _ ?_)))
    clear hK5 K5
    refine forget [(4, _), (5, _)] ⟨rfl, rfl, trivial⟩ (fun e => ?_)
    refine c_seq (fun K132 hK132 => ?_)
    refine c_reg ?_ -- region 36 scan.go:174
    refine wl (ro_loadAggB rfl ag_189 (hT) (rfl) (rfl)) ?_
    refine wl_puta rfl rfl ((tkc_cells _ _ _)) sz_189 (rfl) hR ((by simp)) (rfl) (fun w37 hR F37 => ?_)
    replace hF := hF.thenDrew.thenO F37 (by first | exact .inr (by omega) | exact .inl rfl | exact .inl (by assumption))
    replace hT := F37.blkO hT (by omega)
    refine wl_nil (x_then (hK132 _ _ ?_))
    clear hK132 K132
    refine c_ret ?_
    refine bq_ret (res1 Tryz.results154 (rv_c rfl ag_189 (hR) rfl)) ?_
    rw [hres]; exact ⟨rfl, hF⟩
  · skip
    have hce : c = 35 := (u8_eq (n := 35) (by omega)).2 q.1
    have hres : sgnT c d = (⟨2, 5, 0, zR⟩, 2) := by
      have n1 : d = 35 := (u8_eq (n := 35) (by omega)).2 q.2
      rw [hce, n1]
      rfl
    refine c_reg ?_ -- region 5 scan.go:141
    refine wl (ro_move rfl) ?_
    refine wl (ro_move rfl) ?_
    refine wl (ro_indexS rfl rfl st_9 (rfl) (hc)) ?_
    refine wl_nil (x_then (hK6 _ _ ?_))
    clear hK6 K6
    refine c_block ?_
    refine c_seq (fun K133 hK133 => ?_)
    refine c_seq (fun K134 hK134 => ?_)
    refine c_reg ?_ -- region 7 scan.go:142
    refine wl (ro_cmp (r := false) rfl rfl (congrArg some ((beqc c.toNat 40).trans (decide_eq_false (by omega))))) ?_
    refine wl (ro_assign rfl) ?_
    refine wl_nil (x_then (hK134 _ _ ?_))
    clear hK134 K134
    refine wc_condF rfl ?_
    refine c_seq (fun K135 hK135 => ?_)
    refine c_reg ?_ -- region 8 scan.go:142
    refine wl (ro_cmp (r := false) rfl rfl (congrArg some ((beqc c.toNat 41).trans (decide_eq_false (by omega))))) ?_
    refine wl (ro_assign rfl) ?_
    refine wl_nil (x_then (hK135 _ _ ?_))
    clear hK135 K135
    refine wc_condF rfl ?_
    refine c_seq (fun K136 hK136 => ?_)
    refine c_reg ?_ -- region 9 scan.go:142
    refine wl (ro_cmp (r := false) rfl rfl (congrArg some ((beqc c.toNat 44).trans (decide_eq_false (by omega))))) ?_
    refine wl (ro_assign rfl) ?_
    refine wl_nil (x_then (hK136 _ _ ?_))
    clear hK136 K136
    refine wc_condF rfl ?_
    refine c_reg ?_ -- region 10 scan.go:142
    refine wl (ro_cmp (r := false) rfl rfl (congrArg some ((beqc c.toNat 58).trans (decide_eq_false (by omega))))) ?_
    refine wl (ro_assign rfl) ?_
    refine wl_nil (x_then (hK133 _ _ ?_))
    clear hK133 K133
    refine wc_condF rfl ?_
    refine c_seq (fun K137 hK137 => ?_)
    refine c_reg ?_ -- region 12 scan.go:144
    refine wl (ro_cmp (r := false) rfl rfl (congrArg some ((beqc c.toNat 43).trans (decide_eq_false (by omega))))) ?_
    refine wl (ro_assign rfl) ?_
    refine wl_nil (x_then (hK137 _ _ ?_))
    clear hK137 K137
    refine wc_condF rfl ?_
    refine c_seq (fun K138 hK138 => ?_)
    refine c_reg ?_ -- region 14 scan.go:146
    refine wl (ro_cmp (r := false) rfl rfl (congrArg some ((beqc c.toNat 45).trans (decide_eq_false (by omega))))) ?_
    refine wl (ro_assign rfl) ?_
    refine wl_nil (x_then (hK138 _ _ ?_))
    clear hK138 K138
    refine wc_condF rfl ?_
    refine c_seq (fun K139 hK139 => ?_)
    refine c_reg ?_ -- region 16 scan.go:148
    refine wl (ro_cmp (r := false) rfl rfl (congrArg some ((beqc c.toNat 42).trans (decide_eq_false (by omega))))) ?_
    refine wl (ro_assign rfl) ?_
    refine wl_nil (x_then (hK139 _ _ ?_))
    clear hK139 K139
    refine wc_condF rfl ?_
    refine c_seq (fun K140 hK140 => ?_)
    refine c_reg ?_ -- region 18 scan.go:150
    refine wl (ro_cmp (r := false) rfl rfl (congrArg some ((beqc c.toNat 47).trans (decide_eq_false (by omega))))) ?_
    refine wl (ro_assign rfl) ?_
    refine wl_nil (x_then (hK140 _ _ ?_))
    clear hK140 K140
    refine wc_condF rfl ?_
    refine c_seq (fun K141 hK141 => ?_)
    refine c_reg ?_ -- region 20 scan.go:152
    refine wl (ro_cmp (r := false) rfl rfl (congrArg some ((beqc c.toNat 61).trans (decide_eq_false (by omega))))) ?_
    refine wl (ro_assign rfl) ?_
    refine wl_nil (x_then (hK141 _ _ ?_))
    clear hK141 K141
    refine wc_condF rfl ?_
    refine c_seq (fun K142 hK142 => ?_)
    refine c_reg ?_ -- region 22 scan.go:154
    refine wl (ro_cmp (r := false) rfl rfl (congrArg some ((beqc c.toNat 60).trans (decide_eq_false (by omega))))) ?_
    refine wl (ro_assign rfl) ?_
    refine wl_nil (x_then (hK142 _ _ ?_))
    clear hK142 K142
    refine wc_condF rfl ?_
    refine c_seq (fun K143 hK143 => ?_)
    refine c_reg ?_ -- region 28 scan.go:161
    refine wl (ro_cmp (r := false) rfl rfl (congrArg some ((beqc c.toNat 62).trans (decide_eq_false (by omega))))) ?_
    refine wl (ro_assign rfl) ?_
    refine wl_nil (x_then (hK143 _ _ ?_))
    clear hK143 K143
    refine wc_condF rfl ?_
    refine c_seq (fun K144 hK144 => ?_)
    refine c_reg ?_ -- region 32 scan.go:166
    refine wl (ro_cmp (r := true) rfl rfl (congrArg some ((beqc c.toNat 35).trans (decide_eq_true (by omega))))) ?_
    refine wl (ro_assign rfl) ?_
    refine wl_nil (x_then (hK144 _ _ ?_))
    clear hK144 K144
    refine wc_condT rfl ?_
    refine c_seq (fun K145 hK145 => ?_)
    refine c_reg ?_ -- region 33 scan.go:167
    refine wl (ro_fieldAddr (k := 0) rfl fo_189_0) ?_
    refine wl_put rfl rfl rfl sz_3 hT ((by simp)) ((show _ = tkc i (i + 1) ⟨3, 0, 0, zR⟩ from rfl)) (fun w38 hT F38 => ?_)
    replace hF := hF.thenDrew.thenO F38 (by first | exact .inr (by omega) | exact .inl rfl | exact .inl (by assumption))
    replace hR := F38.blkO hR (by omega)
    refine wl (ro_fieldAddr (k := 4) rfl fo_189_4) ?_
    refine wl_put rfl rfl rfl sz_3 hT ((by simp)) ((show _ = tkc i (i + 1) ⟨3, 0, 2, zR⟩ from rfl)) (fun w39 hT F39 => ?_)
    replace hF := hF.thenDrew.thenO F39 (by first | exact .inr (by omega) | exact .inl rfl | exact .inl (by assumption))
    replace hR := F39.blkO hR (by omega)
    refine wl_nil (x_then (hK145 _ _ ?_))
    clear hK145 K145
    refine forget [(1, _), (4, _), (5, _), (6, _)] ⟨rfl, rfl, rfl, rfl, trivial⟩ (fun e => ?_)
    refine c_seq (fun K146 hK146 => ?_)
    refine c_reg ?_ -- region 34 scan.go:168
    refine wl (ro_move rfl) ?_
    refine wl (ro_cmp (r := true) rfl rfl (congrArg some ((beqc d.toNat 35).trans (decide_eq_true (by omega))))) ?_
    refine wl_nil (x_then (hK146 _ _ ?_))
    clear hK146 K146
    refine wc_condT rfl ?_
    refine c_reg ?_ -- region 35 scan.go:169
    refine wl (ro_move rfl) ?_
    refine wl (ro_arith (r := ((i + 2 : Nat) : Int)) rfl rfl rfl (Go.IntWalk.i64_in _ (by omega))) ?_
    refine wl (ro_fieldAddr (k := 0) rfl fo_189_0) ?_
    refine wl_put rfl rfl rfl sz_3 hT ((by simp)) ((show _ = tkc i (i + 1) ⟨2, 0, 2, zR⟩ from rfl)) (fun w40 hT F40 => ?_)
    replace hF := hF.thenDrew.thenO F40 (by first | exact .inr (by omega) | exact .inl rfl | exact .inl (by assumption))
    replace hR := F40.blkO hR (by omega)
    refine wl (ro_fieldAddr (k := 3) rfl fo_189_3) ?_
    refine wl_put rfl rfl rfl sz_3 hT ((by simp)) ((show _ = tkc i (i + 1) ⟨2, 5, 2, zR⟩ from rfl)) (fun w41 hT F41 => ?_)
    replace hF := hF.thenDrew.thenO F41 (by first | exact .inr (by omega) | exact .inl rfl | exact .inl (by assumption))
    replace hR := F41.blkO hR (by omega)
    refine wl (ro_fieldAddr (k := 4) rfl fo_189_4) ?_
    refine wl_put rfl rfl rfl sz_3 hT ((by simp)) ((show _ = tkc i (i + 1) ⟨2, 5, 0, zR⟩ from rfl)) (fun w42 hT F42 => ?_)
    replace hF := hF.thenDrew.thenO F42 (by first | exact .inr (by omega) | exact .inl rfl | exact .inl (by assumption))
    replace hR := F42.blkO hR (by omega)
    refine wl (ro_fieldAddr (k := 2) rfl fo_189_2) ?_
    refine wl_put rfl rfl rfl sz_3 hT ((by simp)) ((show _ = tkc i (i + 2) ⟨2, 5, 0, zR⟩ from rfl)) (fun w43 hT F43 => ?_)
    replace hF := hF.thenDrew.thenO F43 (by first | exact .inr (by omega) | exact .inl rfl | exact .inl (by assumption))
    replace hR := F43.blkO hR (by omega)
    refine wl_nil (x_blk (x_then (hK5 _ _ ?_)))
    clear hK5 K5
    refine forget [(4, _), (5, _)] ⟨rfl, rfl, trivial⟩ (fun e => ?_)
    refine c_seq (fun K147 hK147 => ?_)
    refine c_reg ?_ -- region 36 scan.go:174
    refine wl (ro_loadAggB rfl ag_189 (hT) (rfl) (rfl)) ?_
    refine wl_puta rfl rfl ((tkc_cells _ _ _)) sz_189 (rfl) hR ((by simp)) (rfl) (fun w44 hR F44 => ?_)
    replace hF := hF.thenDrew.thenO F44 (by first | exact .inr (by omega) | exact .inl rfl | exact .inl (by assumption))
    replace hT := F44.blkO hT (by omega)
    refine wl_nil (x_then (hK147 _ _ ?_))
    clear hK147 K147
    refine c_ret ?_
    refine bq_ret (res1 Tryz.results154 (rv_c rfl ag_189 (hR) rfl)) ?_
    rw [hres]; exact ⟨rfl, hF⟩
  · skip
    have hce : c = 35 := (u8_eq (n := 35) (by omega)).2 q.1
    have hres : sgnT c d = (⟨3, 0, 2, zR⟩, 1) := by
      have n1 : d ≠ 35 := fun h => q.2 ((u8_eq (n := 35) (by omega)).1 h)
      rw [hce]
      simp [sgnT, n1]
    refine c_reg ?_ -- region 5 scan.go:141
    refine wl (ro_move rfl) ?_
    refine wl (ro_move rfl) ?_
    refine wl (ro_indexS rfl rfl st_9 (rfl) (hc)) ?_
    refine wl_nil (x_then (hK6 _ _ ?_))
    clear hK6 K6
    refine c_block ?_
    refine c_seq (fun K148 hK148 => ?_)
    refine c_seq (fun K149 hK149 => ?_)
    refine c_reg ?_ -- region 7 scan.go:142
    refine wl (ro_cmp (r := false) rfl rfl (congrArg some ((beqc c.toNat 40).trans (decide_eq_false (by omega))))) ?_
    refine wl (ro_assign rfl) ?_
    refine wl_nil (x_then (hK149 _ _ ?_))
    clear hK149 K149
    refine wc_condF rfl ?_
    refine c_seq (fun K150 hK150 => ?_)
    refine c_reg ?_ -- region 8 scan.go:142
    refine wl (ro_cmp (r := false) rfl rfl (congrArg some ((beqc c.toNat 41).trans (decide_eq_false (by omega))))) ?_
    refine wl (ro_assign rfl) ?_
    refine wl_nil (x_then (hK150 _ _ ?_))
    clear hK150 K150
    refine wc_condF rfl ?_
    refine c_seq (fun K151 hK151 => ?_)
    refine c_reg ?_ -- region 9 scan.go:142
    refine wl (ro_cmp (r := false) rfl rfl (congrArg some ((beqc c.toNat 44).trans (decide_eq_false (by omega))))) ?_
    refine wl (ro_assign rfl) ?_
    refine wl_nil (x_then (hK151 _ _ ?_))
    clear hK151 K151
    refine wc_condF rfl ?_
    refine c_reg ?_ -- region 10 scan.go:142
    refine wl (ro_cmp (r := false) rfl rfl (congrArg some ((beqc c.toNat 58).trans (decide_eq_false (by omega))))) ?_
    refine wl (ro_assign rfl) ?_
    refine wl_nil (x_then (hK148 _ _ ?_))
    clear hK148 K148
    refine wc_condF rfl ?_
    refine c_seq (fun K152 hK152 => ?_)
    refine c_reg ?_ -- region 12 scan.go:144
    refine wl (ro_cmp (r := false) rfl rfl (congrArg some ((beqc c.toNat 43).trans (decide_eq_false (by omega))))) ?_
    refine wl (ro_assign rfl) ?_
    refine wl_nil (x_then (hK152 _ _ ?_))
    clear hK152 K152
    refine wc_condF rfl ?_
    refine c_seq (fun K153 hK153 => ?_)
    refine c_reg ?_ -- region 14 scan.go:146
    refine wl (ro_cmp (r := false) rfl rfl (congrArg some ((beqc c.toNat 45).trans (decide_eq_false (by omega))))) ?_
    refine wl (ro_assign rfl) ?_
    refine wl_nil (x_then (hK153 _ _ ?_))
    clear hK153 K153
    refine wc_condF rfl ?_
    refine c_seq (fun K154 hK154 => ?_)
    refine c_reg ?_ -- region 16 scan.go:148
    refine wl (ro_cmp (r := false) rfl rfl (congrArg some ((beqc c.toNat 42).trans (decide_eq_false (by omega))))) ?_
    refine wl (ro_assign rfl) ?_
    refine wl_nil (x_then (hK154 _ _ ?_))
    clear hK154 K154
    refine wc_condF rfl ?_
    refine c_seq (fun K155 hK155 => ?_)
    refine c_reg ?_ -- region 18 scan.go:150
    refine wl (ro_cmp (r := false) rfl rfl (congrArg some ((beqc c.toNat 47).trans (decide_eq_false (by omega))))) ?_
    refine wl (ro_assign rfl) ?_
    refine wl_nil (x_then (hK155 _ _ ?_))
    clear hK155 K155
    refine wc_condF rfl ?_
    refine c_seq (fun K156 hK156 => ?_)
    refine c_reg ?_ -- region 20 scan.go:152
    refine wl (ro_cmp (r := false) rfl rfl (congrArg some ((beqc c.toNat 61).trans (decide_eq_false (by omega))))) ?_
    refine wl (ro_assign rfl) ?_
    refine wl_nil (x_then (hK156 _ _ ?_))
    clear hK156 K156
    refine wc_condF rfl ?_
    refine c_seq (fun K157 hK157 => ?_)
    refine c_reg ?_ -- region 22 scan.go:154
    refine wl (ro_cmp (r := false) rfl rfl (congrArg some ((beqc c.toNat 60).trans (decide_eq_false (by omega))))) ?_
    refine wl (ro_assign rfl) ?_
    refine wl_nil (x_then (hK157 _ _ ?_))
    clear hK157 K157
    refine wc_condF rfl ?_
    refine c_seq (fun K158 hK158 => ?_)
    refine c_reg ?_ -- region 28 scan.go:161
    refine wl (ro_cmp (r := false) rfl rfl (congrArg some ((beqc c.toNat 62).trans (decide_eq_false (by omega))))) ?_
    refine wl (ro_assign rfl) ?_
    refine wl_nil (x_then (hK158 _ _ ?_))
    clear hK158 K158
    refine wc_condF rfl ?_
    refine c_seq (fun K159 hK159 => ?_)
    refine c_reg ?_ -- region 32 scan.go:166
    refine wl (ro_cmp (r := true) rfl rfl (congrArg some ((beqc c.toNat 35).trans (decide_eq_true (by omega))))) ?_
    refine wl (ro_assign rfl) ?_
    refine wl_nil (x_then (hK159 _ _ ?_))
    clear hK159 K159
    refine wc_condT rfl ?_
    refine c_seq (fun K160 hK160 => ?_)
    refine c_reg ?_ -- region 33 scan.go:167
    refine wl (ro_fieldAddr (k := 0) rfl fo_189_0) ?_
    refine wl_put rfl rfl rfl sz_3 hT ((by simp)) ((show _ = tkc i (i + 1) ⟨3, 0, 0, zR⟩ from rfl)) (fun w45 hT F45 => ?_)
    replace hF := hF.thenDrew.thenO F45 (by first | exact .inr (by omega) | exact .inl rfl | exact .inl (by assumption))
    replace hR := F45.blkO hR (by omega)
    refine wl (ro_fieldAddr (k := 4) rfl fo_189_4) ?_
    refine wl_put rfl rfl rfl sz_3 hT ((by simp)) ((show _ = tkc i (i + 1) ⟨3, 0, 2, zR⟩ from rfl)) (fun w46 hT F46 => ?_)
    replace hF := hF.thenDrew.thenO F46 (by first | exact .inr (by omega) | exact .inl rfl | exact .inl (by assumption))
    replace hR := F46.blkO hR (by omega)
    refine wl_nil (x_then (hK160 _ _ ?_))
    clear hK160 K160
    refine forget [(1, _), (4, _), (5, _), (6, _)] ⟨rfl, rfl, rfl, rfl, trivial⟩ (fun e => ?_)
    refine c_seq (fun K161 hK161 => ?_)
    refine c_reg ?_ -- region 34 scan.go:168
    refine wl (ro_move rfl) ?_
    refine wl (ro_cmp (r := false) rfl rfl (congrArg some ((beqc d.toNat 35).trans (decide_eq_false (by omega))))) ?_
    refine wl_nil (x_then (hK161 _ _ ?_))
    clear hK161 K161
    refine wc_condF rfl ?_
    refine c_skip (x_blk (x_then (hK5 _ _ ?_)))
    clear hK5 K5
    refine forget [(4, _), (5, _)] ⟨rfl, rfl, trivial⟩ (fun e => ?_)
    refine c_seq (fun K162 hK162 => ?_)
    refine c_reg ?_ -- region 36 scan.go:174
    refine wl (ro_loadAggB rfl ag_189 (hT) (rfl) (rfl)) ?_
    refine wl_puta rfl rfl ((tkc_cells _ _ _)) sz_189 (rfl) hR ((by simp)) (rfl) (fun w47 hR F47 => ?_)
    replace hF := hF.thenDrew.thenO F47 (by first | exact .inr (by omega) | exact .inl rfl | exact .inl (by assumption))
    replace hT := F47.blkO hT (by omega)
    refine wl_nil (x_then (hK162 _ _ ?_))
    clear hK162 K162
    refine c_ret ?_
    refine bq_ret (res1 Tryz.results154 (rv_c rfl ag_189 (hR) rfl)) ?_
    rw [hres]; exact ⟨rfl, hF⟩
  · skip
    have hres : sgnT c d = (⟨1, 0, 0, zR⟩, 1) := by
      have e : ∀ n : Nat, n < 256 → c.toNat ≠ n → c ≠ UInt8.ofNat n := fun n hn h1 h2 => h1 ((u8_eq hn).1 h2)
      unfold sgnT
      rw [if_neg (by rintro (h | h | h | h); exact e 40 (by omega) (by omega) h; exact e 41 (by omega) (by omega) h; exact e 44 (by omega) (by omega) h; exact e 58 (by omega) (by omega) h), if_neg (show ¬ c = 43 from e 43 (by omega) (by omega)), if_neg (show ¬ c = 45 from e 45 (by omega) (by omega)), if_neg (show ¬ c = 42 from e 42 (by omega) (by omega)), if_neg (show ¬ c = 47 from e 47 (by omega) (by omega)), if_neg (show ¬ c = 61 from e 61 (by omega) (by omega)), if_neg (show ¬ c = 60 from e 60 (by omega) (by omega)), if_neg (show ¬ c = 62 from e 62 (by omega) (by omega)), if_neg (show ¬ c = 35 from e 35 (by omega) (by omega))]
    refine c_reg ?_ -- region 5 scan.go:141
    refine wl (ro_move rfl) ?_
    refine wl (ro_move rfl) ?_
    refine wl (ro_indexS rfl rfl st_9 (rfl) (hc)) ?_
    refine wl_nil (x_then (hK6 _ _ ?_))
    clear hK6 K6
    refine c_block ?_
    refine c_seq (fun K163 hK163 => ?_)
    refine c_seq (fun K164 hK164 => ?_)
    refine c_reg ?_ -- region 7 scan.go:142
    refine wl (ro_cmp (r := false) rfl rfl (congrArg some ((beqc c.toNat 40).trans (decide_eq_false (by omega))))) ?_
    refine wl (ro_assign rfl) ?_
    refine wl_nil (x_then (hK164 _ _ ?_))
    clear hK164 K164
    refine wc_condF rfl ?_
    refine c_seq (fun K165 hK165 => ?_)
    refine c_reg ?_ -- region 8 scan.go:142
    refine wl (ro_cmp (r := false) rfl rfl (congrArg some ((beqc c.toNat 41).trans (decide_eq_false (by omega))))) ?_
    refine wl (ro_assign rfl) ?_
    refine wl_nil (x_then (hK165 _ _ ?_))
    clear hK165 K165
    refine wc_condF rfl ?_
    refine c_seq (fun K166 hK166 => ?_)
    refine c_reg ?_ -- region 9 scan.go:142
    refine wl (ro_cmp (r := false) rfl rfl (congrArg some ((beqc c.toNat 44).trans (decide_eq_false (by omega))))) ?_
    refine wl (ro_assign rfl) ?_
    refine wl_nil (x_then (hK166 _ _ ?_))
    clear hK166 K166
    refine wc_condF rfl ?_
    refine c_reg ?_ -- region 10 scan.go:142
    refine wl (ro_cmp (r := false) rfl rfl (congrArg some ((beqc c.toNat 58).trans (decide_eq_false (by omega))))) ?_
    refine wl (ro_assign rfl) ?_
    refine wl_nil (x_then (hK163 _ _ ?_))
    clear hK163 K163
    refine wc_condF rfl ?_
    refine c_seq (fun K167 hK167 => ?_)
    refine c_reg ?_ -- region 12 scan.go:144
    refine wl (ro_cmp (r := false) rfl rfl (congrArg some ((beqc c.toNat 43).trans (decide_eq_false (by omega))))) ?_
    refine wl (ro_assign rfl) ?_
    refine wl_nil (x_then (hK167 _ _ ?_))
    clear hK167 K167
    refine wc_condF rfl ?_
    refine c_seq (fun K168 hK168 => ?_)
    refine c_reg ?_ -- region 14 scan.go:146
    refine wl (ro_cmp (r := false) rfl rfl (congrArg some ((beqc c.toNat 45).trans (decide_eq_false (by omega))))) ?_
    refine wl (ro_assign rfl) ?_
    refine wl_nil (x_then (hK168 _ _ ?_))
    clear hK168 K168
    refine wc_condF rfl ?_
    refine c_seq (fun K169 hK169 => ?_)
    refine c_reg ?_ -- region 16 scan.go:148
    refine wl (ro_cmp (r := false) rfl rfl (congrArg some ((beqc c.toNat 42).trans (decide_eq_false (by omega))))) ?_
    refine wl (ro_assign rfl) ?_
    refine wl_nil (x_then (hK169 _ _ ?_))
    clear hK169 K169
    refine wc_condF rfl ?_
    refine c_seq (fun K170 hK170 => ?_)
    refine c_reg ?_ -- region 18 scan.go:150
    refine wl (ro_cmp (r := false) rfl rfl (congrArg some ((beqc c.toNat 47).trans (decide_eq_false (by omega))))) ?_
    refine wl (ro_assign rfl) ?_
    refine wl_nil (x_then (hK170 _ _ ?_))
    clear hK170 K170
    refine wc_condF rfl ?_
    refine c_seq (fun K171 hK171 => ?_)
    refine c_reg ?_ -- region 20 scan.go:152
    refine wl (ro_cmp (r := false) rfl rfl (congrArg some ((beqc c.toNat 61).trans (decide_eq_false (by omega))))) ?_
    refine wl (ro_assign rfl) ?_
    refine wl_nil (x_then (hK171 _ _ ?_))
    clear hK171 K171
    refine wc_condF rfl ?_
    refine c_seq (fun K172 hK172 => ?_)
    refine c_reg ?_ -- region 22 scan.go:154
    refine wl (ro_cmp (r := false) rfl rfl (congrArg some ((beqc c.toNat 60).trans (decide_eq_false (by omega))))) ?_
    refine wl (ro_assign rfl) ?_
    refine wl_nil (x_then (hK172 _ _ ?_))
    clear hK172 K172
    refine wc_condF rfl ?_
    refine c_seq (fun K173 hK173 => ?_)
    refine c_reg ?_ -- region 28 scan.go:161
    refine wl (ro_cmp (r := false) rfl rfl (congrArg some ((beqc c.toNat 62).trans (decide_eq_false (by omega))))) ?_
    refine wl (ro_assign rfl) ?_
    refine wl_nil (x_then (hK173 _ _ ?_))
    clear hK173 K173
    refine wc_condF rfl ?_
    refine c_seq (fun K174 hK174 => ?_)
    refine c_reg ?_ -- region 32 scan.go:166
    refine wl (ro_cmp (r := false) rfl rfl (congrArg some ((beqc c.toNat 35).trans (decide_eq_false (by omega))))) ?_
    refine wl (ro_assign rfl) ?_
    refine wl_nil (x_then (hK174 _ _ ?_))
    clear hK174 K174
    refine wc_condF rfl ?_
    refine c_reg ?_ -- region 6 scan.go:172
    refine wl (ro_fieldAddr (k := 0) rfl fo_189_0) ?_
    refine wl_put rfl rfl rfl sz_3 hT ((by simp)) ((show _ = tkc i (i + 1) ⟨1, 0, 0, zR⟩ from rfl)) (fun w48 hT F48 => ?_)
    replace hF := hF.thenDrew.thenO F48 (by first | exact .inr (by omega) | exact .inl rfl | exact .inl (by assumption))
    replace hR := F48.blkO hR (by omega)
    refine wl_nil (x_blk (x_then (hK5 _ _ ?_)))
    clear hK5 K5
    refine forget [(4, _), (5, _)] ⟨rfl, rfl, trivial⟩ (fun e => ?_)
    refine c_seq (fun K175 hK175 => ?_)
    refine c_reg ?_ -- region 36 scan.go:174
    refine wl (ro_loadAggB rfl ag_189 (hT) (rfl) (rfl)) ?_
    refine wl_puta rfl rfl ((tkc_cells _ _ _)) sz_189 (rfl) hR ((by simp)) (rfl) (fun w49 hR F49 => ?_)
    replace hF := hF.thenDrew.thenO F49 (by first | exact .inr (by omega) | exact .inl rfl | exact .inl (by assumption))
    replace hT := F49.blkO hT (by omega)
    refine wl_nil (x_then (hK175 _ _ ?_))
    clear hK175 K175
    refine c_ret ?_
    refine bq_ret (res1 Tryz.results154 (rv_c rfl ag_189 (hR) rfl)) ?_
    rw [hres]; exact ⟨rfl, hF⟩

abbrev sl (b n : Nat) : Value := .slice (some ⟨b, 0, none⟩) n n

/-- The former's blocks. -/
structure FB7 where
  f : Nat
  t : Nat
  a : Nat
  v : Nat
  o : Nat
  n : Nat
  u : Nat
/-- Their order. -/
structure FBo (B : FB7) : Prop where
  h1 : B.f ≠ B.t ∧ B.f ≠ B.a ∧ B.f ≠ B.v ∧ B.f ≠ B.o ∧ B.f ≠ B.n ∧ B.f ≠ B.u
  h2 : B.t ≠ B.a ∧ B.t ≠ B.v ∧ B.t ≠ B.o ∧ B.t ≠ B.n ∧ B.t ≠ B.u
  h3 : B.a ≠ B.v ∧ B.a ≠ B.o ∧ B.a ≠ B.n ∧ B.a ≠ B.u
  h4 : B.v ≠ B.o ∧ B.v ≠ B.n ∧ B.v ≠ B.u
  h5 : B.o ≠ B.n ∧ B.o ≠ B.u
  h6 : B.n ≠ B.u
theorem FBo.all {B : FB7} (h : FBo B) : B.f ≠ B.t ∧ B.f ≠ B.a ∧ B.f ≠ B.v ∧ B.f ≠ B.o ∧ B.f ≠ B.n ∧ B.f ≠ B.u ∧ B.t ≠ B.f ∧ B.t ≠ B.a ∧ B.t ≠ B.v ∧ B.t ≠ B.o ∧ B.t ≠ B.n ∧ B.t ≠ B.u ∧ B.a ≠ B.f ∧ B.a ≠ B.t ∧ B.a ≠ B.v ∧ B.a ≠ B.o ∧ B.a ≠ B.n ∧ B.a ≠ B.u ∧ B.v ≠ B.f ∧ B.v ≠ B.t ∧ B.v ≠ B.a ∧ B.v ≠ B.o ∧ B.v ≠ B.n ∧ B.v ≠ B.u ∧ B.o ≠ B.f ∧ B.o ≠ B.t ∧ B.o ≠ B.a ∧ B.o ≠ B.v ∧ B.o ≠ B.n ∧ B.o ≠ B.u ∧ B.n ≠ B.f ∧ B.n ≠ B.t ∧ B.n ≠ B.a ∧ B.n ≠ B.v ∧ B.n ≠ B.o ∧ B.n ≠ B.u ∧ B.u ≠ B.f ∧ B.u ≠ B.t ∧ B.u ≠ B.a ∧ B.u ≠ B.v ∧ B.u ≠ B.o ∧ B.u ≠ B.n := ⟨h.h1.1, h.h1.2.1, h.h1.2.2.1, h.h1.2.2.2.1, h.h1.2.2.2.2.1, h.h1.2.2.2.2.2, h.h1.1.symm, h.h2.1, h.h2.2.1, h.h2.2.2.1, h.h2.2.2.2.1, h.h2.2.2.2.2, h.h1.2.1.symm, h.h2.1.symm, h.h3.1, h.h3.2.1, h.h3.2.2.1, h.h3.2.2.2, h.h1.2.2.1.symm, h.h2.2.1.symm, h.h3.1.symm, h.h4.1, h.h4.2.1, h.h4.2.2, h.h1.2.2.2.1.symm, h.h2.2.2.1.symm, h.h3.2.1.symm, h.h4.1.symm, h.h5.1, h.h5.2, h.h1.2.2.2.2.1.symm, h.h2.2.2.2.1.symm, h.h3.2.2.1.symm, h.h4.2.1.symm, h.h5.1.symm, h.h6, h.h1.2.2.2.2.2.symm, h.h2.2.2.2.2.symm, h.h3.2.2.2.symm, h.h4.2.2.symm, h.h5.2.symm, h.h6.symm⟩
abbrev fml (B : FB7) (nt k : Nat) (pos : Int) (nn nv no : Nat) (hv dn : Bool) (er bd wi : Int) : List Value := [sl B.t 41, i64c nt, i64c k, icv pos, sl B.a 24, i64c nn, sl B.v 41, i64c nv, sl B.o 41, i64c no, .bool hv, .bool dn, icv er, icv bd, sl B.n 24, sl B.u 288, icv wi]

/-- Tokens in cells. -/
def TkV (ft : Nat → Value) (T : List Tk) : Prop := ∀ (k : Nat) (t : Tk), T[k]? = some t → ∃ a e : Nat, a ≤ 40 ∧ e ≤ 40 ∧ ∀ (j : Nat) (v : Value), (tkc a e t)[j]? = some v → ft (k * 9 + j) = v
theorem TkV.nil (ft : Nat → Value) : TkV ft [] := fun k t h => by simp at h
theorem TkV.app {ft : Nat → Value} {T : List Tk} (h : TkV ft T) {a e : Nat} (ha : a ≤ 40) (he : e ≤ 40) (t : Tk) : TkV (pts ft (T.length * 9) (tkc a e t)) (T ++ [t]) := by
  intro k q hk
  by_cases hkl : k < T.length
  · rw [List.getElem?_append_left hkl] at hk
    obtain ⟨a', e', h1, h2, h3⟩ := h k q hk
    refine ⟨a', e', h1, h2, fun j v hj => ?_⟩
    have hj9 := (List.getElem?_eq_some_iff.1 hj).1
    simp only [tkc, List.length_cons, List.length_nil] at hj9
    rw [pts_out (by omega)]
    exact h3 j v hj
  · rw [List.getElem?_append_right (by omega)] at hk
    have hk0 : k = T.length := by
      have := (List.getElem?_eq_some_iff.1 hk).1
      simp at this
      omega
    subst hk0
    simp at hk
    subst hk
    exact ⟨a, e, ha, he, fun j v hj => pts_in hj⟩

theorem tkw_drop {s : List UInt8} {i : Nat} {c : UInt8} (hc : s[i]? = some c) : s.drop i = c :: s.drop (i + 1) := by
  have hl := (List.getElem?_eq_some_iff.1 hc).1
  rw [List.drop_eq_getElem_cons hl]
  congr 1
  exact (List.getElem?_eq_some_iff.1 hc).2

theorem drop_tok {s : List UInt8} {i : Nat} {c : UInt8} (hc : s[i]? = some c) (h32 : c ≠ 32) : toks (s.drop i) = (tkw (s.drop i)).1 :: toks (s.drop (i + (tkw (s.drop i)).2)) := by
  have e := tkw_drop hc
  have := toks_cons (c := c) (u := s.drop (i + 1)) h32
  rw [← e] at this
  rw [this, List.drop_drop]
theorem tkw_le {s : List UInt8} {i : Nat} (hi : i < s.length) : 1 ≤ (tkw (s.drop i)).2 := tkw_pos _

theorem sgn_wid2 {c : UInt8} {t : List UInt8} : (sgnT c (t.headD 0)).2 ≤ (c :: t).length := by
  cases t with
  | nil =>
    have : (sgnT c 0).2 = 1 := by
      unfold sgnT
      repeat' split
      all_goals first | rfl | (rename_i h; exact absurd h (by decide))
    show (sgnT c 0).2 ≤ 1
    omega
  | cons x t =>
    have := sgn_wid c x
    simp only [List.headD_cons, List.length_cons]
    omega
theorem tkw_wid {u : List UInt8} (h : u ≠ []) : (tkw u).2 ≤ u.length := by
  unfold tkw
  cases u with
  | nil => exact absurd rfl h
  | cons c t =>
    simp only
    split
    · exact tw_le _ _
    · split
      · exact tw_le _ _
      · exact sgn_wid2

set_option maxHeartbeats 4000000 in
theorem scan125 {w : World} {B : FB7} {s : List UInt8} {nt k nn nv no : Nat} {pos er bd wi : Int} {hv dn : Bool} {ft : Nat → Value} (ho : FBo B) (hs : s.length ≤ 40) (hB : Blk w.heap B.f (fml B nt k pos nn nv no hv dn er bd wi) 83) (hK : FB w.heap B.t 369 ft 189) :
    Ret Tryz.prog 125 [ptr B.f, S s] w (fun v w' => v = .tuple #[] ∧ Blk w'.heap B.f (fml B ((toks s).length + 1) k pos nn nv no hv dn er bd wi) 83 ∧ (∃ ft', FB w'.heap B.t 369 ft' 189 ∧ TkV ft' (toks s ++ [tkEnd])) ∧ Fram (fun b => b = B.f ∨ b = B.t) w w') := by
  have hF : Fram (fun b => b = B.f ∨ b = B.t) w w := Fram.refl _ _
  have hm1 : (fun b => b = B.f ∨ b = B.t) B.f := .inl rfl
  have hm2 : (fun b => b = B.f ∨ b = B.t) B.t := .inr rfl
  have bt := hK.lt
  have bf := hB.lt
  refine ret_of Tryz.func125 rfl Tryz.ntmps125 rfl ?_
  refine c_seq (fun K1 hK1 => ?_)
  refine c_reg ?_ -- region 0 scan.go:33
  refine wl (ro_move rfl) ?_
  refine wl (ro_nilCheck rfl) ?_
  refine wl (ro_fieldAddr (k := 1) rfl fo_83_1) ?_
  refine wl_put rfl rfl rfl sz_3 hB ((by simp)) ((show _ = fml B 0 k pos nn nv no hv dn er bd wi from rfl)) (fun w1 hB F1 => ?_)
  replace hF := hF.thenDrew.thenO F1 (by first | exact .inr (by omega) | exact .inl rfl | exact .inl (by assumption))
  replace hK := F1.blkO hK (by first | (simp only [ne_eq, ho.all, not_false_eq_true]; done) | omega)
  refine wl_nil (x_then (hK1 _ _ ?_))
  clear hK1 K1
  refine forget [(0, _), (1, _)] ⟨rfl, rfl, trivial⟩ (fun e => ?_)
  refine c_seq (fun K2 hK2 => ?_)
  refine c_reg ?_ -- region 1 scan.go:34
  refine wl (ro_assign rfl) ?_
  refine wl_nil (x_then (hK2 _ _ ?_))
  clear hK2 K2
  refine forget [(0, _), (1, _), (4, _)] ⟨rfl, rfl, rfl, trivial⟩ (fun e => ?_)
  refine c_seq (fun K3 hK3 => ?_)
  refine c_block ?_
  -- loop@r2: live slots [0, 1, 4]
  refine c_loopG (fun m a' w' => ∃ (i : Nat) (A : List Tk) (ft : Nat → Value), m = s.length - i ∧ i ≤ s.length ∧ A.length ≤ i ∧ toks s = A ++ toks (s.drop i) ∧ TkV ft A ∧ Blk w'.heap B.f (fml B A.length k pos nn nv no hv dn er bd wi) 83 ∧ FB w'.heap B.t 369 ft 189 ∧ Fram (fun b => b = B.f ∨ b = B.t) w w' ∧ ∃ e, a' = Fr 77 (upds e [(0, ptr B.f), (1, S s), (4, i64c i)]) []) s.length ⟨0, [], ft, rfl, by omega, by simp, by simp, TkV.nil _, hB, hK, hF, kp _ ⟨rfl, rfl, rfl, trivial⟩⟩ ?_
  clear hB hK hF
  rintro m a' w1 ⟨i, A, ft, rfl, hi, hAi, htk, hV, hB, hK, hF, e, rfl⟩
  have hsz := hF.size
  refine c_seq (fun K4 hK4 => ?_)
  refine c_seq (fun K5 hK5 => ?_)
  refine c_reg ?_ -- region 2 scan.go:35
  refine wl (ro_move rfl) ?_
  refine wl (ro_move rfl) ?_
  refine wl (ro_lenS rfl st_9) ?_
  refine wl (ro_cmp (r := decide (i < s.length)) rfl rfl (congrArg some (decide_eq_decide.2 (by omega)))) ?_
  refine wl_nil (x_then (hK5 _ _ ?_))
  clear hK5 K5
  refine wc_cond rfl (fun hc12 => ?_) (fun hc12 => ?_)
  · try simp only [decide_eq_true_eq, decide_eq_false_iff_not, Bool.not_eq_true', Bool.not_eq_false', Bool.not_eq_eq_eq_not, Bool.not_true, Bool.not_false, beq_iff_eq, bne_iff_ne, ne_eq, beq_eq_false_iff_ne, bne_eq_false_iff_eq, gt_iff_lt, ge_iff_le, Int.not_lt, Int.not_le] at hc12
    obtain ⟨c, hc⟩ : ∃ c, s[i]? = some c := ⟨_, List.getElem?_eq_getElem hc12⟩
    have hdr := tkw_drop hc
    refine c_skip (x_then (hK4 _ _ ?_))
    clear hK4 K4
    refine c_block ?_
    refine c_seq (fun K6 hK6 => ?_)
    refine c_seq (fun K7 hK7 => ?_)
    refine c_reg ?_ -- region 3 scan.go:36
    refine wl (ro_move rfl) ?_
    refine wl (ro_move rfl) ?_
    refine wl (ro_indexS rfl rfl st_9 (rfl) (hc)) ?_
    refine wl (ro_cmp (r := decide (c.toNat = 32)) rfl rfl (congrArg some (beqc c.toNat 32))) ?_
    refine wl_nil (x_then (hK7 _ _ ?_))
    clear hK7 K7
    refine wc_cond rfl (fun hc16 => ?_) (fun hc16 => ?_)
    · try simp only [decide_eq_true_eq, decide_eq_false_iff_not, Bool.not_eq_true', Bool.not_eq_false', Bool.not_eq_eq_eq_not, Bool.not_true, Bool.not_false, beq_iff_eq, bne_iff_ne, ne_eq, beq_eq_false_iff_ne, bne_eq_false_iff_eq, gt_iff_lt, ge_iff_le, Int.not_lt, Int.not_le] at hc16
      have h32 : c = 32 := (u8_eq (n := 32) (by omega)).2 hc16
      refine c_seq (fun K8 hK8 => ?_)
      refine c_reg ?_ -- region 4 scan.go:37
      refine wl (ro_move rfl) ?_
      refine wl (ro_arith (r := ((i + 1 : Nat) : Int)) rfl rfl rfl (Go.IntWalk.i64_in _ (by omega))) ?_
      refine wl (ro_assign rfl) ?_
      refine wl_nil (x_then (hK8 _ _ ?_))
      clear hK8 K8
      refine c_exit (x_thenX (x_blkX (x_then ?_)))
      exact ⟨s.length - (i + 1), by omega, i + 1, A, ft, rfl, by omega, by omega, by rw [htk, hdr, h32, toks_blank], hV, hB, hK, hF, kp _ ⟨rfl, rfl, rfl, trivial⟩⟩
    · try simp only [decide_eq_true_eq, decide_eq_false_iff_not, Bool.not_eq_true', Bool.not_eq_false', Bool.not_eq_eq_eq_not, Bool.not_true, Bool.not_false, beq_iff_eq, bne_iff_ne, ne_eq, beq_eq_false_iff_ne, bne_eq_false_iff_eq, gt_iff_lt, ge_iff_le, Int.not_lt, Int.not_le] at hc16
      have h32 : c ≠ 32 := fun h => hc16 (by rw [h]; rfl)
      have htd := drop_tok hc h32
      have hw1 := tkw_le hc12
      have hw2 := tkw_wid (u := s.drop i) (by rw [hdr]; simp)
      rw [List.length_drop] at hw2
      refine c_skip (x_then (hK6 _ _ ?_))
      clear hK6 K6
      refine forget [(0, _), (1, _), (4, _)] ⟨rfl, rfl, rfl, trivial⟩ (fun e => ?_)
      refine c_seq (fun K9 hK9 => ?_)
      refine c_reg ?_ -- region 5 scan.go:40
      refine wl (ro_build rfl bld_189) ?_
      refine wl_new (ze_189) (fun tb w2 hbtb hT F2 => ?_)
      have hbstb := Nat.le_trans hF.size hbtb
      have hneB.ftb : B.f < tb := Nat.lt_of_lt_of_le hB.lt hbtb
      have hneB.ttb : B.t < tb := Nat.lt_of_lt_of_le hK.lt hbtb
      replace hF := hF.thenDrew.thenN F2
      replace hB := F2.blkN hB
      replace hK := F2.blkN hK
      refine wl_puta rfl rfl ((tkc_cells 0 0 tkEnd)) sz_189 (rfl) hT ((by simp)) (rfl) (fun w3 hT F3 => ?_)
      replace hF := hF.thenDrew.thenO F3 (by first | exact .inr (by omega) | exact .inl rfl | exact .inl (by assumption))
      replace hB := F3.blkO hB (by first | (simp only [ne_eq, ho.all, not_false_eq_true]; done) | omega)
      replace hK := F3.blkO hK (by first | (simp only [ne_eq, ho.all, not_false_eq_true]; done) | omega)
      refine wl_nil (x_then (hK9 _ _ ?_))
      clear hK9 K9
      refine c_mid (fun a' w' => Blk w'.heap B.f (fml B A.length k pos nn nv no hv dn er bd wi) 83 ∧ FB w'.heap B.t 369 ft 189 ∧ Fram (fun b => b = B.f ∨ b = B.t) w w' ∧ ∃ tb, w1.heap.size ≤ tb ∧ Blk w'.heap tb (tkc i (i + (tkw (s.drop i)).2) (tkw (s.drop i)).1) 189 ∧ ∃ e, a' = Fr 77 (upds e [(0, ptr B.f), (1, S s), (4, i64c i), (5, ptr tb)]) []) ?_ ?_
      · skip
        refine c_seq (fun K10 hK10 => ?_)
        refine c_reg ?_ -- region 6 scan.go:41
        refine wl (ro_move rfl) ?_
        refine wl (ro_move rfl) ?_
        refine wl (ro_indexS rfl rfl st_9 (rfl) (hc)) ?_
        refine wl_call rfl en_150 (digit150) ?_
        rintro _ _ ⟨rfl, rfl⟩
        refine wl_nil (x_then (hK10 _ _ ?_))
        clear hK10 K10
        refine wc_cond rfl (fun hc23 => ?_) (fun hc23 => ?_)
        · try simp only [decide_eq_true_eq, decide_eq_false_iff_not, Bool.not_eq_true', Bool.not_eq_false', Bool.not_eq_eq_eq_not, Bool.not_true, Bool.not_false, beq_iff_eq, bne_iff_ne, ne_eq, beq_eq_false_iff_ne, bne_eq_false_iff_eq, gt_iff_lt, ge_iff_le, Int.not_lt, Int.not_le] at hc23
          have hd : dg c = true := hc23
          have htw : tkw (s.drop i) = (numT ((s.drop i).takeWhile dg), ((s.drop i).takeWhile dg).length) := by rw [hdr]; simp only [tkw, hd, if_true]
          refine c_reg ?_ -- region 7 scan.go:42
          refine wl (ro_move rfl) ?_
          refine wl (ro_move rfl) ?_
          refine wl_call rfl en_151 (number151 (i := i) (by omega) hs) ?_
          rintro _ w4 ⟨rfl, F4⟩
          replace hF := hF.thenDrew.thenN F4
          replace hB := F4.blkN hB
          replace hK := F4.blkN hK
          replace hT := F4.blkN hT
          refine wl_puta rfl rfl ((tkc_cells _ _ _)) sz_189 (rfl) hT ((by simp)) (rfl) (fun w5 hT F5 => ?_)
          replace hF := hF.thenDrew.thenO F5 (by first | exact .inr (by omega) | exact .inl rfl | exact .inl (by assumption))
          replace hB := F5.blkO hB (by first | (simp only [ne_eq, ho.all, not_false_eq_true]; done) | omega)
          replace hK := F5.blkO hK (by first | (simp only [ne_eq, ho.all, not_false_eq_true]; done) | omega)
          refine wl_nil (x_then ?_)
          exact ⟨hB, hK, hF, tb, by omega, by rw [htw]; exact hT, kp _ ⟨rfl, rfl, rfl, rfl, trivial⟩⟩
        · try simp only [decide_eq_true_eq, decide_eq_false_iff_not, Bool.not_eq_true', Bool.not_eq_false', Bool.not_eq_eq_eq_not, Bool.not_true, Bool.not_false, beq_iff_eq, bne_iff_ne, ne_eq, beq_eq_false_iff_ne, bne_eq_false_iff_eq, gt_iff_lt, ge_iff_le, Int.not_lt, Int.not_le] at hc23
          have hd : dg c = false := hc23
          refine c_seq (fun K11 hK11 => ?_)
          refine c_reg ?_ -- region 8 scan.go:43
          refine wl (ro_move rfl) ?_
          refine wl (ro_move rfl) ?_
          refine wl (ro_indexS rfl rfl st_9 (rfl) (hc)) ?_
          refine wl_call rfl en_152 (wordy152) ?_
          rintro _ _ ⟨rfl, rfl⟩
          refine wl_nil (x_then (hK11 _ _ ?_))
          clear hK11 K11
          refine wc_cond rfl (fun hc30 => ?_) (fun hc30 => ?_)
          · try simp only [decide_eq_true_eq, decide_eq_false_iff_not, Bool.not_eq_true', Bool.not_eq_false', Bool.not_eq_eq_eq_not, Bool.not_true, Bool.not_false, beq_iff_eq, bne_iff_ne, ne_eq, beq_eq_false_iff_ne, bne_eq_false_iff_eq, gt_iff_lt, ge_iff_le, Int.not_lt, Int.not_le] at hc30
            have hd2 : wy c = true := hc30
            have htw : tkw (s.drop i) = (wordT ((s.drop i).takeWhile wy), ((s.drop i).takeWhile wy).length) := by rw [hdr]; simp only [tkw, hd, hd2, if_true, Bool.false_eq_true, if_false]
            refine c_reg ?_ -- region 9 scan.go:44
            refine wl (ro_move rfl) ?_
            refine wl (ro_move rfl) ?_
            refine wl_call rfl en_153 (word153 (i := i) (by omega) hs) ?_
            rintro _ w6 ⟨rfl, F6⟩
            replace hF := hF.thenDrew.thenN F6
            replace hB := F6.blkN hB
            replace hK := F6.blkN hK
            replace hT := F6.blkN hT
            refine wl_puta rfl rfl ((tkc_cells _ _ _)) sz_189 (rfl) hT ((by simp)) (rfl) (fun w7 hT F7 => ?_)
            replace hF := hF.thenDrew.thenO F7 (by first | exact .inr (by omega) | exact .inl rfl | exact .inl (by assumption))
            replace hB := F7.blkO hB (by first | (simp only [ne_eq, ho.all, not_false_eq_true]; done) | omega)
            replace hK := F7.blkO hK (by first | (simp only [ne_eq, ho.all, not_false_eq_true]; done) | omega)
            refine wl_nil (x_then ?_)
            exact ⟨hB, hK, hF, tb, by omega, by rw [htw]; exact hT, kp _ ⟨rfl, rfl, rfl, rfl, trivial⟩⟩
          · try simp only [decide_eq_true_eq, decide_eq_false_iff_not, Bool.not_eq_true', Bool.not_eq_false', Bool.not_eq_eq_eq_not, Bool.not_true, Bool.not_false, beq_iff_eq, bne_iff_ne, ne_eq, beq_eq_false_iff_ne, bne_eq_false_iff_eq, gt_iff_lt, ge_iff_le, Int.not_lt, Int.not_le] at hc30
            have hd2 : wy c = false := hc30
            have htw : tkw (s.drop i) = sgnT c ((s.drop (i + 1)).headD 0) := by rw [hdr]; simp only [tkw, hd, hd2, Bool.false_eq_true, if_false]
            refine c_reg ?_ -- region 10 scan.go:46
            refine wl (ro_move rfl) ?_
            refine wl (ro_move rfl) ?_
            refine wl_call rfl en_154 (sign154 (i := i) hc hs) ?_
            rintro _ w8 ⟨rfl, F8⟩
            replace hF := hF.thenDrew.thenN F8
            replace hB := F8.blkN hB
            replace hK := F8.blkN hK
            replace hT := F8.blkN hT
            refine wl_puta rfl rfl ((tkc_cells _ _ _)) sz_189 (rfl) hT ((by simp)) (rfl) (fun w9 hT F9 => ?_)
            replace hF := hF.thenDrew.thenO F9 (by first | exact .inr (by omega) | exact .inl rfl | exact .inl (by assumption))
            replace hB := F9.blkO hB (by first | (simp only [ne_eq, ho.all, not_false_eq_true]; done) | omega)
            replace hK := F9.blkO hK (by first | (simp only [ne_eq, ho.all, not_false_eq_true]; done) | omega)
            refine wl_nil (x_then ?_)
            exact ⟨hB, hK, hF, tb, by omega, by rw [htw]; exact hT, kp _ ⟨rfl, rfl, rfl, rfl, trivial⟩⟩
      clear hB hK hF
      rintro a' w5 ⟨hB, hK, hF, tb, htb, hT, e, rfl⟩
      have bt1 := hK.lt
      refine c_seq (fun K12 hK12 => ?_)
      refine c_piL 10 [(0, false), (1, false), (2, false), (3, false), (4, false), (5, false), (6, false), (7, false), (8, false), (9, false)] (SameH _) mixed (by kernel_rfl) rfl (by kernel_rfl) (po_then (po_blk (po_then (po_blk (po_then (po_bp)))))) (sameH_now _ _) ?_ -- region 11 scan.go:48
      refine ql_ro rfl (fun w hS => ro_move rfl) ?_
      refine ql_ro rfl (fun w hS => ro_nilCheck rfl) ?_
      refine ql_ro rfl (fun w hS => ro_fieldAddr (k := 0) rfl fo_83_0) ?_
      refine ql_ro rfl (fun w hS => ro_loadB rfl sc_77 (Blk.of_heap hB hS) (rfl)) ?_
      refine ql_ro rfl (fun w hS => ro_move rfl) ?_
      refine ql_ro rfl (fun w hS => ro_nilCheck rfl) ?_
      refine ql_ro rfl (fun w hS => ro_fieldAddr (k := 1) rfl fo_83_1) ?_
      refine ql_ro rfl (fun w hS => ro_loadB rfl sc_3 (Blk.of_heap hB hS) (rfl)) ?_
      refine ql_ro rfl (fun w hS => ro_loadAggB rfl ag_189 (Blk.of_heap hT hS) (rfl) (rfl)) ?_
      refine ql_ro rfl (fun w hS => ro_indexAddr (et := 189) (k := 9) rfl rfl se_77 (rfl) ((by omega : A.length < 41))) ?_
      refine ql_puta rfl rfl rfl ((tkc_cells _ _ _)) sz_189 (rfl) hK ((by rw [cel_len]; show _ + 9 ≤ _; omega)) ((cel_puts (A.length * 9) (by omega) rfl (by show _ + 9 ≤ _; omega))) (fun w10 hK F10 => ?_)
      replace hF := hF.thenDrew.thenO F10 (by first | exact .inr (by omega) | exact .inl rfl | exact .inl (by assumption))
      replace hB := F10.blkO hB (by first | (simp only [ne_eq, ho.all, not_false_eq_true]; done) | omega)
      replace hT := F10.blkO hT (by first | (simp only [ne_eq, ho.all, not_false_eq_true]; done) | omega)
      refine x_then (hK12 _ _ ?_)
      clear hK12 K12
      refine forget [(0, _), (1, _), (5, _)] ⟨rfl, rfl, rfl, trivial⟩ (fun e => ?_)
      refine c_seq (fun K13 hK13 => ?_)
      refine c_reg ?_ -- region 12 scan.go:49
      refine wl (ro_move rfl) ?_
      refine wl (ro_nilCheck rfl) ?_
      refine wl (ro_fieldAddr (k := 1) rfl fo_83_1) ?_
      refine wl (ro_loadB rfl sc_3 (hB) (rfl)) ?_
      refine wl (ro_arith (r := ((A.length + 1 : Nat) : Int)) rfl rfl rfl (Go.IntWalk.i64_in _ (by omega))) ?_
      refine wl (ro_nilCheck rfl) ?_
      refine wl (ro_fieldAddr (k := 1) rfl fo_83_1) ?_
      refine wl_put rfl rfl rfl sz_3 hB ((by simp)) ((show _ = fml B (A.length + 1) k pos nn nv no hv dn er bd wi from rfl)) (fun w11 hB F11 => ?_)
      replace hF := hF.thenDrew.thenO F11 (by first | exact .inr (by omega) | exact .inl rfl | exact .inl (by assumption))
      replace hK := F11.blkO hK (by first | (simp only [ne_eq, ho.all, not_false_eq_true]; done) | omega)
      replace hT := F11.blkO hT (by first | (simp only [ne_eq, ho.all, not_false_eq_true]; done) | omega)
      refine wl_nil (x_then (hK13 _ _ ?_))
      clear hK13 K13
      refine c_reg ?_ -- region 13 scan.go:50
      refine wl (ro_fieldAddr (k := 2) rfl fo_189_2) ?_
      refine wl (ro_loadB rfl sc_3 (hT) (rfl)) ?_
      refine wl (ro_assign rfl) ?_
      refine wl_nil (x_blk (x_then ?_))
      exact ⟨s.length - (i + (tkw (s.drop i)).2), by omega, i + (tkw (s.drop i)).2, A ++ [(tkw (s.drop i)).1], _, rfl, by omega, by rw [List.length_append]; show A.length + 1 ≤ _; omega, by rw [htk, htd]; simp, hV.app (by omega) (by omega) _, by rw [List.length_append]; exact hB, hK, hF, kp _ ⟨rfl, rfl, rfl, trivial⟩⟩
  · try simp only [decide_eq_true_eq, decide_eq_false_iff_not, Bool.not_eq_true', Bool.not_eq_false', Bool.not_eq_eq_eq_not, Bool.not_true, Bool.not_false, beq_iff_eq, bne_iff_ne, ne_eq, beq_eq_false_iff_ne, bne_eq_false_iff_eq, gt_iff_lt, ge_iff_le, Int.not_lt, Int.not_le] at hc12
    refine c_exit (x_thenX (x_thenX (x_blkX (x_then (hK3 _ _ ?_)))))
    clear hK4 K4 hK3 K3
    refine forget [(0, _), (1, _)] ⟨rfl, rfl, trivial⟩ (fun e => ?_)
    refine c_seq (fun K14 hK14 => ?_)
    have hAl : toks s = A := by rw [htk, List.drop_eq_nil_of_le (by omega), toks_nil, List.append_nil]
    refine c_piL 14 [(0, false), (1, false), (2, false), (3, false), (4, false), (5, false), (6, false), (7, false), (8, false), (9, false), (10, false), (11, false), (12, false), (13, false)] (SameH _) mixed (by kernel_rfl) rfl (by kernel_rfl) (po_then (po_bp)) (sameH_now _ _) ?_ -- region 14 scan.go:52
    refine ql_ro rfl (fun w hS => ro_move rfl) ?_
    refine ql_ro rfl (fun w hS => ro_nilCheck rfl) ?_
    refine ql_ro rfl (fun w hS => ro_fieldAddr (k := 0) rfl fo_83_0) ?_
    refine ql_ro rfl (fun w hS => ro_loadB rfl sc_77 (Blk.of_heap hB hS) (rfl)) ?_
    refine ql_ro rfl (fun w hS => ro_move rfl) ?_
    refine ql_ro rfl (fun w hS => ro_nilCheck rfl) ?_
    refine ql_ro rfl (fun w hS => ro_fieldAddr (k := 1) rfl fo_83_1) ?_
    refine ql_ro rfl (fun w hS => ro_loadB rfl sc_3 (Blk.of_heap hB hS) (rfl)) ?_
    refine ql_ro rfl (fun w hS => ro_move rfl) ?_
    refine ql_ro rfl (fun w hS => ro_lenS rfl st_9) ?_
    refine ql_ro rfl (fun w hS => ro_move rfl) ?_
    refine ql_ro rfl (fun w hS => ro_lenS rfl st_9) ?_
    refine ql_ro rfl (fun w hS => ro_build rfl bld_189_0_1_2) ?_
    refine ql_ro rfl (fun w hS => ro_indexAddr (et := 189) (k := 9) rfl rfl se_77 (rfl) ((by omega : A.length < 41))) ?_
    refine ql_puta rfl rfl rfl ((tkc_cells s.length s.length tkEnd)) sz_189 (rfl) hK ((by rw [cel_len]; show _ + 9 ≤ _; omega)) ((cel_puts (A.length * 9) (by omega) rfl (by show _ + 9 ≤ _; omega))) (fun w12 hK F12 => ?_)
    replace hF := hF.thenDrew.thenO F12 (by first | exact .inr (by omega) | exact .inl rfl | exact .inl (by assumption))
    replace hB := F12.blkO hB (by first | (simp only [ne_eq, ho.all, not_false_eq_true]; done) | omega)
    refine x_then (hK14 _ _ ?_)
    clear hK14 K14
    refine c_reg ?_ -- region 15 scan.go:53
    refine wl (ro_move rfl) ?_
    refine wl (ro_nilCheck rfl) ?_
    refine wl (ro_fieldAddr (k := 1) rfl fo_83_1) ?_
    refine wl (ro_loadB rfl sc_3 (hB) (rfl)) ?_
    refine wl (ro_arith (r := ((A.length + 1 : Nat) : Int)) rfl rfl rfl (Go.IntWalk.i64_in _ (by omega))) ?_
    refine wl (ro_nilCheck rfl) ?_
    refine wl (ro_fieldAddr (k := 1) rfl fo_83_1) ?_
    refine wl_put rfl rfl rfl sz_3 hB ((by simp)) ((show _ = fml B (A.length + 1) k pos nn nv no hv dn er bd wi from rfl)) (fun w13 hB F13 => ?_)
    replace hF := hF.thenDrew.thenO F13 (by first | exact .inr (by omega) | exact .inl rfl | exact .inl (by assumption))
    replace hK := F13.blkO hK (by first | (simp only [ne_eq, ho.all, not_false_eq_true]; done) | omega)
    refine wl_nil ?_
    refine bp_end Tryz.results125 rfl ?_
    exact ⟨rfl, by rw [hAl]; exact hB, ⟨_, hK, by rw [hAl]; exact hV.app (by omega) (by omega) tkEnd⟩, hF⟩

end Go.Proofs.Qxb6500570aGreat
