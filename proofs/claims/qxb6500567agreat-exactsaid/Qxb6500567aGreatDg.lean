import Derived.Test.Qxb6500567aGreatDf
import Derived.Test.Qxb6500567aGreatFg
/- The real simplifier: child and open. -/
namespace Go.Proofs.Qxb6500567aGreat
set_option linter.unusedVariables false
set_option linter.unusedSimpArgs false

/-- The shapes, told. -/
def SHV (fh : Nat → Value) (T : List RE) : Prop := ∀ (n : Nat) (r : RE), T[n]? = some r → WF r → fh n = i64c (shp r)

theorem tkok_b {m : Nat} {r : RE} (h : WF r) {k : Nat} (hk : k ≤ 4) : TkOK m ⟨k, r, 0, -1⟩ := ⟨h, hk, by simp, by simp, by simp only; omega⟩

theorem child103 {w : World} {B : SB} {T : List RE} {σ : BS} {fh : Nat → Value} {n : Nat} {r : RE} (D : D4 B) (V : BV w.heap B T σ) (hH : FB w.heap B.hb 24 fh 3) (hnh : ¬ bset B B.hb) (hsh : SHV fh T) (h24 : T.length ≤ 24) (hn : T[n]? = some r) (hw : WF r) :
    Ret Tryz.prog 103 [ptr B.sb, i64c n] w (fun v w' => v = .tuple #[] ∧ BV w'.heap B T (childB r σ) ∧ Fram (bset B) w w') := by
  have hF : Fram (bset B) w w := Fram.refl _ _
  obtain ⟨fo, fw, fr, V⟩ := V
  have hB := V.s
  have hO := V.o
  have hK := V.k
  have hR := V.r
  have hn24 : n < 24 := by have := (List.getElem?_eq_some_iff.1 hn).1; omega
  have hs := hsh n r hn hw
  unfold childB
  refine ret_of Tryz.func103 rfl Tryz.ntmps103 rfl ?_
  refine c_seq (fun K1 hK1 => ?_)
  refine c_seq (fun K2 hK2 => ?_)
  refine c_reg ?_ -- region 0 build.go:97
  refine wl (ro_move rfl) ?_
  refine wl (ro_nilCheck rfl) ?_
  refine wl (ro_fieldAddr (k := 1) rfl fo_101_1) ?_
  refine wl (ro_loadB rfl sc_97 (hB) (rfl)) ?_
  refine wl (ro_move rfl) ?_
  refine wl (ro_indexAddr (et := 3) (k := 1) rfl rfl se_97 (rfl) (hn24)) ?_
  refine wl (ro_loadB rfl sc_3 (hH) (cel_at (by omega) (by omega) hs)) ?_
  refine wl (ro_cmp (r := decide (shp r = 2)) rfl rfl (congrArg some (beqc (shp r) 2))) ?_
  refine wl_nil (x_then (hK2 _ _ ?_))
  clear hK2 K2
  refine wc_cond rfl (fun hc13 => ?_) (fun hc13 => ?_)
  · try simp only [decide_eq_true_eq, decide_eq_false_iff_not, Bool.not_eq_true', Bool.not_eq_false', Bool.not_eq_eq_eq_not, Bool.not_true, Bool.not_false, beq_iff_eq, bne_iff_ne, ne_eq, beq_eq_false_iff_ne, bne_eq_false_iff_eq, gt_iff_lt, ge_iff_le, Int.not_lt, Int.not_le] at hc13
    refine c_seq (fun K3 hK3 => ?_)
    refine c_reg ?_ -- region 1 build.go:98
    refine wl (ro_move rfl) ?_
    refine wl (ro_move rfl) ?_
    refine wl_call rfl en_102 (push102 (t := tkb r) D (V.re hB hO hK hR) hn (tkok_b hw (by omega))) ?_
    rintro _ w3 ⟨rfl, V3, F3⟩
    refine wl_nil (x_then (hK3 _ _ ?_))
    clear hK3 K3
    refine c_ret (x_thenR ?_)
    refine bp_ret Tryz.results103 rfl ?_
    rw [if_pos hc13]; exact ⟨rfl, V3, hF.transD F3⟩
  · try simp only [decide_eq_true_eq, decide_eq_false_iff_not, Bool.not_eq_true', Bool.not_eq_false', Bool.not_eq_eq_eq_not, Bool.not_true, Bool.not_false, beq_iff_eq, bne_iff_ne, ne_eq, beq_eq_false_iff_ne, bne_eq_false_iff_eq, gt_iff_lt, ge_iff_le, Int.not_lt, Int.not_le] at hc13
    refine c_skip (x_then (hK1 _ _ ?_))
    clear hK1 K1
    refine forget [(0, _), (1, _)] ⟨rfl, rfl, trivial⟩ (fun e => ?_)
    refine c_seq (fun K4 hK4 => ?_)
    refine c_reg ?_ -- region 2 build.go:101
    refine wl (ro_assign rfl) ?_
    refine wl_nil (x_then (hK4 _ _ ?_))
    clear hK4 K4
    refine c_seq (fun K5 hK5 => ?_)
    refine c_seq (fun K6 hK6 => ?_)
    refine c_reg ?_ -- region 3 build.go:102
    refine wl (ro_move rfl) ?_
    refine wl (ro_nilCheck rfl) ?_
    refine wl (ro_fieldAddr (k := 1) rfl fo_101_1) ?_
    refine wl (ro_loadB rfl sc_97 (hB) (rfl)) ?_
    refine wl (ro_move rfl) ?_
    refine wl (ro_indexAddr (et := 3) (k := 1) rfl rfl se_97 (rfl) (hn24)) ?_
    refine wl (ro_loadB rfl sc_3 (hH) (cel_at (by omega) (by omega) hs)) ?_
    refine wl (ro_cmp (r := decide (shp r = 1)) rfl rfl (congrArg some (beqc (shp r) 1))) ?_
    refine wl_nil (x_then (hK6 _ _ ?_))
    clear hK6 K6
    refine wc_cond rfl (fun hc24 => ?_) (fun hc24 => ?_)
    · try simp only [decide_eq_true_eq, decide_eq_false_iff_not, Bool.not_eq_true', Bool.not_eq_false', Bool.not_eq_eq_eq_not, Bool.not_true, Bool.not_false, beq_iff_eq, bne_iff_ne, ne_eq, beq_eq_false_iff_ne, bne_eq_false_iff_eq, gt_iff_lt, ge_iff_le, Int.not_lt, Int.not_le] at hc24
      refine c_reg ?_ -- region 4 build.go:103
      refine wl (ro_assign rfl) ?_
      refine wl_nil (x_then (hK5 _ _ ?_))
      clear hK5 K5
      refine forget [(0, _), (4, _)] ⟨rfl, rfl, trivial⟩ (fun e => ?_)
      refine c_seq (fun K7 hK7 => ?_)
      refine c_reg ?_ -- region 5 build.go:105
      refine wl (ro_move rfl) ?_
      refine wl (ro_move rfl) ?_
      refine wl_call rfl en_106 (node106 (k := 1) D (V.re hB hO hK hR) (fun _ ↦ okx_no)) ?_
      rintro _ w3 ⟨rfl, V3, F3⟩
      replace hF := hF.transD F3
      refine wl (ro_assign rfl) ?_
      refine wl_nil (x_then (hK7 _ _ ?_))
      clear hK7 K7
      refine c_reg ?_ -- region 6 build.go:106
      refine wl (ro_move rfl) ?_
      refine wl (ro_move rfl) ?_
      refine wl_call rfl en_107 (pushRoot107 D V3 (top_ge _).1 (top_ge _).2) ?_
      rintro _ w4 ⟨rfl, V4, F4⟩
      replace hF := hF.transD F4
      refine wl_nil ?_
      refine bp_end Tryz.results103 rfl ?_
      rw [if_neg hc13, if_pos hc24]; exact ⟨rfl, V4, hF⟩
    · try simp only [decide_eq_true_eq, decide_eq_false_iff_not, Bool.not_eq_true', Bool.not_eq_false', Bool.not_eq_eq_eq_not, Bool.not_true, Bool.not_false, beq_iff_eq, bne_iff_ne, ne_eq, beq_eq_false_iff_ne, bne_eq_false_iff_eq, gt_iff_lt, ge_iff_le, Int.not_lt, Int.not_le] at hc24
      refine c_skip (x_then (hK5 _ _ ?_))
      clear hK5 K5
      refine forget [(0, _), (4, _)] ⟨rfl, rfl, trivial⟩ (fun e => ?_)
      refine c_seq (fun K8 hK8 => ?_)
      refine c_reg ?_ -- region 5 build.go:105
      refine wl (ro_move rfl) ?_
      refine wl (ro_move rfl) ?_
      refine wl_call rfl en_106 (node106 (k := 0) D (V.re hB hO hK hR) (fun _ ↦ okx_no)) ?_
      rintro _ w3 ⟨rfl, V3, F3⟩
      replace hF := hF.transD F3
      refine wl (ro_assign rfl) ?_
      refine wl_nil (x_then (hK8 _ _ ?_))
      clear hK8 K8
      refine c_reg ?_ -- region 6 build.go:106
      refine wl (ro_move rfl) ?_
      refine wl (ro_move rfl) ?_
      refine wl_call rfl en_107 (pushRoot107 D V3 (top_ge _).1 (top_ge _).2) ?_
      rintro _ w4 ⟨rfl, V4, F4⟩
      replace hF := hF.transD F4
      refine wl_nil ?_
      refine bp_end Tryz.results103 rfl ?_
      rw [if_neg hc13, if_neg hc24]; exact ⟨rfl, V4, hF⟩

set_option maxHeartbeats 4000000 in
theorem open104 {w : World} {B : SB} {T : List RE} {σ : BS} {fh c : Nat → Value} {nb cap n : Nat} {r : RE} (D : D4 B) (V : BV w.heap B T σ) (hH : FB w.heap B.hb 24 fh 3) (hnh : ¬ bset B B.hb) (hsh : SHV fh T) (hT : FB w.heap nb (cap * 11) c 89) (hnn : ¬ bset B nb) (hle : T.length ≤ cap) (h24 : T.length ≤ 24) (hAR : AR T c 0) (hn : T[n]? = some r) (hw : WF r) :
    Ret Tryz.prog 104 [ptr B.sb, .slice (some ⟨nb, 0, none⟩) T.length cap, i64c n] w (fun v w' => v = .tuple #[] ∧ BV w'.heap B T (openB r σ) ∧ Fram (bset B) w w') := by
  have hF : Fram (bset B) w w := Fram.refl _ _
  obtain ⟨fo0, fw0, fr0, V⟩ := V
  have hB := V.s
  have hO := V.o
  have hK := V.k
  have hR := V.r
  have hB0 := V.s.lt
  have hB1 := V.o.lt
  have hB2 := V.k.lt
  have hB3 := V.r.lt
  have hnT : n < T.length := (List.getElem?_eq_some_iff.1 hn).1
  have hlt : ∀ {i : Nat} {a : RE}, T[i]? = some a → i < 24 := fun h => by have := (List.getElem?_eq_some_iff.1 h).1; omega
  have hN := hAR n r hn
  generalize hcs : cel 11 (fun j => c (0 + 11 * n + j)) = cs at hN
  have hld := nd_load (cap := cap) (k := n) (by omega) hcs
  refine ret_of Tryz.func104 rfl Tryz.ntmps104 rfl ?_
  refine c_seq (fun K1 hK1 => ?_)
  rcases hN.kinds with ⟨hq, rfl⟩ | ⟨S, hq, rfl⟩ | ⟨hq, rfl⟩ | ⟨l, hq, rfl⟩ | ⟨a, b, i, j, hq, hi, hj, hia, hjb, rfl⟩ | ⟨o, a, b, i, j, hq, hi, hj, hia, hjb, rfl⟩ | ⟨ff, ps, x, a, i, hq, hi, hia, hcn, rfl⟩ | ⟨g, a, i, hq, hi, hia, rfl⟩
  · skip
    refine c_reg ?_ -- region 0 build.go:111
    refine wl (ro_move rfl) ?_
    refine wl (ro_move rfl) ?_
    refine wl (ro_indexAddr (et := 89) (k := 11) rfl rfl se_98 (rfl) (hnT)) ?_
    refine wl (ro_loadAggB rfl ag_89 (hT) (rfl) (hld)) ?_
    refine wl_new (ze_89) (fun xb w1 hbxb hX F1 => ?_)
    have hbsxb := Nat.le_trans hF.size hbxb
    have hneB.sbxb : B.sb < xb := Nat.lt_of_lt_of_le hB.lt hbxb
    have hneB.obxb : B.ob < xb := Nat.lt_of_lt_of_le hO.lt hbxb
    have hneB.kbxb : B.kb < xb := Nat.lt_of_lt_of_le hK.lt hbxb
    have hneB.rbxb : B.rb < xb := Nat.lt_of_lt_of_le hR.lt hbxb
    have hneB.hbxb : B.hb < xb := Nat.lt_of_lt_of_le hH.lt hbxb
    have hnenbxb : nb < xb := Nat.lt_of_lt_of_le hT.lt hbxb
    replace hF := hF.thenDrew.thenN F1
    replace hB := F1.blkN hB
    replace hO := F1.blkN hO
    replace hK := F1.blkN hK
    replace hR := F1.blkN hR
    replace hH := F1.blkN hH
    replace hT := F1.blkN hT
    refine wl_puta rfl rfl (by simp [Value.oneCell', i64c, u64c, u8c, ptr]) sz_89 (rfl) hX ((by simp)) (rfl) (fun w2 hX F2 => ?_)
    replace hF := hF.thenDrew.thenO F2 (by first | exact .inr (by omega) | exact .inl rfl | exact .inl (by assumption))
    replace hB := F2.blkO hB (by omega)
    replace hO := F2.blkO hO (by omega)
    replace hK := F2.blkO hK (by omega)
    replace hR := F2.blkO hR (by omega)
    replace hH := F2.blkO hH (by omega)
    replace hT := F2.blkO hT (by omega)
    refine wl_nil (x_then (hK1 _ _ ?_))
    clear hK1 K1
    refine forget [(0, _), (2, _), (6, _)] ⟨rfl, rfl, rfl, trivial⟩ (fun e => ?_)
    refine c_seq (fun K2 hK2 => ?_)
    have hxbn : ¬ bset B xb := by rintro (h | h | h | h) <;> omega
    refine c_reg ?_ -- region 1 build.go:112
    refine wl (ro_fieldAddr (k := 0) rfl fo_89_0) ?_
    refine wl (ro_loadB rfl sc_3 (by assumption) rfl) ?_
    refine wl_nil (x_then (hK2 _ _ ?_))
    clear hK2 K2
    refine c_block ?_
    refine forget [(0, _), (2, _), (6, _), (14, _)] ⟨rfl, rfl, rfl, rfl, trivial⟩ (fun e => ?_)
    refine c_seq (fun K3 hK3 => ?_)
    refine c_reg ?_ -- region 4 build.go:113
    refine wl (ro_cmp rfl rfl rfl) ?_
    refine wl (ro_assign rfl) ?_
    refine wl_nil (x_then (hK3 _ _ ?_))
    clear hK3 K3
    refine wc_condF rfl ?_
    refine c_seq (fun K4 hK4 => ?_)
    refine c_reg ?_ -- region 12 build.go:123
    refine wl (ro_cmp rfl rfl rfl) ?_
    refine wl (ro_assign rfl) ?_
    refine wl_nil (x_then (hK4 _ _ ?_))
    clear hK4 K4
    refine wc_condF rfl ?_
    refine c_seq (fun K5 hK5 => ?_)
    refine c_reg ?_ -- region 20 build.go:133
    refine wl (ro_cmp rfl rfl rfl) ?_
    refine wl (ro_assign rfl) ?_
    refine wl_nil (x_then (hK5 _ _ ?_))
    clear hK5 K5
    refine wc_condF rfl ?_
    refine c_seq (fun K6 hK6 => ?_)
    refine c_reg ?_ -- region 23 build.go:136
    refine wl (ro_cmp rfl rfl rfl) ?_
    refine wl (ro_assign rfl) ?_
    refine wl_nil (x_then (hK6 _ _ ?_))
    clear hK6 K6
    refine wc_condF rfl ?_
    refine c_seq (fun K7 hK7 => ?_)
    refine c_reg ?_ -- region 2 build.go:144
    refine wl (ro_move rfl) ?_
    refine wl (ro_loadAggB rfl ag_89 (hX) (rfl) (rfl)) ?_
    refine wl_call rfl en_108 (add108 (x := leafN .skip) D (V.re hB hO hK hR) (fun _ ↦ okx_no)) ?_
    rintro _ w3 ⟨rfl, V3, F3⟩
    refine wl (ro_assign rfl) ?_
    refine wl_nil (x_then (hK7 _ _ ?_))
    clear hK7 K7
    refine c_reg ?_ -- region 3 build.go:145
    refine wl (ro_move rfl) ?_
    refine wl (ro_move rfl) ?_
    refine wl_call rfl en_107 (pushRoot107 D V3 (top_ge _).1 (top_ge _).2) ?_
    rintro _ w4 ⟨rfl, V4, F4⟩
    refine wl_nil (x_blk ?_)
    refine bp_end Tryz.results104 rfl ?_
    rw [hq]; exact ⟨rfl, V4, (hF.transD F3).trans F4⟩
  · skip
    refine c_reg ?_ -- region 0 build.go:111
    refine wl (ro_move rfl) ?_
    refine wl (ro_move rfl) ?_
    refine wl (ro_indexAddr (et := 89) (k := 11) rfl rfl se_98 (rfl) (hnT)) ?_
    refine wl (ro_loadAggB rfl ag_89 (hT) (rfl) (hld)) ?_
    refine wl_new (ze_89) (fun xb w3 hbxb hX F3 => ?_)
    have hbsxb := Nat.le_trans hF.size hbxb
    have hneB.sbxb : B.sb < xb := Nat.lt_of_lt_of_le hB.lt hbxb
    have hneB.obxb : B.ob < xb := Nat.lt_of_lt_of_le hO.lt hbxb
    have hneB.kbxb : B.kb < xb := Nat.lt_of_lt_of_le hK.lt hbxb
    have hneB.rbxb : B.rb < xb := Nat.lt_of_lt_of_le hR.lt hbxb
    have hneB.hbxb : B.hb < xb := Nat.lt_of_lt_of_le hH.lt hbxb
    have hnenbxb : nb < xb := Nat.lt_of_lt_of_le hT.lt hbxb
    replace hF := hF.thenDrew.thenN F3
    replace hB := F3.blkN hB
    replace hO := F3.blkN hO
    replace hK := F3.blkN hK
    replace hR := F3.blkN hR
    replace hH := F3.blkN hH
    replace hT := F3.blkN hT
    refine wl_puta rfl rfl (by simp [Value.oneCell', i64c, u64c, u8c, ptr]) sz_89 (rfl) hX ((by simp)) (rfl) (fun w4 hX F4 => ?_)
    replace hF := hF.thenDrew.thenO F4 (by first | exact .inr (by omega) | exact .inl rfl | exact .inl (by assumption))
    replace hB := F4.blkO hB (by omega)
    replace hO := F4.blkO hO (by omega)
    replace hK := F4.blkO hK (by omega)
    replace hR := F4.blkO hR (by omega)
    replace hH := F4.blkO hH (by omega)
    replace hT := F4.blkO hT (by omega)
    refine wl_nil (x_then (hK1 _ _ ?_))
    clear hK1 K1
    refine forget [(0, _), (2, _), (6, _)] ⟨rfl, rfl, rfl, trivial⟩ (fun e => ?_)
    refine c_seq (fun K8 hK8 => ?_)
    have hxbn : ¬ bset B xb := by rintro (h | h | h | h) <;> omega
    refine c_reg ?_ -- region 1 build.go:112
    refine wl (ro_fieldAddr (k := 0) rfl fo_89_0) ?_
    refine wl (ro_loadB rfl sc_3 (by assumption) rfl) ?_
    refine wl_nil (x_then (hK8 _ _ ?_))
    clear hK8 K8
    refine c_block ?_
    refine forget [(0, _), (2, _), (6, _), (14, _)] ⟨rfl, rfl, rfl, rfl, trivial⟩ (fun e => ?_)
    refine c_seq (fun K9 hK9 => ?_)
    refine c_reg ?_ -- region 4 build.go:113
    refine wl (ro_cmp rfl rfl rfl) ?_
    refine wl (ro_assign rfl) ?_
    refine wl_nil (x_then (hK9 _ _ ?_))
    clear hK9 K9
    refine wc_condF rfl ?_
    refine c_seq (fun K10 hK10 => ?_)
    refine c_reg ?_ -- region 12 build.go:123
    refine wl (ro_cmp rfl rfl rfl) ?_
    refine wl (ro_assign rfl) ?_
    refine wl_nil (x_then (hK10 _ _ ?_))
    clear hK10 K10
    refine wc_condF rfl ?_
    refine c_seq (fun K11 hK11 => ?_)
    refine c_reg ?_ -- region 20 build.go:133
    refine wl (ro_cmp rfl rfl rfl) ?_
    refine wl (ro_assign rfl) ?_
    refine wl_nil (x_then (hK11 _ _ ?_))
    clear hK11 K11
    refine wc_condF rfl ?_
    refine c_seq (fun K12 hK12 => ?_)
    refine c_reg ?_ -- region 23 build.go:136
    refine wl (ro_cmp rfl rfl rfl) ?_
    refine wl (ro_assign rfl) ?_
    refine wl_nil (x_then (hK12 _ _ ?_))
    clear hK12 K12
    refine wc_condF rfl ?_
    refine c_seq (fun K13 hK13 => ?_)
    refine c_reg ?_ -- region 2 build.go:144
    refine wl (ro_move rfl) ?_
    refine wl (ro_loadAggB rfl ag_89 (hX) (rfl) (rfl)) ?_
    refine wl_call rfl en_108 (add108 (x := leafN (.goto S)) D (V.re hB hO hK hR) (fun _ ↦ okx_no (k := 1))) ?_
    rintro _ w3 ⟨rfl, V3, F3⟩
    refine wl (ro_assign rfl) ?_
    refine wl_nil (x_then (hK13 _ _ ?_))
    clear hK13 K13
    refine c_reg ?_ -- region 3 build.go:145
    refine wl (ro_move rfl) ?_
    refine wl (ro_move rfl) ?_
    refine wl_call rfl en_107 (pushRoot107 D V3 (top_ge _).1 (top_ge _).2) ?_
    rintro _ w4 ⟨rfl, V4, F4⟩
    refine wl_nil (x_blk ?_)
    refine bp_end Tryz.results104 rfl ?_
    rw [hq]; exact ⟨rfl, V4, (hF.transD F3).trans F4⟩
  · skip
    refine c_reg ?_ -- region 0 build.go:111
    refine wl (ro_move rfl) ?_
    refine wl (ro_move rfl) ?_
    refine wl (ro_indexAddr (et := 89) (k := 11) rfl rfl se_98 (rfl) (hnT)) ?_
    refine wl (ro_loadAggB rfl ag_89 (hT) (rfl) (hld)) ?_
    refine wl_new (ze_89) (fun xb w5 hbxb hX F5 => ?_)
    have hbsxb := Nat.le_trans hF.size hbxb
    have hneB.sbxb : B.sb < xb := Nat.lt_of_lt_of_le hB.lt hbxb
    have hneB.obxb : B.ob < xb := Nat.lt_of_lt_of_le hO.lt hbxb
    have hneB.kbxb : B.kb < xb := Nat.lt_of_lt_of_le hK.lt hbxb
    have hneB.rbxb : B.rb < xb := Nat.lt_of_lt_of_le hR.lt hbxb
    have hneB.hbxb : B.hb < xb := Nat.lt_of_lt_of_le hH.lt hbxb
    have hnenbxb : nb < xb := Nat.lt_of_lt_of_le hT.lt hbxb
    replace hF := hF.thenDrew.thenN F5
    replace hB := F5.blkN hB
    replace hO := F5.blkN hO
    replace hK := F5.blkN hK
    replace hR := F5.blkN hR
    replace hH := F5.blkN hH
    replace hT := F5.blkN hT
    refine wl_puta rfl rfl (by simp [Value.oneCell', i64c, u64c, u8c, ptr]) sz_89 (rfl) hX ((by simp)) (rfl) (fun w6 hX F6 => ?_)
    replace hF := hF.thenDrew.thenO F6 (by first | exact .inr (by omega) | exact .inl rfl | exact .inl (by assumption))
    replace hB := F6.blkO hB (by omega)
    replace hO := F6.blkO hO (by omega)
    replace hK := F6.blkO hK (by omega)
    replace hR := F6.blkO hR (by omega)
    replace hH := F6.blkO hH (by omega)
    replace hT := F6.blkO hT (by omega)
    refine wl_nil (x_then (hK1 _ _ ?_))
    clear hK1 K1
    refine forget [(0, _), (2, _), (6, _)] ⟨rfl, rfl, rfl, trivial⟩ (fun e => ?_)
    refine c_seq (fun K14 hK14 => ?_)
    have hxbn : ¬ bset B xb := by rintro (h | h | h | h) <;> omega
    refine c_reg ?_ -- region 1 build.go:112
    refine wl (ro_fieldAddr (k := 0) rfl fo_89_0) ?_
    refine wl (ro_loadB rfl sc_3 (by assumption) rfl) ?_
    refine wl_nil (x_then (hK14 _ _ ?_))
    clear hK14 K14
    refine c_block ?_
    refine forget [(0, _), (2, _), (6, _), (14, _)] ⟨rfl, rfl, rfl, rfl, trivial⟩ (fun e => ?_)
    refine c_seq (fun K15 hK15 => ?_)
    refine c_reg ?_ -- region 4 build.go:113
    refine wl (ro_cmp rfl rfl rfl) ?_
    refine wl (ro_assign rfl) ?_
    refine wl_nil (x_then (hK15 _ _ ?_))
    clear hK15 K15
    refine wc_condF rfl ?_
    refine c_seq (fun K16 hK16 => ?_)
    refine c_reg ?_ -- region 12 build.go:123
    refine wl (ro_cmp rfl rfl rfl) ?_
    refine wl (ro_assign rfl) ?_
    refine wl_nil (x_then (hK16 _ _ ?_))
    clear hK16 K16
    refine wc_condF rfl ?_
    refine c_seq (fun K17 hK17 => ?_)
    refine c_reg ?_ -- region 20 build.go:133
    refine wl (ro_cmp rfl rfl rfl) ?_
    refine wl (ro_assign rfl) ?_
    refine wl_nil (x_then (hK17 _ _ ?_))
    clear hK17 K17
    refine wc_condF rfl ?_
    refine c_seq (fun K18 hK18 => ?_)
    refine c_reg ?_ -- region 23 build.go:136
    refine wl (ro_cmp rfl rfl rfl) ?_
    refine wl (ro_assign rfl) ?_
    refine wl_nil (x_then (hK18 _ _ ?_))
    clear hK18 K18
    refine wc_condF rfl ?_
    refine c_seq (fun K19 hK19 => ?_)
    refine c_reg ?_ -- region 2 build.go:144
    refine wl (ro_move rfl) ?_
    refine wl (ro_loadAggB rfl ag_89 (hX) (rfl) (rfl)) ?_
    refine wl_call rfl en_108 (add108 (x := leafN .ret) D (V.re hB hO hK hR) (fun _ ↦ okx_no)) ?_
    rintro _ w3 ⟨rfl, V3, F3⟩
    refine wl (ro_assign rfl) ?_
    refine wl_nil (x_then (hK19 _ _ ?_))
    clear hK19 K19
    refine c_reg ?_ -- region 3 build.go:145
    refine wl (ro_move rfl) ?_
    refine wl (ro_move rfl) ?_
    refine wl_call rfl en_107 (pushRoot107 D V3 (top_ge _).1 (top_ge _).2) ?_
    rintro _ w4 ⟨rfl, V4, F4⟩
    refine wl_nil (x_blk ?_)
    refine bp_end Tryz.results104 rfl ?_
    rw [hq]; exact ⟨rfl, V4, (hF.transD F3).trans F4⟩
  · skip
    refine c_reg ?_ -- region 0 build.go:111
    refine wl (ro_move rfl) ?_
    refine wl (ro_move rfl) ?_
    refine wl (ro_indexAddr (et := 89) (k := 11) rfl rfl se_98 (rfl) (hnT)) ?_
    refine wl (ro_loadAggB rfl ag_89 (hT) (rfl) (hld)) ?_
    refine wl_new (ze_89) (fun xb w7 hbxb hX F7 => ?_)
    have hbsxb := Nat.le_trans hF.size hbxb
    have hneB.sbxb : B.sb < xb := Nat.lt_of_lt_of_le hB.lt hbxb
    have hneB.obxb : B.ob < xb := Nat.lt_of_lt_of_le hO.lt hbxb
    have hneB.kbxb : B.kb < xb := Nat.lt_of_lt_of_le hK.lt hbxb
    have hneB.rbxb : B.rb < xb := Nat.lt_of_lt_of_le hR.lt hbxb
    have hneB.hbxb : B.hb < xb := Nat.lt_of_lt_of_le hH.lt hbxb
    have hnenbxb : nb < xb := Nat.lt_of_lt_of_le hT.lt hbxb
    replace hF := hF.thenDrew.thenN F7
    replace hB := F7.blkN hB
    replace hO := F7.blkN hO
    replace hK := F7.blkN hK
    replace hR := F7.blkN hR
    replace hH := F7.blkN hH
    replace hT := F7.blkN hT
    refine wl_puta rfl rfl (by simp [Value.oneCell', i64c, u64c, u8c, ptr]) sz_89 (rfl) hX ((by simp)) (rfl) (fun w8 hX F8 => ?_)
    replace hF := hF.thenDrew.thenO F8 (by first | exact .inr (by omega) | exact .inl rfl | exact .inl (by assumption))
    replace hB := F8.blkO hB (by omega)
    replace hO := F8.blkO hO (by omega)
    replace hK := F8.blkO hK (by omega)
    replace hR := F8.blkO hR (by omega)
    replace hH := F8.blkO hH (by omega)
    replace hT := F8.blkO hT (by omega)
    refine wl_nil (x_then (hK1 _ _ ?_))
    clear hK1 K1
    refine forget [(0, _), (2, _), (6, _)] ⟨rfl, rfl, rfl, trivial⟩ (fun e => ?_)
    refine c_seq (fun K20 hK20 => ?_)
    have hxbn : ¬ bset B xb := by rintro (h | h | h | h) <;> omega
    refine c_reg ?_ -- region 1 build.go:112
    refine wl (ro_fieldAddr (k := 0) rfl fo_89_0) ?_
    refine wl (ro_loadB rfl sc_3 (by assumption) rfl) ?_
    refine wl_nil (x_then (hK20 _ _ ?_))
    clear hK20 K20
    refine c_block ?_
    refine forget [(0, _), (2, _), (6, _), (14, _)] ⟨rfl, rfl, rfl, rfl, trivial⟩ (fun e => ?_)
    refine c_seq (fun K21 hK21 => ?_)
    refine c_reg ?_ -- region 4 build.go:113
    refine wl (ro_cmp rfl rfl rfl) ?_
    refine wl (ro_assign rfl) ?_
    refine wl_nil (x_then (hK21 _ _ ?_))
    clear hK21 K21
    refine wc_condF rfl ?_
    refine c_seq (fun K22 hK22 => ?_)
    refine c_reg ?_ -- region 12 build.go:123
    refine wl (ro_cmp rfl rfl rfl) ?_
    refine wl (ro_assign rfl) ?_
    refine wl_nil (x_then (hK22 _ _ ?_))
    clear hK22 K22
    refine wc_condF rfl ?_
    refine c_seq (fun K23 hK23 => ?_)
    refine c_reg ?_ -- region 20 build.go:133
    refine wl (ro_cmp rfl rfl rfl) ?_
    refine wl (ro_assign rfl) ?_
    refine wl_nil (x_then (hK23 _ _ ?_))
    clear hK23 K23
    refine wc_condF rfl ?_
    refine c_seq (fun K24 hK24 => ?_)
    refine c_reg ?_ -- region 23 build.go:136
    refine wl (ro_cmp rfl rfl rfl) ?_
    refine wl (ro_assign rfl) ?_
    refine wl_nil (x_then (hK24 _ _ ?_))
    clear hK24 K24
    refine wc_condF rfl ?_
    refine c_seq (fun K25 hK25 => ?_)
    refine c_reg ?_ -- region 2 build.go:144
    refine wl (ro_move rfl) ?_
    refine wl (ro_loadAggB rfl ag_89 (hX) (rfl) (rfl)) ?_
    refine wl_call rfl en_108 (add108 (x := leafN (.label l)) D (V.re hB hO hK hR) (fun _ ↦ okx_no)) ?_
    rintro _ w3 ⟨rfl, V3, F3⟩
    refine wl (ro_assign rfl) ?_
    refine wl_nil (x_then (hK25 _ _ ?_))
    clear hK25 K25
    refine c_reg ?_ -- region 3 build.go:145
    refine wl (ro_move rfl) ?_
    refine wl (ro_move rfl) ?_
    refine wl_call rfl en_107 (pushRoot107 D V3 (top_ge _).1 (top_ge _).2) ?_
    rintro _ w4 ⟨rfl, V4, F4⟩
    refine wl_nil (x_blk ?_)
    refine bp_end Tryz.results104 rfl ?_
    rw [hq]; exact ⟨rfl, V4, (hF.transD F3).trans F4⟩
  · skip
    have hs1 := hsh i a hia (by rw [hq] at hw; exact hw.1)
    have hs2 := hsh j b hjb (by rw [hq] at hw; exact hw.2)
    have hwa : WF a := by rw [hq] at hw; exact hw.1
    have hwb : WF b := by rw [hq] at hw; exact hw.2
    refine c_reg ?_ -- region 0 build.go:111
    refine wl (ro_move rfl) ?_
    refine wl (ro_move rfl) ?_
    refine wl (ro_indexAddr (et := 89) (k := 11) rfl rfl se_98 (rfl) (hnT)) ?_
    refine wl (ro_loadAggB rfl ag_89 (hT) (rfl) (hld)) ?_
    refine wl_new (ze_89) (fun xb w9 hbxb hX F9 => ?_)
    have hbsxb := Nat.le_trans hF.size hbxb
    have hneB.sbxb : B.sb < xb := Nat.lt_of_lt_of_le hB.lt hbxb
    have hneB.obxb : B.ob < xb := Nat.lt_of_lt_of_le hO.lt hbxb
    have hneB.kbxb : B.kb < xb := Nat.lt_of_lt_of_le hK.lt hbxb
    have hneB.rbxb : B.rb < xb := Nat.lt_of_lt_of_le hR.lt hbxb
    have hneB.hbxb : B.hb < xb := Nat.lt_of_lt_of_le hH.lt hbxb
    have hnenbxb : nb < xb := Nat.lt_of_lt_of_le hT.lt hbxb
    replace hF := hF.thenDrew.thenN F9
    replace hB := F9.blkN hB
    replace hO := F9.blkN hO
    replace hK := F9.blkN hK
    replace hR := F9.blkN hR
    replace hH := F9.blkN hH
    replace hT := F9.blkN hT
    refine wl_puta rfl rfl (by simp [Value.oneCell', i64c, u64c, u8c, ptr]) sz_89 (rfl) hX ((by simp)) (rfl) (fun w10 hX F10 => ?_)
    replace hF := hF.thenDrew.thenO F10 (by first | exact .inr (by omega) | exact .inl rfl | exact .inl (by assumption))
    replace hB := F10.blkO hB (by omega)
    replace hO := F10.blkO hO (by omega)
    replace hK := F10.blkO hK (by omega)
    replace hR := F10.blkO hR (by omega)
    replace hH := F10.blkO hH (by omega)
    replace hT := F10.blkO hT (by omega)
    refine wl_nil (x_then (hK1 _ _ ?_))
    clear hK1 K1
    refine forget [(0, _), (2, _), (6, _)] ⟨rfl, rfl, rfl, trivial⟩ (fun e => ?_)
    refine c_seq (fun K26 hK26 => ?_)
    have hxbn : ¬ bset B xb := by rintro (h | h | h | h) <;> omega
    refine c_reg ?_ -- region 1 build.go:112
    refine wl (ro_fieldAddr (k := 0) rfl fo_89_0) ?_
    refine wl (ro_loadB rfl sc_3 (by assumption) rfl) ?_
    refine wl_nil (x_then (hK26 _ _ ?_))
    clear hK26 K26
    refine c_block ?_
    refine forget [(0, _), (2, _), (6, _), (14, _)] ⟨rfl, rfl, rfl, rfl, trivial⟩ (fun e => ?_)
    refine c_seq (fun K27 hK27 => ?_)
    refine c_reg ?_ -- region 4 build.go:113
    refine wl (ro_cmp rfl rfl rfl) ?_
    refine wl (ro_assign rfl) ?_
    refine wl_nil (x_then (hK27 _ _ ?_))
    clear hK27 K27
    refine wc_condT rfl ?_
    refine c_seq (fun K28 hK28 => ?_)
    refine c_pi [(0, false), (1, false), (2, false), (3, false), (4, false), (5, false), (6, false), (7, false), (8, false)] (SameH _) mixed (by kernel_rfl) rfl (by kernel_rfl) (po_then (po_blk (po_bp))) (sameH_now _ _) ?_ -- region 5 build.go:114
    refine pi_ro rfl (fun w hS => ro_move rfl) ?_
    refine pi_ro rfl (fun w hS => ro_nilCheck rfl) ?_
    refine pi_ro rfl (fun w hS => ro_fieldAddr (k := 1) rfl fo_101_1) ?_
    refine pi_ro rfl (fun w hS => ro_loadB rfl sc_97 (Blk.of_heap hB hS) (rfl)) ?_
    refine pi_ro rfl (fun w hS => ro_fieldAddr (k := 1) rfl fo_89_1) ?_
    refine pi_ro rfl (fun w hS => ro_loadB rfl sc_3 (Blk.of_heap hX hS) (rfl)) ?_
    refine pi_ro rfl (fun w hS => ro_indexAddr (et := 3) (k := 1) rfl rfl se_97 (rfl) ((hlt hia))) ?_
    refine pi_ro rfl (fun w hS => ro_loadB rfl sc_3 (Blk.of_heap hH hS) (cel_at (by have := hlt hia; omega) (by omega) hs1)) ?_
    refine pi_ro rfl (fun w hS => ro_cmp (r := decide (shp a = 0)) rfl rfl (congrArg some (beqc (shp a) 0))) ?_
    refine pi_nil (x_then (hK28 _ _ ?_))
    clear hK28 K28
    refine wc_cond rfl (fun hc31 => ?_) (fun hc31 => ?_)
    · try simp only [decide_eq_true_eq, decide_eq_false_iff_not, Bool.not_eq_true', Bool.not_eq_false', Bool.not_eq_eq_eq_not, Bool.not_true, Bool.not_false, beq_iff_eq, bne_iff_ne, ne_eq, beq_eq_false_iff_ne, bne_eq_false_iff_eq, gt_iff_lt, ge_iff_le, Int.not_lt, Int.not_le] at hc31
      refine c_reg ?_ -- region 6 build.go:115
      refine wl (ro_move rfl) ?_
      refine wl (ro_fieldAddr (k := 2) rfl fo_89_2) ?_
      refine wl (ro_loadB rfl sc_3 (hX) (rfl)) ?_
      refine wl_call rfl en_102 (push102 (t := tkb b) D (V.re hB hO hK hR) hjb (tkok_b hwb (by omega))) ?_
      rintro _ w3 ⟨rfl, V3, F3⟩
      refine wl_nil (x_blk ?_)
      refine bp_end Tryz.results104 rfl ?_
      rw [hq] at *
      simp only [openB]
      (repeat' split) <;> first | omega | exact ⟨by trivial, V3, hF.transD F3⟩ | exact ⟨by trivial, V5, hF.transD F5⟩
    · try simp only [decide_eq_true_eq, decide_eq_false_iff_not, Bool.not_eq_true', Bool.not_eq_false', Bool.not_eq_eq_eq_not, Bool.not_true, Bool.not_false, beq_iff_eq, bne_iff_ne, ne_eq, beq_eq_false_iff_ne, bne_eq_false_iff_eq, gt_iff_lt, ge_iff_le, Int.not_lt, Int.not_le] at hc31
      refine c_seq (fun K29 hK29 => ?_)
      refine c_pi [(0, false), (1, false), (2, false), (3, false), (4, false), (5, false), (6, false), (7, false), (8, false)] (SameH _) mixed (by kernel_rfl) rfl (by kernel_rfl) (po_then (po_blk (po_bp))) (sameH_now _ _) ?_ -- region 7 build.go:116
      refine pi_ro rfl (fun w hS => ro_move rfl) ?_
      refine pi_ro rfl (fun w hS => ro_nilCheck rfl) ?_
      refine pi_ro rfl (fun w hS => ro_fieldAddr (k := 1) rfl fo_101_1) ?_
      refine pi_ro rfl (fun w hS => ro_loadB rfl sc_97 (Blk.of_heap hB hS) (rfl)) ?_
      refine pi_ro rfl (fun w hS => ro_fieldAddr (k := 2) rfl fo_89_2) ?_
      refine pi_ro rfl (fun w hS => ro_loadB rfl sc_3 (Blk.of_heap hX hS) (rfl)) ?_
      refine pi_ro rfl (fun w hS => ro_indexAddr (et := 3) (k := 1) rfl rfl se_97 (rfl) ((hlt hjb))) ?_
      refine pi_ro rfl (fun w hS => ro_loadB rfl sc_3 (Blk.of_heap hH hS) (cel_at (by have := hlt hjb; omega) (by omega) hs2)) ?_
      refine pi_ro rfl (fun w hS => ro_cmp (r := decide (shp b = 0)) rfl rfl (congrArg some (beqc (shp b) 0))) ?_
      refine pi_nil (x_then (hK29 _ _ ?_))
      clear hK29 K29
      refine wc_cond rfl (fun hc44 => ?_) (fun hc44 => ?_)
      · try simp only [decide_eq_true_eq, decide_eq_false_iff_not, Bool.not_eq_true', Bool.not_eq_false', Bool.not_eq_eq_eq_not, Bool.not_true, Bool.not_false, beq_iff_eq, bne_iff_ne, ne_eq, beq_eq_false_iff_ne, bne_eq_false_iff_eq, gt_iff_lt, ge_iff_le, Int.not_lt, Int.not_le] at hc44
        refine c_reg ?_ -- region 8 build.go:117
        refine wl (ro_move rfl) ?_
        refine wl (ro_fieldAddr (k := 1) rfl fo_89_1) ?_
        refine wl (ro_loadB rfl sc_3 (hX) (rfl)) ?_
        refine wl_call rfl en_102 (push102 (t := tkb a) D (V.re hB hO hK hR) hia (tkok_b hwa (by omega))) ?_
        rintro _ w3 ⟨rfl, V3, F3⟩
        refine wl_nil (x_blk ?_)
        refine bp_end Tryz.results104 rfl ?_
        rw [hq] at *
        simp only [openB]
        (repeat' split) <;> first | omega | exact ⟨by trivial, V3, hF.transD F3⟩ | exact ⟨by trivial, V5, hF.transD F5⟩
      · try simp only [decide_eq_true_eq, decide_eq_false_iff_not, Bool.not_eq_true', Bool.not_eq_false', Bool.not_eq_eq_eq_not, Bool.not_true, Bool.not_false, beq_iff_eq, bne_iff_ne, ne_eq, beq_eq_false_iff_ne, bne_eq_false_iff_eq, gt_iff_lt, ge_iff_le, Int.not_lt, Int.not_le] at hc44
        refine c_seq (fun K30 hK30 => ?_)
        refine c_reg ?_ -- region 9 build.go:119
        refine wl (ro_move rfl) ?_
        refine wl (ro_move rfl) ?_
        refine wl_call rfl en_102 (push102 (t := ⟨2, r, 0, -1⟩) D (V.re hB hO hK hR) hn (tkok_b hw (by omega))) ?_
        rintro _ w3 ⟨rfl, V3, F3⟩
        replace hX := F3.blkF hX hxbn
        replace hF := hF.transD F3
        clear hB hO hK hR
        obtain ⟨fo3, fw3, fr3, V3⟩ := V3
        have hB := V3.s
        have hO := V3.o
        have hK := V3.k
        have hR := V3.r
        refine wl_nil (x_then (hK30 _ _ ?_))
        clear hK30 K30
        refine forget [(0, _), (6, _)] ⟨rfl, rfl, trivial⟩ (fun e => ?_)
        refine c_seq (fun K31 hK31 => ?_)
        refine c_reg ?_ -- region 10 build.go:120
        refine wl (ro_move rfl) ?_
        refine wl (ro_fieldAddr (k := 2) rfl fo_89_2) ?_
        refine wl (ro_loadB rfl sc_3 (hX) (rfl)) ?_
        refine wl_call rfl en_102 (push102 (t := tkb b) D (V3.re hB hO hK hR) hjb (tkok_b hwb (by omega))) ?_
        rintro _ w4 ⟨rfl, V4, F4⟩
        replace hX := F4.blkF hX hxbn
        replace hF := hF.transD F4
        clear hB hO hK hR
        obtain ⟨fo4, fw4, fr4, V4⟩ := V4
        have hB := V4.s
        have hO := V4.o
        have hK := V4.k
        have hR := V4.r
        refine wl_nil (x_then (hK31 _ _ ?_))
        clear hK31 K31
        refine c_reg ?_ -- region 11 build.go:121
        refine wl (ro_move rfl) ?_
        refine wl (ro_fieldAddr (k := 1) rfl fo_89_1) ?_
        refine wl (ro_loadB rfl sc_3 (hX) (rfl)) ?_
        refine wl_call rfl en_102 (push102 (t := tkb a) D (V4.re hB hO hK hR) hia (tkok_b hwa (by omega))) ?_
        rintro _ w5 ⟨rfl, V5, F5⟩
        refine wl_nil (x_blk ?_)
        refine bp_end Tryz.results104 rfl ?_
        rw [hq] at *
        simp only [openB]
        (repeat' split) <;> first | omega | exact ⟨by trivial, V3, hF.transD F3⟩ | exact ⟨by trivial, V5, hF.transD F5⟩
  · skip
    have hs1 := hsh i a hia (by rw [hq] at hw; exact hw.1)
    have hs2 := hsh j b hjb (by rw [hq] at hw; exact hw.2)
    have hwa : WF a := by rw [hq] at hw; exact hw.1
    have hwb : WF b := by rw [hq] at hw; exact hw.2
    refine c_reg ?_ -- region 0 build.go:111
    refine wl (ro_move rfl) ?_
    refine wl (ro_move rfl) ?_
    refine wl (ro_indexAddr (et := 89) (k := 11) rfl rfl se_98 (rfl) (hnT)) ?_
    refine wl (ro_loadAggB rfl ag_89 (hT) (rfl) (hld)) ?_
    refine wl_new (ze_89) (fun xb w11 hbxb hX F11 => ?_)
    have hbsxb := Nat.le_trans hF.size hbxb
    have hneB.sbxb : B.sb < xb := Nat.lt_of_lt_of_le hB.lt hbxb
    have hneB.obxb : B.ob < xb := Nat.lt_of_lt_of_le hO.lt hbxb
    have hneB.kbxb : B.kb < xb := Nat.lt_of_lt_of_le hK.lt hbxb
    have hneB.rbxb : B.rb < xb := Nat.lt_of_lt_of_le hR.lt hbxb
    have hneB.hbxb : B.hb < xb := Nat.lt_of_lt_of_le hH.lt hbxb
    have hnenbxb : nb < xb := Nat.lt_of_lt_of_le hT.lt hbxb
    replace hF := hF.thenDrew.thenN F11
    replace hB := F11.blkN hB
    replace hO := F11.blkN hO
    replace hK := F11.blkN hK
    replace hR := F11.blkN hR
    replace hH := F11.blkN hH
    replace hT := F11.blkN hT
    refine wl_puta rfl rfl (by simp [Value.oneCell', i64c, u64c, u8c, ptr]) sz_89 (rfl) hX ((by simp)) (rfl) (fun w12 hX F12 => ?_)
    replace hF := hF.thenDrew.thenO F12 (by first | exact .inr (by omega) | exact .inl rfl | exact .inl (by assumption))
    replace hB := F12.blkO hB (by omega)
    replace hO := F12.blkO hO (by omega)
    replace hK := F12.blkO hK (by omega)
    replace hR := F12.blkO hR (by omega)
    replace hH := F12.blkO hH (by omega)
    replace hT := F12.blkO hT (by omega)
    refine wl_nil (x_then (hK1 _ _ ?_))
    clear hK1 K1
    refine forget [(0, _), (2, _), (6, _)] ⟨rfl, rfl, rfl, trivial⟩ (fun e => ?_)
    refine c_seq (fun K32 hK32 => ?_)
    have hxbn : ¬ bset B xb := by rintro (h | h | h | h) <;> omega
    refine c_reg ?_ -- region 1 build.go:112
    refine wl (ro_fieldAddr (k := 0) rfl fo_89_0) ?_
    refine wl (ro_loadB rfl sc_3 (by assumption) rfl) ?_
    refine wl_nil (x_then (hK32 _ _ ?_))
    clear hK32 K32
    refine c_block ?_
    refine forget [(0, _), (2, _), (6, _), (14, _)] ⟨rfl, rfl, rfl, rfl, trivial⟩ (fun e => ?_)
    refine c_seq (fun K33 hK33 => ?_)
    refine c_reg ?_ -- region 4 build.go:113
    refine wl (ro_cmp rfl rfl rfl) ?_
    refine wl (ro_assign rfl) ?_
    refine wl_nil (x_then (hK33 _ _ ?_))
    clear hK33 K33
    refine wc_condF rfl ?_
    refine c_seq (fun K34 hK34 => ?_)
    refine c_reg ?_ -- region 12 build.go:123
    refine wl (ro_cmp rfl rfl rfl) ?_
    refine wl (ro_assign rfl) ?_
    refine wl_nil (x_then (hK34 _ _ ?_))
    clear hK34 K34
    refine wc_condT rfl ?_
    refine c_seq (fun K35 hK35 => ?_)
    refine c_pi [(0, false), (1, false), (2, false), (3, false), (4, false), (5, false), (6, false), (7, false), (8, false)] (SameH _) mixed (by kernel_rfl) rfl (by kernel_rfl) (po_then (po_blk (po_bp))) (sameH_now _ _) ?_ -- region 13 build.go:124
    refine pi_ro rfl (fun w hS => ro_move rfl) ?_
    refine pi_ro rfl (fun w hS => ro_nilCheck rfl) ?_
    refine pi_ro rfl (fun w hS => ro_fieldAddr (k := 1) rfl fo_101_1) ?_
    refine pi_ro rfl (fun w hS => ro_loadB rfl sc_97 (Blk.of_heap hB hS) (rfl)) ?_
    refine pi_ro rfl (fun w hS => ro_fieldAddr (k := 1) rfl fo_89_1) ?_
    refine pi_ro rfl (fun w hS => ro_loadB rfl sc_3 (Blk.of_heap hX hS) (rfl)) ?_
    refine pi_ro rfl (fun w hS => ro_indexAddr (et := 3) (k := 1) rfl rfl se_97 (rfl) ((hlt hia))) ?_
    refine pi_ro rfl (fun w hS => ro_loadB rfl sc_3 (Blk.of_heap hH hS) (cel_at (by have := hlt hia; omega) (by omega) hs1)) ?_
    refine pi_ro rfl (fun w hS => ro_cmp (r := decide (shp a = 1)) rfl rfl (congrArg some (beqc (shp a) 1))) ?_
    refine pi_nil (x_then (hK35 _ _ ?_))
    clear hK35 K35
    refine wc_cond rfl (fun hc70 => ?_) (fun hc70 => ?_)
    · try simp only [decide_eq_true_eq, decide_eq_false_iff_not, Bool.not_eq_true', Bool.not_eq_false', Bool.not_eq_eq_eq_not, Bool.not_true, Bool.not_false, beq_iff_eq, bne_iff_ne, ne_eq, beq_eq_false_iff_ne, bne_eq_false_iff_eq, gt_iff_lt, ge_iff_le, Int.not_lt, Int.not_le] at hc70
      refine c_reg ?_ -- region 14 build.go:125
      refine wl (ro_move rfl) ?_
      refine wl (ro_fieldAddr (k := 2) rfl fo_89_2) ?_
      refine wl (ro_loadB rfl sc_3 (hX) (rfl)) ?_
      refine wl_call rfl en_102 (push102 (t := tkb b) D (V.re hB hO hK hR) hjb (tkok_b hwb (by omega))) ?_
      rintro _ w3 ⟨rfl, V3, F3⟩
      refine wl_nil (x_blk ?_)
      refine bp_end Tryz.results104 rfl ?_
      rw [hq] at *
      simp only [openB]
      (repeat' split) <;> first | omega | exact ⟨by trivial, V3, hF.transD F3⟩ | exact ⟨by trivial, V5, hF.transD F5⟩
    · try simp only [decide_eq_true_eq, decide_eq_false_iff_not, Bool.not_eq_true', Bool.not_eq_false', Bool.not_eq_eq_eq_not, Bool.not_true, Bool.not_false, beq_iff_eq, bne_iff_ne, ne_eq, beq_eq_false_iff_ne, bne_eq_false_iff_eq, gt_iff_lt, ge_iff_le, Int.not_lt, Int.not_le] at hc70
      refine c_seq (fun K36 hK36 => ?_)
      refine c_pi [(0, false), (1, false), (2, false), (3, false), (4, false), (5, false), (6, false), (7, false), (8, false)] (SameH _) mixed (by kernel_rfl) rfl (by kernel_rfl) (po_then (po_blk (po_bp))) (sameH_now _ _) ?_ -- region 15 build.go:126
      refine pi_ro rfl (fun w hS => ro_move rfl) ?_
      refine pi_ro rfl (fun w hS => ro_nilCheck rfl) ?_
      refine pi_ro rfl (fun w hS => ro_fieldAddr (k := 1) rfl fo_101_1) ?_
      refine pi_ro rfl (fun w hS => ro_loadB rfl sc_97 (Blk.of_heap hB hS) (rfl)) ?_
      refine pi_ro rfl (fun w hS => ro_fieldAddr (k := 2) rfl fo_89_2) ?_
      refine pi_ro rfl (fun w hS => ro_loadB rfl sc_3 (Blk.of_heap hX hS) (rfl)) ?_
      refine pi_ro rfl (fun w hS => ro_indexAddr (et := 3) (k := 1) rfl rfl se_97 (rfl) ((hlt hjb))) ?_
      refine pi_ro rfl (fun w hS => ro_loadB rfl sc_3 (Blk.of_heap hH hS) (cel_at (by have := hlt hjb; omega) (by omega) hs2)) ?_
      refine pi_ro rfl (fun w hS => ro_cmp (r := decide (shp b = 1)) rfl rfl (congrArg some (beqc (shp b) 1))) ?_
      refine pi_nil (x_then (hK36 _ _ ?_))
      clear hK36 K36
      refine wc_cond rfl (fun hc83 => ?_) (fun hc83 => ?_)
      · try simp only [decide_eq_true_eq, decide_eq_false_iff_not, Bool.not_eq_true', Bool.not_eq_false', Bool.not_eq_eq_eq_not, Bool.not_true, Bool.not_false, beq_iff_eq, bne_iff_ne, ne_eq, beq_eq_false_iff_ne, bne_eq_false_iff_eq, gt_iff_lt, ge_iff_le, Int.not_lt, Int.not_le] at hc83
        refine c_reg ?_ -- region 16 build.go:127
        refine wl (ro_move rfl) ?_
        refine wl (ro_fieldAddr (k := 1) rfl fo_89_1) ?_
        refine wl (ro_loadB rfl sc_3 (hX) (rfl)) ?_
        refine wl_call rfl en_102 (push102 (t := tkb a) D (V.re hB hO hK hR) hia (tkok_b hwa (by omega))) ?_
        rintro _ w3 ⟨rfl, V3, F3⟩
        refine wl_nil (x_blk ?_)
        refine bp_end Tryz.results104 rfl ?_
        rw [hq] at *
        simp only [openB]
        (repeat' split) <;> first | omega | exact ⟨by trivial, V3, hF.transD F3⟩ | exact ⟨by trivial, V5, hF.transD F5⟩
      · try simp only [decide_eq_true_eq, decide_eq_false_iff_not, Bool.not_eq_true', Bool.not_eq_false', Bool.not_eq_eq_eq_not, Bool.not_true, Bool.not_false, beq_iff_eq, bne_iff_ne, ne_eq, beq_eq_false_iff_ne, bne_eq_false_iff_eq, gt_iff_lt, ge_iff_le, Int.not_lt, Int.not_le] at hc83
        refine c_seq (fun K37 hK37 => ?_)
        refine c_reg ?_ -- region 17 build.go:129
        refine wl (ro_move rfl) ?_
        refine wl (ro_move rfl) ?_
        refine wl_call rfl en_102 (push102 (t := ⟨2, r, 0, -1⟩) D (V.re hB hO hK hR) hn (tkok_b hw (by omega))) ?_
        rintro _ w3 ⟨rfl, V3, F3⟩
        replace hX := F3.blkF hX hxbn
        replace hF := hF.transD F3
        clear hB hO hK hR
        obtain ⟨fo3, fw3, fr3, V3⟩ := V3
        have hB := V3.s
        have hO := V3.o
        have hK := V3.k
        have hR := V3.r
        refine wl_nil (x_then (hK37 _ _ ?_))
        clear hK37 K37
        refine forget [(0, _), (6, _)] ⟨rfl, rfl, trivial⟩ (fun e => ?_)
        refine c_seq (fun K38 hK38 => ?_)
        refine c_reg ?_ -- region 18 build.go:130
        refine wl (ro_move rfl) ?_
        refine wl (ro_fieldAddr (k := 2) rfl fo_89_2) ?_
        refine wl (ro_loadB rfl sc_3 (hX) (rfl)) ?_
        refine wl_call rfl en_102 (push102 (t := tkc b) D (V3.re hB hO hK hR) hjb (tkok_b hwb (by omega))) ?_
        rintro _ w4 ⟨rfl, V4, F4⟩
        replace hX := F4.blkF hX hxbn
        replace hF := hF.transD F4
        clear hB hO hK hR
        obtain ⟨fo4, fw4, fr4, V4⟩ := V4
        have hB := V4.s
        have hO := V4.o
        have hK := V4.k
        have hR := V4.r
        refine wl_nil (x_then (hK38 _ _ ?_))
        clear hK38 K38
        refine c_reg ?_ -- region 19 build.go:131
        refine wl (ro_move rfl) ?_
        refine wl (ro_fieldAddr (k := 1) rfl fo_89_1) ?_
        refine wl (ro_loadB rfl sc_3 (hX) (rfl)) ?_
        refine wl_call rfl en_102 (push102 (t := tkc a) D (V4.re hB hO hK hR) hia (tkok_b hwa (by omega))) ?_
        rintro _ w5 ⟨rfl, V5, F5⟩
        refine wl_nil (x_blk ?_)
        refine bp_end Tryz.results104 rfl ?_
        rw [hq] at *
        simp only [openB]
        (repeat' split) <;> first | omega | exact ⟨by trivial, V3, hF.transD F3⟩ | exact ⟨by trivial, V5, hF.transD F5⟩
  · skip
    have hwa : WF a := by rw [hq] at hw; exact hw.1
    refine c_reg ?_ -- region 0 build.go:111
    refine wl (ro_move rfl) ?_
    refine wl (ro_move rfl) ?_
    refine wl (ro_indexAddr (et := 89) (k := 11) rfl rfl se_98 (rfl) (hnT)) ?_
    refine wl (ro_loadAggB rfl ag_89 (hT) (rfl) (hld)) ?_
    refine wl_new (ze_89) (fun xb w13 hbxb hX F13 => ?_)
    have hbsxb := Nat.le_trans hF.size hbxb
    have hneB.sbxb : B.sb < xb := Nat.lt_of_lt_of_le hB.lt hbxb
    have hneB.obxb : B.ob < xb := Nat.lt_of_lt_of_le hO.lt hbxb
    have hneB.kbxb : B.kb < xb := Nat.lt_of_lt_of_le hK.lt hbxb
    have hneB.rbxb : B.rb < xb := Nat.lt_of_lt_of_le hR.lt hbxb
    have hneB.hbxb : B.hb < xb := Nat.lt_of_lt_of_le hH.lt hbxb
    have hnenbxb : nb < xb := Nat.lt_of_lt_of_le hT.lt hbxb
    replace hF := hF.thenDrew.thenN F13
    replace hB := F13.blkN hB
    replace hO := F13.blkN hO
    replace hK := F13.blkN hK
    replace hR := F13.blkN hR
    replace hH := F13.blkN hH
    replace hT := F13.blkN hT
    refine wl_puta rfl rfl (by simp [Value.oneCell', i64c, u64c, u8c, ptr]) sz_89 (rfl) hX ((by simp)) (rfl) (fun w14 hX F14 => ?_)
    replace hF := hF.thenDrew.thenO F14 (by first | exact .inr (by omega) | exact .inl rfl | exact .inl (by assumption))
    replace hB := F14.blkO hB (by omega)
    replace hO := F14.blkO hO (by omega)
    replace hK := F14.blkO hK (by omega)
    replace hR := F14.blkO hR (by omega)
    replace hH := F14.blkO hH (by omega)
    replace hT := F14.blkO hT (by omega)
    refine wl_nil (x_then (hK1 _ _ ?_))
    clear hK1 K1
    refine forget [(0, _), (2, _), (6, _)] ⟨rfl, rfl, rfl, trivial⟩ (fun e => ?_)
    refine c_seq (fun K39 hK39 => ?_)
    have hxbn : ¬ bset B xb := by rintro (h | h | h | h) <;> omega
    refine c_reg ?_ -- region 1 build.go:112
    refine wl (ro_fieldAddr (k := 0) rfl fo_89_0) ?_
    refine wl (ro_loadB rfl sc_3 (by assumption) rfl) ?_
    refine wl_nil (x_then (hK39 _ _ ?_))
    clear hK39 K39
    refine c_block ?_
    refine forget [(0, _), (2, _), (6, _), (14, _)] ⟨rfl, rfl, rfl, rfl, trivial⟩ (fun e => ?_)
    refine c_seq (fun K40 hK40 => ?_)
    refine c_reg ?_ -- region 4 build.go:113
    refine wl (ro_cmp rfl rfl rfl) ?_
    refine wl (ro_assign rfl) ?_
    refine wl_nil (x_then (hK40 _ _ ?_))
    clear hK40 K40
    refine wc_condF rfl ?_
    refine c_seq (fun K41 hK41 => ?_)
    refine c_reg ?_ -- region 12 build.go:123
    refine wl (ro_cmp rfl rfl rfl) ?_
    refine wl (ro_assign rfl) ?_
    refine wl_nil (x_then (hK41 _ _ ?_))
    clear hK41 K41
    refine wc_condF rfl ?_
    refine c_seq (fun K42 hK42 => ?_)
    refine c_reg ?_ -- region 20 build.go:133
    refine wl (ro_cmp rfl rfl rfl) ?_
    refine wl (ro_assign rfl) ?_
    refine wl_nil (x_then (hK42 _ _ ?_))
    clear hK42 K42
    refine wc_condF rfl ?_
    refine c_seq (fun K43 hK43 => ?_)
    refine c_reg ?_ -- region 23 build.go:136
    refine wl (ro_cmp rfl rfl rfl) ?_
    refine wl (ro_assign rfl) ?_
    refine wl_nil (x_then (hK43 _ _ ?_))
    clear hK43 K43
    refine wc_condT rfl ?_
    refine c_seq (fun K44 hK44 => ?_)
    refine c_reg ?_ -- region 24 build.go:137
    refine wl (ro_assign rfl) ?_
    refine wl_nil (x_then (hK44 _ _ ?_))
    clear hK44 K44
    refine c_seq (fun K45 hK45 => ?_)
    refine c_seq (fun K46 hK46 => ?_)
    obtain ⟨M, hM⟩ : ∃ M : Int, mxI (rmx x) = M := ⟨_, rfl⟩
    have hq25 : rmn x ≠ 0 ∨ (rmn x = 0 ∧ M ≤ 0) ∨ (rmn x = 0 ∧ 0 < M ∧ rlz x = false) ∨ (rmn x = 0 ∧ 0 < M ∧ rlz x = true) := by
      cases rlz x <;> simp <;> omega
    rw [hM] at hX
    rcases hq25 with q | q | q | q
    · skip
      have hz : lzE (rmn x) (rmx x) (rlz x) = false := by simp [lzE, q]
      refine c_reg ?_ -- region 25 build.go:138
      refine wl (ro_fieldAddr (k := 3) rfl fo_89_3) ?_
      refine wl (ro_loadB rfl sc_3 (hX) (rfl)) ?_
      refine wl (ro_cmp (r := false) rfl rfl (congrArg some ((beqc (rmn x) 0).trans (decide_eq_false (by omega))))) ?_
      refine wl (ro_move rfl) ?_
      refine wlg_no rfl ?_
      refine wlg_no rfl ?_
      refine wlg_no rfl ?_
      refine wl (ro_pick rfl rfl rfl) ?_
      refine wl (ro_move rfl) ?_
      refine wlg_no rfl ?_
      refine wlg_no rfl ?_
      refine wl (ro_pick rfl rfl rfl) ?_
      refine wl_nil (x_then (hK46 _ _ ?_))
      clear hK46 K46
      refine wc_condF rfl ?_
      refine c_skip (x_then (hK45 _ _ ?_))
      clear hK45 K45
      refine forget [(0, _), (2, _), (6, _), (7, _)] ⟨rfl, rfl, rfl, rfl, trivial⟩ (fun e => ?_)
      refine c_seq (fun K47 hK47 => ?_)
      refine c_reg ?_ -- region 27 build.go:141
      refine wl (ro_move rfl) ?_
      refine wl (ro_move rfl) ?_
      refine wl (ro_move rfl) ?_
      refine wl (ro_nilCheck rfl) ?_
      refine wl (ro_fieldAddr (k := 4) rfl fo_101_4) ?_
      refine wl (ro_loadB rfl sc_3 (hB) (rfl)) ?_
      refine wl (ro_move rfl) ?_
      refine wl_call rfl en_102 (push102 (t := ⟨4, r, σ.o.length, -1⟩) D (V.re hB hO hK hR) hn ⟨hw, by simp, Nat.le_refl _, by simp, by simp only; omega⟩) ?_
      rintro _ w3 ⟨rfl, V3, F3⟩
      replace hX := F3.blkF hX hxbn
      replace hF := hF.transD F3
      clear hB hO hK hR
      obtain ⟨fo3, fw3, fr3, V3⟩ := V3
      have hB := V3.s
      have hO := V3.o
      have hK := V3.k
      have hR := V3.r
      refine wl_nil (x_then (hK47 _ _ ?_))
      clear hK47 K47
      refine c_reg ?_ -- region 28 build.go:142
      refine wl (ro_move rfl) ?_
      refine wl (ro_fieldAddr (k := 1) rfl fo_89_1) ?_
      refine wl (ro_loadB rfl sc_3 (hX) (rfl)) ?_
      refine wl_call rfl en_102 (push102 (t := tkb a) D (V3.re hB hO hK hR) hia (tkok_b hwa (by omega))) ?_
      rintro _ w5 ⟨rfl, V5, F5⟩
      refine wl_nil (x_blk ?_)
      refine bp_end Tryz.results104 rfl ?_
      rw [hq] at *
      simp only [openB, hz, Bool.false_eq_true, if_false]; exact ⟨by trivial, V5, hF.transD F5⟩
    · skip
      have hz : lzE (rmn x) (rmx x) (rlz x) = false := by rw [lzE, hM]; simp; omega
      refine c_reg ?_ -- region 25 build.go:138
      refine wl (ro_fieldAddr (k := 3) rfl fo_89_3) ?_
      refine wl (ro_loadB rfl sc_3 (hX) (rfl)) ?_
      refine wl (ro_cmp (r := true) rfl rfl (congrArg some ((beqc (rmn x) 0).trans (decide_eq_true (by omega))))) ?_
      refine wl (ro_move rfl) ?_
      refine wlg_yes rfl (ro_fieldAddr (k := 4) rfl fo_89_4) ?_
      refine wlg_yes rfl (ro_loadB rfl sc_3 (hX) ((show _ = some (icv M) from rfl))) ?_
      refine wlg_yes rfl (ro_cmp (r := false) rfl rfl (congrArg some (decide_eq_false (by omega)))) ?_
      refine wl (ro_pick rfl rfl rfl) ?_
      refine wl (ro_move rfl) ?_
      refine wlg_no rfl ?_
      refine wlg_no rfl ?_
      refine wl (ro_pick rfl rfl rfl) ?_
      refine wl_nil (x_then (hK46 _ _ ?_))
      clear hK46 K46
      refine wc_condF rfl ?_
      refine c_skip (x_then (hK45 _ _ ?_))
      clear hK45 K45
      refine forget [(0, _), (2, _), (6, _), (7, _)] ⟨rfl, rfl, rfl, rfl, trivial⟩ (fun e => ?_)
      refine c_seq (fun K48 hK48 => ?_)
      refine c_reg ?_ -- region 27 build.go:141
      refine wl (ro_move rfl) ?_
      refine wl (ro_move rfl) ?_
      refine wl (ro_move rfl) ?_
      refine wl (ro_nilCheck rfl) ?_
      refine wl (ro_fieldAddr (k := 4) rfl fo_101_4) ?_
      refine wl (ro_loadB rfl sc_3 (hB) (rfl)) ?_
      refine wl (ro_move rfl) ?_
      refine wl_call rfl en_102 (push102 (t := ⟨4, r, σ.o.length, -1⟩) D (V.re hB hO hK hR) hn ⟨hw, by simp, Nat.le_refl _, by simp, by simp only; omega⟩) ?_
      rintro _ w3 ⟨rfl, V3, F3⟩
      replace hX := F3.blkF hX hxbn
      replace hF := hF.transD F3
      clear hB hO hK hR
      obtain ⟨fo3, fw3, fr3, V3⟩ := V3
      have hB := V3.s
      have hO := V3.o
      have hK := V3.k
      have hR := V3.r
      refine wl_nil (x_then (hK48 _ _ ?_))
      clear hK48 K48
      refine c_reg ?_ -- region 28 build.go:142
      refine wl (ro_move rfl) ?_
      refine wl (ro_fieldAddr (k := 1) rfl fo_89_1) ?_
      refine wl (ro_loadB rfl sc_3 (hX) (rfl)) ?_
      refine wl_call rfl en_102 (push102 (t := tkb a) D (V3.re hB hO hK hR) hia (tkok_b hwa (by omega))) ?_
      rintro _ w5 ⟨rfl, V5, F5⟩
      refine wl_nil (x_blk ?_)
      refine bp_end Tryz.results104 rfl ?_
      rw [hq] at *
      simp only [openB, hz, Bool.false_eq_true, if_false]; exact ⟨by trivial, V5, hF.transD F5⟩
    · skip
      have hz : lzE (rmn x) (rmx x) (rlz x) = false := by rw [lzE, q.2.2]; simp
      refine c_reg ?_ -- region 25 build.go:138
      refine wl (ro_fieldAddr (k := 3) rfl fo_89_3) ?_
      refine wl (ro_loadB rfl sc_3 (hX) (rfl)) ?_
      refine wl (ro_cmp (r := true) rfl rfl (congrArg some ((beqc (rmn x) 0).trans (decide_eq_true (by omega))))) ?_
      refine wl (ro_move rfl) ?_
      refine wlg_yes rfl (ro_fieldAddr (k := 4) rfl fo_89_4) ?_
      refine wlg_yes rfl (ro_loadB rfl sc_3 (hX) ((show _ = some (icv M) from rfl))) ?_
      refine wlg_yes rfl (ro_cmp (r := true) rfl rfl (congrArg some (decide_eq_true (by omega)))) ?_
      refine wl (ro_pick rfl rfl rfl) ?_
      refine wl (ro_move rfl) ?_
      refine wlg_yes rfl (ro_fieldAddr (k := 6) rfl fo_89_6) ?_
      refine wlg_yes rfl (ro_loadB rfl sc_4 (hX) ((congrArg (fun b => some (Value.bool b)) q.2.2))) ?_
      refine wl (ro_pick rfl rfl rfl) ?_
      refine wl_nil (x_then (hK46 _ _ ?_))
      clear hK46 K46
      refine wc_condF rfl ?_
      refine c_skip (x_then (hK45 _ _ ?_))
      clear hK45 K45
      refine forget [(0, _), (2, _), (6, _), (7, _)] ⟨rfl, rfl, rfl, rfl, trivial⟩ (fun e => ?_)
      refine c_seq (fun K49 hK49 => ?_)
      refine c_reg ?_ -- region 27 build.go:141
      refine wl (ro_move rfl) ?_
      refine wl (ro_move rfl) ?_
      refine wl (ro_move rfl) ?_
      refine wl (ro_nilCheck rfl) ?_
      refine wl (ro_fieldAddr (k := 4) rfl fo_101_4) ?_
      refine wl (ro_loadB rfl sc_3 (hB) (rfl)) ?_
      refine wl (ro_move rfl) ?_
      refine wl_call rfl en_102 (push102 (t := ⟨4, r, σ.o.length, -1⟩) D (V.re hB hO hK hR) hn ⟨hw, by simp, Nat.le_refl _, by simp, by simp only; omega⟩) ?_
      rintro _ w3 ⟨rfl, V3, F3⟩
      replace hX := F3.blkF hX hxbn
      replace hF := hF.transD F3
      clear hB hO hK hR
      obtain ⟨fo3, fw3, fr3, V3⟩ := V3
      have hB := V3.s
      have hO := V3.o
      have hK := V3.k
      have hR := V3.r
      refine wl_nil (x_then (hK49 _ _ ?_))
      clear hK49 K49
      refine c_reg ?_ -- region 28 build.go:142
      refine wl (ro_move rfl) ?_
      refine wl (ro_fieldAddr (k := 1) rfl fo_89_1) ?_
      refine wl (ro_loadB rfl sc_3 (hX) (rfl)) ?_
      refine wl_call rfl en_102 (push102 (t := tkb a) D (V3.re hB hO hK hR) hia (tkok_b hwa (by omega))) ?_
      rintro _ w5 ⟨rfl, V5, F5⟩
      refine wl_nil (x_blk ?_)
      refine bp_end Tryz.results104 rfl ?_
      rw [hq] at *
      simp only [openB, hz, Bool.false_eq_true, if_false]; exact ⟨by trivial, V5, hF.transD F5⟩
    · skip
      have hz : lzE (rmn x) (rmx x) (rlz x) = true := by rw [lzE, hM, q.2.2]; simp; omega
      refine c_reg ?_ -- region 25 build.go:138
      refine wl (ro_fieldAddr (k := 3) rfl fo_89_3) ?_
      refine wl (ro_loadB rfl sc_3 (hX) (rfl)) ?_
      refine wl (ro_cmp (r := true) rfl rfl (congrArg some ((beqc (rmn x) 0).trans (decide_eq_true (by omega))))) ?_
      refine wl (ro_move rfl) ?_
      refine wlg_yes rfl (ro_fieldAddr (k := 4) rfl fo_89_4) ?_
      refine wlg_yes rfl (ro_loadB rfl sc_3 (hX) ((show _ = some (icv M) from rfl))) ?_
      refine wlg_yes rfl (ro_cmp (r := true) rfl rfl (congrArg some (decide_eq_true (by omega)))) ?_
      refine wl (ro_pick rfl rfl rfl) ?_
      refine wl (ro_move rfl) ?_
      refine wlg_yes rfl (ro_fieldAddr (k := 6) rfl fo_89_6) ?_
      refine wlg_yes rfl (ro_loadB rfl sc_4 (hX) ((congrArg (fun b => some (Value.bool b)) q.2.2))) ?_
      refine wl (ro_pick rfl rfl rfl) ?_
      refine wl_nil (x_then (hK46 _ _ ?_))
      clear hK46 K46
      refine wc_condT rfl ?_
      refine c_reg ?_ -- region 26 build.go:139
      refine wl (ro_move rfl) ?_
      refine wl_call rfl en_106 (node106 (k := 0) D (V.re hB hO hK hR) (fun _ ↦ okx_no)) ?_
      rintro _ w6 ⟨rfl, V6, F6⟩
      replace hX := F6.blkF hX hxbn
      replace hF := hF.transD F6
      clear hB hO hK hR
      obtain ⟨fo6, fw6, fr6, V6⟩ := V6
      have hB := V6.s
      have hO := V6.o
      have hK := V6.k
      have hR := V6.r
      refine wl (ro_assign rfl) ?_
      refine wl_nil (x_then (hK45 _ _ ?_))
      clear hK45 K45
      refine forget [(0, _), (2, _), (6, _), (7, _)] ⟨rfl, rfl, rfl, rfl, trivial⟩ (fun e => ?_)
      refine c_seq (fun K50 hK50 => ?_)
      refine c_reg ?_ -- region 27 build.go:141
      refine wl (ro_move rfl) ?_
      refine wl (ro_move rfl) ?_
      refine wl (ro_move rfl) ?_
      refine wl (ro_nilCheck rfl) ?_
      refine wl (ro_fieldAddr (k := 4) rfl fo_101_4) ?_
      refine wl (ro_loadB rfl sc_3 (hB) (rfl)) ?_
      refine wl (ro_move rfl) ?_
      refine wl_call rfl en_102 (push102 (t := ⟨4, r, (addB σ.o (nd 0 (-1) (-1))).length, top (addB σ.o (nd 0 (-1) (-1)))⟩) D (V6.re hB hO hK hR) hn ⟨hw, by simp, Nat.le_refl _, (top_ge _).1, (top_ge _).2⟩) ?_
      rintro _ w3 ⟨rfl, V3, F3⟩
      replace hX := F3.blkF hX hxbn
      replace hF := hF.transD F3
      clear hB hO hK hR
      obtain ⟨fo3, fw3, fr3, V3⟩ := V3
      have hB := V3.s
      have hO := V3.o
      have hK := V3.k
      have hR := V3.r
      refine wl_nil (x_then (hK50 _ _ ?_))
      clear hK50 K50
      refine c_reg ?_ -- region 28 build.go:142
      refine wl (ro_move rfl) ?_
      refine wl (ro_fieldAddr (k := 1) rfl fo_89_1) ?_
      refine wl (ro_loadB rfl sc_3 (hX) (rfl)) ?_
      refine wl_call rfl en_102 (push102 (t := tkb a) D (V3.re hB hO hK hR) hia (tkok_b hwa (by omega))) ?_
      rintro _ w5 ⟨rfl, V5, F5⟩
      refine wl_nil (x_blk ?_)
      refine bp_end Tryz.results104 rfl ?_
      rw [hq] at *
      simp only [openB, hz, if_true]; exact ⟨by trivial, V5, hF.transD F5⟩
  · skip
    have hwa : WF a := by rw [hq] at hw; exact hw.1
    refine c_reg ?_ -- region 0 build.go:111
    refine wl (ro_move rfl) ?_
    refine wl (ro_move rfl) ?_
    refine wl (ro_indexAddr (et := 89) (k := 11) rfl rfl se_98 (rfl) (hnT)) ?_
    refine wl (ro_loadAggB rfl ag_89 (hT) (rfl) (hld)) ?_
    refine wl_new (ze_89) (fun xb w15 hbxb hX F15 => ?_)
    have hbsxb := Nat.le_trans hF.size hbxb
    have hneB.sbxb : B.sb < xb := Nat.lt_of_lt_of_le hB.lt hbxb
    have hneB.obxb : B.ob < xb := Nat.lt_of_lt_of_le hO.lt hbxb
    have hneB.kbxb : B.kb < xb := Nat.lt_of_lt_of_le hK.lt hbxb
    have hneB.rbxb : B.rb < xb := Nat.lt_of_lt_of_le hR.lt hbxb
    have hneB.hbxb : B.hb < xb := Nat.lt_of_lt_of_le hH.lt hbxb
    have hnenbxb : nb < xb := Nat.lt_of_lt_of_le hT.lt hbxb
    replace hF := hF.thenDrew.thenN F15
    replace hB := F15.blkN hB
    replace hO := F15.blkN hO
    replace hK := F15.blkN hK
    replace hR := F15.blkN hR
    replace hH := F15.blkN hH
    replace hT := F15.blkN hT
    refine wl_puta rfl rfl (by simp [Value.oneCell', i64c, u64c, u8c, ptr]) sz_89 (rfl) hX ((by simp)) (rfl) (fun w16 hX F16 => ?_)
    replace hF := hF.thenDrew.thenO F16 (by first | exact .inr (by omega) | exact .inl rfl | exact .inl (by assumption))
    replace hB := F16.blkO hB (by omega)
    replace hO := F16.blkO hO (by omega)
    replace hK := F16.blkO hK (by omega)
    replace hR := F16.blkO hR (by omega)
    replace hH := F16.blkO hH (by omega)
    replace hT := F16.blkO hT (by omega)
    refine wl_nil (x_then (hK1 _ _ ?_))
    clear hK1 K1
    refine forget [(0, _), (2, _), (6, _)] ⟨rfl, rfl, rfl, trivial⟩ (fun e => ?_)
    refine c_seq (fun K51 hK51 => ?_)
    have hxbn : ¬ bset B xb := by rintro (h | h | h | h) <;> omega
    refine c_reg ?_ -- region 1 build.go:112
    refine wl (ro_fieldAddr (k := 0) rfl fo_89_0) ?_
    refine wl (ro_loadB rfl sc_3 (by assumption) rfl) ?_
    refine wl_nil (x_then (hK51 _ _ ?_))
    clear hK51 K51
    refine c_block ?_
    refine forget [(0, _), (2, _), (6, _), (14, _)] ⟨rfl, rfl, rfl, rfl, trivial⟩ (fun e => ?_)
    refine c_seq (fun K52 hK52 => ?_)
    refine c_reg ?_ -- region 4 build.go:113
    refine wl (ro_cmp rfl rfl rfl) ?_
    refine wl (ro_assign rfl) ?_
    refine wl_nil (x_then (hK52 _ _ ?_))
    clear hK52 K52
    refine wc_condF rfl ?_
    refine c_seq (fun K53 hK53 => ?_)
    refine c_reg ?_ -- region 12 build.go:123
    refine wl (ro_cmp rfl rfl rfl) ?_
    refine wl (ro_assign rfl) ?_
    refine wl_nil (x_then (hK53 _ _ ?_))
    clear hK53 K53
    refine wc_condF rfl ?_
    refine c_seq (fun K54 hK54 => ?_)
    refine c_reg ?_ -- region 20 build.go:133
    refine wl (ro_cmp rfl rfl rfl) ?_
    refine wl (ro_assign rfl) ?_
    refine wl_nil (x_then (hK54 _ _ ?_))
    clear hK54 K54
    refine wc_condT rfl ?_
    refine c_seq (fun K55 hK55 => ?_)
    refine c_reg ?_ -- region 21 build.go:134
    refine wl (ro_move rfl) ?_
    refine wl (ro_move rfl) ?_
    refine wl_call rfl en_102 (push102 (t := ⟨3, r, 0, -1⟩) D (V.re hB hO hK hR) hn (tkok_b hw (by omega))) ?_
    rintro _ w3 ⟨rfl, V3, F3⟩
    replace hX := F3.blkF hX hxbn
    replace hF := hF.transD F3
    clear hB hO hK hR
    obtain ⟨fo3, fw3, fr3, V3⟩ := V3
    have hB := V3.s
    have hO := V3.o
    have hK := V3.k
    have hR := V3.r
    refine wl_nil (x_then (hK55 _ _ ?_))
    clear hK55 K55
    refine c_reg ?_ -- region 22 build.go:135
    refine wl (ro_move rfl) ?_
    refine wl (ro_fieldAddr (k := 1) rfl fo_89_1) ?_
    refine wl (ro_loadB rfl sc_3 (hX) (rfl)) ?_
    refine wl_call rfl en_102 (push102 (t := tkc a) D (V3.re hB hO hK hR) hia (tkok_b hwa (by omega))) ?_
    rintro _ w5 ⟨rfl, V5, F5⟩
    refine wl_nil (x_blk ?_)
    refine bp_end Tryz.results104 rfl ?_
    rw [hq] at *
    exact ⟨by trivial, V5, hF.transD F5⟩

end Go.Proofs.Qxb6500567aGreat
