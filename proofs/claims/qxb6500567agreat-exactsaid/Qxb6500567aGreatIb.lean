import Derived.Test.Qxb6500567aGreatIa
/- The compiler: node, step. -/
namespace Go.Proofs.Qxb6500567aGreat
set_option linter.unusedVariables false
set_option linter.unusedSimpArgs false

theorem CWV.framX {w w' : World} {cb nb nc n0 x t : Nat} {l : List Value} {T : List RE} {c : Nat → Value} {σ : CS} (h : CWV w cb nb nc n0 T c σ) (f : Fram (one x) w w') (hx : Blk w.heap x l t) (ht : t ≠ 168 ∧ t ≠ 175 ∧ t ≠ 171) (hn : nb ≠ x) : CWV w' cb nb nc n0 T c σ := by
  obtain ⟨VC, VW, Q, V⟩ := h
  refine ⟨VC, VW, Q, V.blk.framO f (fun h => ?_), V.code.fram f (fun b hb h => V.code.neblk hx (by omega) b hb h), V.todo.fram f (fun b hb h => V.todo.neblk hx (by omega) b hb h), V.ql, V.qv, V.hT.framO f hn, V.nlo, V.clo, V.vlo, V.wlo, V.cl, V.wl, V.wt, V.np1, V.np2, V.np3, Nat.lt_of_lt_of_le V.np4 f.size⟩
  subst h
  exact ht.1 (V.blk.uniq hx).2.symm
theorem ckc0 {T : List RE} {i : Nat} {a : RE} (h : T[i]? = some a) : CkC T (ckn a) (0, i, 0) := ⟨rfl, by simp, fun _ => h, fun h => absurd rfl h, fun h => by simp at h, fun h => by simp at h⟩
theorem ckc1 {T : List RE} {x j : Nat} {b : RE} (h : T[j]? = some b) : CkC T ⟨1, x, b, 0⟩ (1, x, j) := ⟨rfl, by simp, fun h => by simp at h, fun _ => rfl, fun _ => h, fun h => by simp at h⟩
theorem ckc2 {T : List RE} {x : Nat} : CkC T ⟨2, x, .skip, 0⟩ (2, x, 0) := ⟨rfl, by simp, fun h => by simp at h, fun _ => rfl, fun h => by simp at h, fun h => by simp at h⟩
theorem ckc3 {T : List RE} {x z : Nat} : CkC T ⟨3, x, .skip, z⟩ (3, x, z) := ⟨rfl, by simp, fun h => by simp at h, fun _ => rfl, fun h => by simp at h, fun _ => rfl⟩
theorem ckc4 {T : List RE} {x : Nat} : CkC T ⟨4, x, .skip, 0⟩ (4, x, 0) := ⟨rfl, by simp, fun h => by simp at h, fun _ => rfl, fun h => by simp at h, fun h => by simp at h⟩

theorem wd00' : [u64c (wd 0 0), u64c (wd 0 1), u64c (wd 0 2), u64c (wd 0 3)] = [.int .u64 0, .int .u64 0, .int .u64 0, .int .u64 0] := by rw [← wd00, ← wd00, ← wd00, ← wd00]

/-- An instruction without a set. -/
theorem lay75' {w : World} {cb nb nc n0 : Nat} {T : List RE} {c : Nat → Value} {σ : CS} {op : Nat} {x y : Int} (V : CWV w cb nb nc n0 T c σ) (hcl : σ.C.length < 1000) :
    Ret Tryz.prog 75 [ptr cb, .agg #[.int .i64 op, .int .i64 x, .int .i64 y, .int .u64 0, .int .u64 0, .int .u64 0, .int .u64 0]] w (fun v w' => v = i64c σ.C.length ∧ CWV w' cb nb nc n0 T c { σ with C := σ.C ++ [⟨op, x, y, 0⟩] } ∧ Fram (cfs n0 nc w) w w') := by
  have := lay75 (x := ⟨op, x, y, 0⟩) V hcl
  simp only [ric, ← wd00] at this
  exact this

theorem upI_last (f : RI → RI) (C : List RI) (x : RI) : upI f (C ++ [x]) C.length = C ++ [f x] := upI_at f x [] C

set_option maxHeartbeats 4000000 in
theorem node110 {w : World} {cb nb nc n0 k : Nat} {T : List RE} {c : Nat → Value} {σ : CS} {r : RE} (V : CWV w cb nb nc n0 T c σ) (hAR : AR T c 0) (hk : T[k]? = some r) (hgs : ∀ (k g : Nat) (a : RE), T[k]? = some (.block g a) → g ≤ 1000) (hcl : σ.C.length < 900) (hwl : σ.W.length < 900) :
    Ret Tryz.prog 110 [ptr cb, i64c k] w (fun v w' => v = .tuple #[] ∧ CWV w' cb nb nc n0 T c (nodeC r σ) ∧ Fram (cfs n0 nc w) w w') := by
  have hF : Fram (cfs n0 nc w) w w := Fram.refl _ _
  obtain ⟨VC0, VW0, Q0, V0⟩ := id V
  have hB := V0.blk
  have hT := V0.hT
  have hN := hAR k r hk
  have hkl := (List.getElem?_eq_some_iff.1 hk).1
  have hTb := V0.nlo
  generalize hcs : cel 11 (fun j => c (0 + 11 * k + j)) = cs at hN
  have hld := nd_load (cap := T.length) (k := k) (by omega) hcs
  refine ret_of Tryz.func110 rfl Tryz.ntmps110 rfl ?_
  refine c_seq (fun K1 hK1 => ?_)
  refine c_seq (fun K2 hK2 => ?_)
  rcases hN.kinds with ⟨hq, rfl⟩ | ⟨Z, hq, rfl⟩ | ⟨hq, rfl⟩ | ⟨l, hq, rfl⟩ | ⟨a, b, i, j, hq, hi, hj, hia, hjb, rfl⟩ | ⟨o, a, b, i, j, hq, hi, hj, hia, hjb, rfl⟩ | ⟨ff, ps, x, a, i, hq, hi, hia, hcn, rfl⟩ | ⟨g, a, i, hq, hi, hia, rfl⟩
  · skip
    refine c_reg ?_ -- region 0 compile.go:50
    refine wl (ro_move rfl) ?_
    refine wl (ro_cmp (r := false) rfl rfl (congrArg some (decide_eq_false (by omega)))) ?_
    refine wl (ro_move rfl) ?_
    refine wlg_yes rfl (ro_move rfl) ?_
    refine wlg_yes rfl (ro_move rfl) ?_
    refine wlg_yes rfl (ro_nilCheck rfl) ?_
    refine wlg_yes rfl (ro_fieldAddr (k := 0) rfl fo_168_0) ?_
    refine wlg_yes rfl (ro_loadB rfl sc_98 (hB) (rfl)) ?_
    refine wlg_yes rfl (ro_lenL rfl se_98) ?_
    refine wlg_yes rfl (ro_cmp (r := false) rfl rfl (congrArg some (decide_eq_false (by omega)))) ?_
    refine wl (ro_pick rfl rfl rfl) ?_
    refine wl_nil (x_then (hK2 _ _ ?_))
    clear hK2 K2
    refine wc_condF rfl ?_
    refine c_skip (x_then (hK1 _ _ ?_))
    clear hK1 K1
    refine forget [(0, _), (1, _)] ⟨rfl, rfl, trivial⟩ (fun e => ?_)
    refine c_seq (fun K3 hK3 => ?_)
    refine c_reg ?_ -- region 1 compile.go:53
    refine wl (ro_move rfl) ?_
    refine wl (ro_nilCheck rfl) ?_
    refine wl (ro_fieldAddr (k := 0) rfl fo_168_0) ?_
    refine wl (ro_loadB rfl sc_98 (hB) (rfl)) ?_
    refine wl (ro_move rfl) ?_
    refine wl (ro_indexAddr (et := 89) (k := 11) rfl rfl se_98 (rfl) (hkl)) ?_
    refine wl (ro_loadAggB rfl ag_89 (hT) (rfl) (hld)) ?_
    refine wl_new (ze_89) (fun xb w1 hbxb hX F1 => ?_)
    have hnecbxb : cb < xb := Nat.lt_of_lt_of_le hB.lt hbxb
    have hnenbxb : nb < xb := Nat.lt_of_lt_of_le hT.lt hbxb
    replace hB := F1.blkN hB
    replace hT := F1.blkN hT
    replace V := V.framN F1
    replace hF := hF.thenN F1
    have hX0 := hX
    refine wl_puta rfl rfl (by simp [Value.oneCell', i64c, u64c, u8c, ptr]) sz_89 (rfl) hX ((by simp)) (rfl) (fun w2 hX F2 => ?_)
    replace hB := F2.blkO hB (by omega)
    replace hT := F2.blkO hT (by omega)
    replace V := V.framX F2 hX0 (by decide) (by omega)
    replace hF := hF.thenO F2 (.inr (by have := Nat.le_of_lt V0.blk.lt; omega))
    clear hB hT
    refine wl_nil (x_then (hK3 _ _ ?_))
    clear hK3 K3
    refine forget [(0, _), (4, _)] ⟨rfl, rfl, trivial⟩ (fun e => ?_)
    refine c_seq (fun K4 hK4 => ?_)
    refine c_reg ?_ -- region 2 compile.go:54
    refine wl (ro_fieldAddr (k := 0) rfl fo_89_0) ?_
    refine wl (ro_loadB rfl sc_3 (hX) (rfl)) ?_
    refine wl_nil (x_then (hK4 _ _ ?_))
    clear hK4 K4
    refine c_block ?_
    refine forget [(0, _), (4, _), (27, _)] ⟨rfl, rfl, rfl, trivial⟩ (fun e => ?_)
    refine c_seq (fun K5 hK5 => ?_)
    refine c_reg ?_ -- region 3 compile.go:55
    refine wl (ro_cmp rfl rfl rfl) ?_
    refine wl (ro_assign rfl) ?_
    refine wl_nil (x_then (hK5 _ _ ?_))
    clear hK5 K5
    refine wc_condF rfl ?_
    refine c_seq (fun K6 hK6 => ?_)
    refine c_reg ?_ -- region 5 compile.go:57
    refine wl (ro_cmp rfl rfl rfl) ?_
    refine wl (ro_assign rfl) ?_
    refine wl_nil (x_then (hK6 _ _ ?_))
    clear hK6 K6
    refine wc_condF rfl ?_
    refine c_seq (fun K7 hK7 => ?_)
    refine c_reg ?_ -- region 7 compile.go:59
    refine wl (ro_cmp rfl rfl rfl) ?_
    refine wl (ro_assign rfl) ?_
    refine wl_nil (x_then (hK7 _ _ ?_))
    clear hK7 K7
    refine wc_condF rfl ?_
    refine c_seq (fun K8 hK8 => ?_)
    refine c_reg ?_ -- region 9 compile.go:61
    refine wl (ro_cmp rfl rfl rfl) ?_
    refine wl (ro_assign rfl) ?_
    refine wl_nil (x_then (hK8 _ _ ?_))
    clear hK8 K8
    refine wc_condF rfl ?_
    refine c_seq (fun K9 hK9 => ?_)
    refine c_reg ?_ -- region 12 compile.go:64
    refine wl (ro_cmp rfl rfl rfl) ?_
    refine wl (ro_assign rfl) ?_
    refine wl_nil (x_then (hK9 _ _ ?_))
    clear hK9 K9
    refine wc_condF rfl ?_
    refine c_seq (fun K10 hK10 => ?_)
    refine c_reg ?_ -- region 17 compile.go:69
    refine wl (ro_cmp rfl rfl rfl) ?_
    refine wl (ro_assign rfl) ?_
    refine wl_nil (x_then (hK10 _ _ ?_))
    clear hK10 K10
    refine wc_condF rfl ?_
    refine c_seq (fun K11 hK11 => ?_)
    refine c_reg ?_ -- region 26 compile.go:80
    refine wl (ro_cmp rfl rfl rfl) ?_
    refine wl (ro_assign rfl) ?_
    refine wl_nil (x_then (hK11 _ _ ?_))
    clear hK11 K11
    refine wc_condF rfl ?_
    refine c_skip (x_blk ?_)
    refine bp_end Tryz.results110 rfl ?_
    rw [hq]; exact ⟨rfl, V, hF⟩
  · skip
    refine c_reg ?_ -- region 0 compile.go:50
    refine wl (ro_move rfl) ?_
    refine wl (ro_cmp (r := false) rfl rfl (congrArg some (decide_eq_false (by omega)))) ?_
    refine wl (ro_move rfl) ?_
    refine wlg_yes rfl (ro_move rfl) ?_
    refine wlg_yes rfl (ro_move rfl) ?_
    refine wlg_yes rfl (ro_nilCheck rfl) ?_
    refine wlg_yes rfl (ro_fieldAddr (k := 0) rfl fo_168_0) ?_
    refine wlg_yes rfl (ro_loadB rfl sc_98 (hB) (rfl)) ?_
    refine wlg_yes rfl (ro_lenL rfl se_98) ?_
    refine wlg_yes rfl (ro_cmp (r := false) rfl rfl (congrArg some (decide_eq_false (by omega)))) ?_
    refine wl (ro_pick rfl rfl rfl) ?_
    refine wl_nil (x_then (hK2 _ _ ?_))
    clear hK2 K2
    refine wc_condF rfl ?_
    refine c_skip (x_then (hK1 _ _ ?_))
    clear hK1 K1
    refine forget [(0, _), (1, _)] ⟨rfl, rfl, trivial⟩ (fun e => ?_)
    refine c_seq (fun K12 hK12 => ?_)
    refine c_reg ?_ -- region 1 compile.go:53
    refine wl (ro_move rfl) ?_
    refine wl (ro_nilCheck rfl) ?_
    refine wl (ro_fieldAddr (k := 0) rfl fo_168_0) ?_
    refine wl (ro_loadB rfl sc_98 (hB) (rfl)) ?_
    refine wl (ro_move rfl) ?_
    refine wl (ro_indexAddr (et := 89) (k := 11) rfl rfl se_98 (rfl) (hkl)) ?_
    refine wl (ro_loadAggB rfl ag_89 (hT) (rfl) (hld)) ?_
    refine wl_new (ze_89) (fun xb w3 hbxb hX F3 => ?_)
    have hnecbxb : cb < xb := Nat.lt_of_lt_of_le hB.lt hbxb
    have hnenbxb : nb < xb := Nat.lt_of_lt_of_le hT.lt hbxb
    replace hB := F3.blkN hB
    replace hT := F3.blkN hT
    replace V := V.framN F3
    replace hF := hF.thenN F3
    have hX0 := hX
    refine wl_puta rfl rfl (by simp [Value.oneCell', i64c, u64c, u8c, ptr]) sz_89 (rfl) hX ((by simp)) (rfl) (fun w4 hX F4 => ?_)
    replace hB := F4.blkO hB (by omega)
    replace hT := F4.blkO hT (by omega)
    replace V := V.framX F4 hX0 (by decide) (by omega)
    replace hF := hF.thenO F4 (.inr (by have := Nat.le_of_lt V0.blk.lt; omega))
    clear hB hT
    refine wl_nil (x_then (hK12 _ _ ?_))
    clear hK12 K12
    refine forget [(0, _), (4, _)] ⟨rfl, rfl, trivial⟩ (fun e => ?_)
    refine c_seq (fun K13 hK13 => ?_)
    refine c_reg ?_ -- region 2 compile.go:54
    refine wl (ro_fieldAddr (k := 0) rfl fo_89_0) ?_
    refine wl (ro_loadB rfl sc_3 (hX) (rfl)) ?_
    refine wl_nil (x_then (hK13 _ _ ?_))
    clear hK13 K13
    refine c_block ?_
    refine forget [(0, _), (4, _), (27, _)] ⟨rfl, rfl, rfl, trivial⟩ (fun e => ?_)
    refine c_seq (fun K14 hK14 => ?_)
    refine c_reg ?_ -- region 3 compile.go:55
    refine wl (ro_cmp rfl rfl rfl) ?_
    refine wl (ro_assign rfl) ?_
    refine wl_nil (x_then (hK14 _ _ ?_))
    clear hK14 K14
    refine wc_condT rfl ?_
    refine c_reg ?_ -- region 4 compile.go:56
    refine wl (ro_move rfl) ?_
    refine wl (ro_fieldAddr (k := 7) rfl fo_89_7) ?_
    refine wl (ro_loadAggB rfl ag_87 (hX) (rfl) (rfl)) ?_
    refine wl (ro_build rfl bld_175_0_3) ?_
    refine wl_call rfl en_75 (lay75 (x := ⟨0, 0, 0, Z⟩) V (by omega)) ?_
    rintro _ w3 ⟨rfl, V3, F3⟩
    refine wl_nil (x_blk ?_)
    refine bp_end Tryz.results110 rfl ?_
    rw [hq]; exact ⟨rfl, V3, hF.transT F3⟩
  · skip
    refine c_reg ?_ -- region 0 compile.go:50
    refine wl (ro_move rfl) ?_
    refine wl (ro_cmp (r := false) rfl rfl (congrArg some (decide_eq_false (by omega)))) ?_
    refine wl (ro_move rfl) ?_
    refine wlg_yes rfl (ro_move rfl) ?_
    refine wlg_yes rfl (ro_move rfl) ?_
    refine wlg_yes rfl (ro_nilCheck rfl) ?_
    refine wlg_yes rfl (ro_fieldAddr (k := 0) rfl fo_168_0) ?_
    refine wlg_yes rfl (ro_loadB rfl sc_98 (hB) (rfl)) ?_
    refine wlg_yes rfl (ro_lenL rfl se_98) ?_
    refine wlg_yes rfl (ro_cmp (r := false) rfl rfl (congrArg some (decide_eq_false (by omega)))) ?_
    refine wl (ro_pick rfl rfl rfl) ?_
    refine wl_nil (x_then (hK2 _ _ ?_))
    clear hK2 K2
    refine wc_condF rfl ?_
    refine c_skip (x_then (hK1 _ _ ?_))
    clear hK1 K1
    refine forget [(0, _), (1, _)] ⟨rfl, rfl, trivial⟩ (fun e => ?_)
    refine c_seq (fun K15 hK15 => ?_)
    refine c_reg ?_ -- region 1 compile.go:53
    refine wl (ro_move rfl) ?_
    refine wl (ro_nilCheck rfl) ?_
    refine wl (ro_fieldAddr (k := 0) rfl fo_168_0) ?_
    refine wl (ro_loadB rfl sc_98 (hB) (rfl)) ?_
    refine wl (ro_move rfl) ?_
    refine wl (ro_indexAddr (et := 89) (k := 11) rfl rfl se_98 (rfl) (hkl)) ?_
    refine wl (ro_loadAggB rfl ag_89 (hT) (rfl) (hld)) ?_
    refine wl_new (ze_89) (fun xb w5 hbxb hX F5 => ?_)
    have hnecbxb : cb < xb := Nat.lt_of_lt_of_le hB.lt hbxb
    have hnenbxb : nb < xb := Nat.lt_of_lt_of_le hT.lt hbxb
    replace hB := F5.blkN hB
    replace hT := F5.blkN hT
    replace V := V.framN F5
    replace hF := hF.thenN F5
    have hX0 := hX
    refine wl_puta rfl rfl (by simp [Value.oneCell', i64c, u64c, u8c, ptr]) sz_89 (rfl) hX ((by simp)) (rfl) (fun w6 hX F6 => ?_)
    replace hB := F6.blkO hB (by omega)
    replace hT := F6.blkO hT (by omega)
    replace V := V.framX F6 hX0 (by decide) (by omega)
    replace hF := hF.thenO F6 (.inr (by have := Nat.le_of_lt V0.blk.lt; omega))
    clear hB hT
    refine wl_nil (x_then (hK15 _ _ ?_))
    clear hK15 K15
    refine forget [(0, _), (4, _)] ⟨rfl, rfl, trivial⟩ (fun e => ?_)
    refine c_seq (fun K16 hK16 => ?_)
    refine c_reg ?_ -- region 2 compile.go:54
    refine wl (ro_fieldAddr (k := 0) rfl fo_89_0) ?_
    refine wl (ro_loadB rfl sc_3 (hX) (rfl)) ?_
    refine wl_nil (x_then (hK16 _ _ ?_))
    clear hK16 K16
    refine c_block ?_
    refine forget [(0, _), (4, _), (27, _)] ⟨rfl, rfl, rfl, trivial⟩ (fun e => ?_)
    refine c_seq (fun K17 hK17 => ?_)
    refine c_reg ?_ -- region 3 compile.go:55
    refine wl (ro_cmp rfl rfl rfl) ?_
    refine wl (ro_assign rfl) ?_
    refine wl_nil (x_then (hK17 _ _ ?_))
    clear hK17 K17
    refine wc_condF rfl ?_
    refine c_seq (fun K18 hK18 => ?_)
    refine c_reg ?_ -- region 5 compile.go:57
    refine wl (ro_cmp rfl rfl rfl) ?_
    refine wl (ro_assign rfl) ?_
    refine wl_nil (x_then (hK18 _ _ ?_))
    clear hK18 K18
    refine wc_condT rfl ?_
    refine c_reg ?_ -- region 6 compile.go:58
    refine wl (ro_move rfl) ?_
    refine wl (ro_build rfl bld_175_0) ?_
    refine wl_call rfl en_75 (lay75' V (by omega)) ?_
    rintro _ w3 ⟨rfl, V3, F3⟩
    refine wl_nil (x_blk ?_)
    refine bp_end Tryz.results110 rfl ?_
    rw [hq]; exact ⟨rfl, V3, hF.transT F3⟩
  · skip
    refine c_reg ?_ -- region 0 compile.go:50
    refine wl (ro_move rfl) ?_
    refine wl (ro_cmp (r := false) rfl rfl (congrArg some (decide_eq_false (by omega)))) ?_
    refine wl (ro_move rfl) ?_
    refine wlg_yes rfl (ro_move rfl) ?_
    refine wlg_yes rfl (ro_move rfl) ?_
    refine wlg_yes rfl (ro_nilCheck rfl) ?_
    refine wlg_yes rfl (ro_fieldAddr (k := 0) rfl fo_168_0) ?_
    refine wlg_yes rfl (ro_loadB rfl sc_98 (hB) (rfl)) ?_
    refine wlg_yes rfl (ro_lenL rfl se_98) ?_
    refine wlg_yes rfl (ro_cmp (r := false) rfl rfl (congrArg some (decide_eq_false (by omega)))) ?_
    refine wl (ro_pick rfl rfl rfl) ?_
    refine wl_nil (x_then (hK2 _ _ ?_))
    clear hK2 K2
    refine wc_condF rfl ?_
    refine c_skip (x_then (hK1 _ _ ?_))
    clear hK1 K1
    refine forget [(0, _), (1, _)] ⟨rfl, rfl, trivial⟩ (fun e => ?_)
    refine c_seq (fun K19 hK19 => ?_)
    refine c_reg ?_ -- region 1 compile.go:53
    refine wl (ro_move rfl) ?_
    refine wl (ro_nilCheck rfl) ?_
    refine wl (ro_fieldAddr (k := 0) rfl fo_168_0) ?_
    refine wl (ro_loadB rfl sc_98 (hB) (rfl)) ?_
    refine wl (ro_move rfl) ?_
    refine wl (ro_indexAddr (et := 89) (k := 11) rfl rfl se_98 (rfl) (hkl)) ?_
    refine wl (ro_loadAggB rfl ag_89 (hT) (rfl) (hld)) ?_
    refine wl_new (ze_89) (fun xb w7 hbxb hX F7 => ?_)
    have hnecbxb : cb < xb := Nat.lt_of_lt_of_le hB.lt hbxb
    have hnenbxb : nb < xb := Nat.lt_of_lt_of_le hT.lt hbxb
    replace hB := F7.blkN hB
    replace hT := F7.blkN hT
    replace V := V.framN F7
    replace hF := hF.thenN F7
    have hX0 := hX
    refine wl_puta rfl rfl (by simp [Value.oneCell', i64c, u64c, u8c, ptr]) sz_89 (rfl) hX ((by simp)) (rfl) (fun w8 hX F8 => ?_)
    replace hB := F8.blkO hB (by omega)
    replace hT := F8.blkO hT (by omega)
    replace V := V.framX F8 hX0 (by decide) (by omega)
    replace hF := hF.thenO F8 (.inr (by have := Nat.le_of_lt V0.blk.lt; omega))
    clear hB hT
    refine wl_nil (x_then (hK19 _ _ ?_))
    clear hK19 K19
    refine forget [(0, _), (4, _)] ⟨rfl, rfl, trivial⟩ (fun e => ?_)
    refine c_seq (fun K20 hK20 => ?_)
    refine c_reg ?_ -- region 2 compile.go:54
    refine wl (ro_fieldAddr (k := 0) rfl fo_89_0) ?_
    refine wl (ro_loadB rfl sc_3 (hX) (rfl)) ?_
    refine wl_nil (x_then (hK20 _ _ ?_))
    clear hK20 K20
    refine c_block ?_
    refine forget [(0, _), (4, _), (27, _)] ⟨rfl, rfl, rfl, trivial⟩ (fun e => ?_)
    refine c_seq (fun K21 hK21 => ?_)
    refine c_reg ?_ -- region 3 compile.go:55
    refine wl (ro_cmp rfl rfl rfl) ?_
    refine wl (ro_assign rfl) ?_
    refine wl_nil (x_then (hK21 _ _ ?_))
    clear hK21 K21
    refine wc_condF rfl ?_
    refine c_seq (fun K22 hK22 => ?_)
    refine c_reg ?_ -- region 5 compile.go:57
    refine wl (ro_cmp rfl rfl rfl) ?_
    refine wl (ro_assign rfl) ?_
    refine wl_nil (x_then (hK22 _ _ ?_))
    clear hK22 K22
    refine wc_condF rfl ?_
    refine c_seq (fun K23 hK23 => ?_)
    refine c_reg ?_ -- region 7 compile.go:59
    refine wl (ro_cmp rfl rfl rfl) ?_
    refine wl (ro_assign rfl) ?_
    refine wl_nil (x_then (hK23 _ _ ?_))
    clear hK23 K23
    refine wc_condT rfl ?_
    refine c_reg ?_ -- region 8 compile.go:60
    refine wl (ro_move rfl) ?_
    refine wl (ro_build rfl bld_175_0) ?_
    refine wl_call rfl en_75 (lay75' V (by omega)) ?_
    rintro _ w3 ⟨rfl, V3, F3⟩
    refine wl_nil (x_blk ?_)
    refine bp_end Tryz.results110 rfl ?_
    rw [hq]; exact ⟨rfl, V3, hF.transT F3⟩
  · skip
    refine c_reg ?_ -- region 0 compile.go:50
    refine wl (ro_move rfl) ?_
    refine wl (ro_cmp (r := false) rfl rfl (congrArg some (decide_eq_false (by omega)))) ?_
    refine wl (ro_move rfl) ?_
    refine wlg_yes rfl (ro_move rfl) ?_
    refine wlg_yes rfl (ro_move rfl) ?_
    refine wlg_yes rfl (ro_nilCheck rfl) ?_
    refine wlg_yes rfl (ro_fieldAddr (k := 0) rfl fo_168_0) ?_
    refine wlg_yes rfl (ro_loadB rfl sc_98 (hB) (rfl)) ?_
    refine wlg_yes rfl (ro_lenL rfl se_98) ?_
    refine wlg_yes rfl (ro_cmp (r := false) rfl rfl (congrArg some (decide_eq_false (by omega)))) ?_
    refine wl (ro_pick rfl rfl rfl) ?_
    refine wl_nil (x_then (hK2 _ _ ?_))
    clear hK2 K2
    refine wc_condF rfl ?_
    refine c_skip (x_then (hK1 _ _ ?_))
    clear hK1 K1
    refine forget [(0, _), (1, _)] ⟨rfl, rfl, trivial⟩ (fun e => ?_)
    refine c_seq (fun K24 hK24 => ?_)
    refine c_reg ?_ -- region 1 compile.go:53
    refine wl (ro_move rfl) ?_
    refine wl (ro_nilCheck rfl) ?_
    refine wl (ro_fieldAddr (k := 0) rfl fo_168_0) ?_
    refine wl (ro_loadB rfl sc_98 (hB) (rfl)) ?_
    refine wl (ro_move rfl) ?_
    refine wl (ro_indexAddr (et := 89) (k := 11) rfl rfl se_98 (rfl) (hkl)) ?_
    refine wl (ro_loadAggB rfl ag_89 (hT) (rfl) (hld)) ?_
    refine wl_new (ze_89) (fun xb w9 hbxb hX F9 => ?_)
    have hnecbxb : cb < xb := Nat.lt_of_lt_of_le hB.lt hbxb
    have hnenbxb : nb < xb := Nat.lt_of_lt_of_le hT.lt hbxb
    replace hB := F9.blkN hB
    replace hT := F9.blkN hT
    replace V := V.framN F9
    replace hF := hF.thenN F9
    have hX0 := hX
    refine wl_puta rfl rfl (by simp [Value.oneCell', i64c, u64c, u8c, ptr]) sz_89 (rfl) hX ((by simp)) (rfl) (fun w10 hX F10 => ?_)
    replace hB := F10.blkO hB (by omega)
    replace hT := F10.blkO hT (by omega)
    replace V := V.framX F10 hX0 (by decide) (by omega)
    replace hF := hF.thenO F10 (.inr (by have := Nat.le_of_lt V0.blk.lt; omega))
    clear hB hT
    refine wl_nil (x_then (hK24 _ _ ?_))
    clear hK24 K24
    refine forget [(0, _), (4, _)] ⟨rfl, rfl, trivial⟩ (fun e => ?_)
    refine c_seq (fun K25 hK25 => ?_)
    refine c_reg ?_ -- region 2 compile.go:54
    refine wl (ro_fieldAddr (k := 0) rfl fo_89_0) ?_
    refine wl (ro_loadB rfl sc_3 (hX) (rfl)) ?_
    refine wl_nil (x_then (hK25 _ _ ?_))
    clear hK25 K25
    refine c_block ?_
    refine forget [(0, _), (4, _), (27, _)] ⟨rfl, rfl, rfl, trivial⟩ (fun e => ?_)
    refine c_seq (fun K26 hK26 => ?_)
    refine c_reg ?_ -- region 3 compile.go:55
    refine wl (ro_cmp rfl rfl rfl) ?_
    refine wl (ro_assign rfl) ?_
    refine wl_nil (x_then (hK26 _ _ ?_))
    clear hK26 K26
    refine wc_condF rfl ?_
    refine c_seq (fun K27 hK27 => ?_)
    refine c_reg ?_ -- region 5 compile.go:57
    refine wl (ro_cmp rfl rfl rfl) ?_
    refine wl (ro_assign rfl) ?_
    refine wl_nil (x_then (hK27 _ _ ?_))
    clear hK27 K27
    refine wc_condF rfl ?_
    refine c_seq (fun K28 hK28 => ?_)
    refine c_reg ?_ -- region 7 compile.go:59
    refine wl (ro_cmp rfl rfl rfl) ?_
    refine wl (ro_assign rfl) ?_
    refine wl_nil (x_then (hK28 _ _ ?_))
    clear hK28 K28
    refine wc_condF rfl ?_
    refine c_seq (fun K29 hK29 => ?_)
    refine c_reg ?_ -- region 9 compile.go:61
    refine wl (ro_cmp rfl rfl rfl) ?_
    refine wl (ro_assign rfl) ?_
    refine wl_nil (x_then (hK29 _ _ ?_))
    clear hK29 K29
    refine wc_condT rfl ?_
    refine c_seq (fun K30 hK30 => ?_)
    refine c_reg ?_ -- region 10 compile.go:62
    refine wl (ro_move rfl) ?_
    refine wl (ro_fieldAddr (k := 2) rfl fo_89_2) ?_
    refine wl (ro_loadB rfl sc_3 (hX) (rfl)) ?_
    refine wl_call rfl en_73 (push73 (q := (0, j, 0)) V (ckc0 hjb) (by omega) (fun h ↦ absurd rfl h)) ?_
    rintro _ w3 ⟨rfl, V3, F3⟩
    replace hX := F3.blkT hX (by decide)
    replace hF := hF.transT F3
    refine wl_nil (x_then (hK30 _ _ ?_))
    clear hK30 K30
    refine c_reg ?_ -- region 11 compile.go:63
    refine wl (ro_move rfl) ?_
    refine wl (ro_fieldAddr (k := 1) rfl fo_89_1) ?_
    refine wl (ro_loadB rfl sc_3 (hX) (rfl)) ?_
    refine wl_call rfl en_73 (push73 (q := (0, i, 0)) V3 (ckc0 hia) (by simp only [List.length_cons]; omega) (fun h ↦ absurd rfl h)) ?_
    rintro _ w4 ⟨rfl, V4, F4⟩
    replace hF := hF.transT F4
    refine wl_nil (x_blk ?_)
    refine bp_end Tryz.results110 rfl ?_
    rw [hq]; exact ⟨rfl, V4, hF⟩
  · skip
    refine c_reg ?_ -- region 0 compile.go:50
    refine wl (ro_move rfl) ?_
    refine wl (ro_cmp (r := false) rfl rfl (congrArg some (decide_eq_false (by omega)))) ?_
    refine wl (ro_move rfl) ?_
    refine wlg_yes rfl (ro_move rfl) ?_
    refine wlg_yes rfl (ro_move rfl) ?_
    refine wlg_yes rfl (ro_nilCheck rfl) ?_
    refine wlg_yes rfl (ro_fieldAddr (k := 0) rfl fo_168_0) ?_
    refine wlg_yes rfl (ro_loadB rfl sc_98 (hB) (rfl)) ?_
    refine wlg_yes rfl (ro_lenL rfl se_98) ?_
    refine wlg_yes rfl (ro_cmp (r := false) rfl rfl (congrArg some (decide_eq_false (by omega)))) ?_
    refine wl (ro_pick rfl rfl rfl) ?_
    refine wl_nil (x_then (hK2 _ _ ?_))
    clear hK2 K2
    refine wc_condF rfl ?_
    refine c_skip (x_then (hK1 _ _ ?_))
    clear hK1 K1
    refine forget [(0, _), (1, _)] ⟨rfl, rfl, trivial⟩ (fun e => ?_)
    refine c_seq (fun K31 hK31 => ?_)
    refine c_reg ?_ -- region 1 compile.go:53
    refine wl (ro_move rfl) ?_
    refine wl (ro_nilCheck rfl) ?_
    refine wl (ro_fieldAddr (k := 0) rfl fo_168_0) ?_
    refine wl (ro_loadB rfl sc_98 (hB) (rfl)) ?_
    refine wl (ro_move rfl) ?_
    refine wl (ro_indexAddr (et := 89) (k := 11) rfl rfl se_98 (rfl) (hkl)) ?_
    refine wl (ro_loadAggB rfl ag_89 (hT) (rfl) (hld)) ?_
    refine wl_new (ze_89) (fun xb w11 hbxb hX F11 => ?_)
    have hnecbxb : cb < xb := Nat.lt_of_lt_of_le hB.lt hbxb
    have hnenbxb : nb < xb := Nat.lt_of_lt_of_le hT.lt hbxb
    replace hB := F11.blkN hB
    replace hT := F11.blkN hT
    replace V := V.framN F11
    replace hF := hF.thenN F11
    have hX0 := hX
    refine wl_puta rfl rfl (by simp [Value.oneCell', i64c, u64c, u8c, ptr]) sz_89 (rfl) hX ((by simp)) (rfl) (fun w12 hX F12 => ?_)
    replace hB := F12.blkO hB (by omega)
    replace hT := F12.blkO hT (by omega)
    replace V := V.framX F12 hX0 (by decide) (by omega)
    replace hF := hF.thenO F12 (.inr (by have := Nat.le_of_lt V0.blk.lt; omega))
    clear hB hT
    refine wl_nil (x_then (hK31 _ _ ?_))
    clear hK31 K31
    refine forget [(0, _), (4, _)] ⟨rfl, rfl, trivial⟩ (fun e => ?_)
    refine c_seq (fun K32 hK32 => ?_)
    refine c_reg ?_ -- region 2 compile.go:54
    refine wl (ro_fieldAddr (k := 0) rfl fo_89_0) ?_
    refine wl (ro_loadB rfl sc_3 (hX) (rfl)) ?_
    refine wl_nil (x_then (hK32 _ _ ?_))
    clear hK32 K32
    refine c_block ?_
    refine forget [(0, _), (4, _), (27, _)] ⟨rfl, rfl, rfl, trivial⟩ (fun e => ?_)
    refine c_seq (fun K33 hK33 => ?_)
    refine c_reg ?_ -- region 3 compile.go:55
    refine wl (ro_cmp rfl rfl rfl) ?_
    refine wl (ro_assign rfl) ?_
    refine wl_nil (x_then (hK33 _ _ ?_))
    clear hK33 K33
    refine wc_condF rfl ?_
    refine c_seq (fun K34 hK34 => ?_)
    refine c_reg ?_ -- region 5 compile.go:57
    refine wl (ro_cmp rfl rfl rfl) ?_
    refine wl (ro_assign rfl) ?_
    refine wl_nil (x_then (hK34 _ _ ?_))
    clear hK34 K34
    refine wc_condF rfl ?_
    refine c_seq (fun K35 hK35 => ?_)
    refine c_reg ?_ -- region 7 compile.go:59
    refine wl (ro_cmp rfl rfl rfl) ?_
    refine wl (ro_assign rfl) ?_
    refine wl_nil (x_then (hK35 _ _ ?_))
    clear hK35 K35
    refine wc_condF rfl ?_
    refine c_seq (fun K36 hK36 => ?_)
    refine c_reg ?_ -- region 9 compile.go:61
    refine wl (ro_cmp rfl rfl rfl) ?_
    refine wl (ro_assign rfl) ?_
    refine wl_nil (x_then (hK36 _ _ ?_))
    clear hK36 K36
    refine wc_condF rfl ?_
    refine c_seq (fun K37 hK37 => ?_)
    refine c_reg ?_ -- region 12 compile.go:64
    refine wl (ro_cmp rfl rfl rfl) ?_
    refine wl (ro_assign rfl) ?_
    refine wl_nil (x_then (hK37 _ _ ?_))
    clear hK37 K37
    refine wc_condT rfl ?_
    refine c_seq (fun K38 hK38 => ?_)
    refine c_reg ?_ -- region 13 compile.go:65
    refine wl (ro_move rfl) ?_
    refine wl (ro_build rfl bld_175_0_1_2) ?_
    refine wl_call rfl en_75 (lay75' V (by omega)) ?_
    rintro _ w3 ⟨rfl, V3, F3⟩
    replace hX := F3.blkT hX (by decide)
    replace hF := hF.transT F3
    obtain ⟨VC3, VW3, Q3, V3⟩ := V3
    have hB := V3.blk
    have hat3 : (σ.C ++ [(⟨1, -1, -1, 0⟩ : RI)])[σ.C.length]? = some ⟨1, -1, -1, 0⟩ := by simp
    have hlen3 : (σ.C ++ [(⟨1, -1, -1, 0⟩ : RI)]).length = σ.C.length + 1 := by simp
    obtain ⟨gb, gcap, l, hVC, hG, hg1, hg2, hg3, hg4⟩ := V3.code.pos (by rw [hlen3]; omega)
    subst hVC
    rw [hlen3] at hg1
    have hgx : gb ≠ xb := fun h => by subst h; exact absurd (hG.uniq hX).2 (by decide)
    have hgcb : gb ≠ cb := V3.code.neblk V3.blk (by decide) gb rfl
    have hG0 := hG
    have hX0 := hX
    refine wl (ro_assign rfl) ?_
    refine wl_nil (x_then (hK38 _ _ ?_))
    clear hK38 K38
    refine forget [(0, _), (4, _), (5, _)] ⟨rfl, rfl, rfl, trivial⟩ (fun e => ?_)
    refine c_seq (fun K39 hK39 => ?_)
    refine c_reg ?_ -- region 14 compile.go:66
    refine wl (ro_move rfl) ?_
    refine wl (ro_nilCheck rfl) ?_
    refine wl (ro_fieldAddr (k := 1) rfl fo_168_1) ?_
    refine wl (ro_loadB rfl sc_109 (hB) (rfl)) ?_
    refine wl (ro_move rfl) ?_
    refine wl (ro_move rfl) ?_
    refine wl (ro_arith rfl rfl rfl (Go.IntWalk.i64_in _ (by omega))) ?_
    refine wl (ro_indexAddr (et := 175) (k := 7) rfl rfl se_109 (rfl) ((by rw [hlen3]; omega : σ.C.length < (σ.C ++ [(⟨1, -1, -1, 0⟩ : RI)]).length))) ?_
    refine wl (ro_fieldAddr (k := 1) rfl fo_175_1) ?_
    refine wl_put rfl rfl rfl sz_3 hG ((by omega)) (rfl) (fun w13 hG F13 => ?_)
    replace hX := F13.blkO hX (by omega)
    replace hB := F13.blkO hB (by omega)
    replace hX := F13.blkO hX0 (by omega)
    obtain ⟨V4, F4⟩ := V3.patch (f := setX ((σ.C.length : Int) + 1)) hat3 (show 1 < 7 by omega) rfl rfl hG0 hG F13
    rw [upI_last] at V4
    replace hF := hF.transT F4
    refine wl_nil (x_then (hK39 _ _ ?_))
    clear hK39 K39
    refine forget [(0, _), (4, _), (5, _)] ⟨rfl, rfl, rfl, trivial⟩ (fun e => ?_)
    refine c_seq (fun K40 hK40 => ?_)
    refine c_reg ?_ -- region 15 compile.go:67
    refine wl (ro_move rfl) ?_
    refine wl (ro_move rfl) ?_
    refine wl (ro_fieldAddr (k := 2) rfl fo_89_2) ?_
    refine wl (ro_loadB rfl sc_3 (hX) (rfl)) ?_
    refine wl_call rfl en_73 (push73 (q := (1, σ.C.length, j)) V4 (ckc1 hjb) (by simp only; omega) (fun _ _ ↦ by simp)) ?_
    rintro _ w5 ⟨rfl, V5, F5⟩
    replace hX := F5.blkT hX (by decide)
    replace hF := hF.transT F5
    refine wl_nil (x_then (hK40 _ _ ?_))
    clear hK40 K40
    refine c_reg ?_ -- region 16 compile.go:68
    refine wl (ro_move rfl) ?_
    refine wl (ro_fieldAddr (k := 1) rfl fo_89_1) ?_
    refine wl (ro_loadB rfl sc_3 (hX) (rfl)) ?_
    refine wl_call rfl en_73 (push73 (q := (0, i, 0)) V5 (ckc0 hia) (by simp only [List.length_cons]; omega) (fun h ↦ absurd rfl h)) ?_
    rintro _ w6 ⟨rfl, V6, F6⟩
    replace hF := hF.transT F6
    refine wl_nil (x_blk ?_)
    refine bp_end Tryz.results110 rfl ?_
    rw [hq]; exact ⟨rfl, V6, hF⟩
  · skip
    refine c_reg ?_ -- region 0 compile.go:50
    refine wl (ro_move rfl) ?_
    refine wl (ro_cmp (r := false) rfl rfl (congrArg some (decide_eq_false (by omega)))) ?_
    refine wl (ro_move rfl) ?_
    refine wlg_yes rfl (ro_move rfl) ?_
    refine wlg_yes rfl (ro_move rfl) ?_
    refine wlg_yes rfl (ro_nilCheck rfl) ?_
    refine wlg_yes rfl (ro_fieldAddr (k := 0) rfl fo_168_0) ?_
    refine wlg_yes rfl (ro_loadB rfl sc_98 (hB) (rfl)) ?_
    refine wlg_yes rfl (ro_lenL rfl se_98) ?_
    refine wlg_yes rfl (ro_cmp (r := false) rfl rfl (congrArg some (decide_eq_false (by omega)))) ?_
    refine wl (ro_pick rfl rfl rfl) ?_
    refine wl_nil (x_then (hK2 _ _ ?_))
    clear hK2 K2
    refine wc_condF rfl ?_
    refine c_skip (x_then (hK1 _ _ ?_))
    clear hK1 K1
    refine forget [(0, _), (1, _)] ⟨rfl, rfl, trivial⟩ (fun e => ?_)
    refine c_seq (fun K41 hK41 => ?_)
    refine c_reg ?_ -- region 1 compile.go:53
    refine wl (ro_move rfl) ?_
    refine wl (ro_nilCheck rfl) ?_
    refine wl (ro_fieldAddr (k := 0) rfl fo_168_0) ?_
    refine wl (ro_loadB rfl sc_98 (hB) (rfl)) ?_
    refine wl (ro_move rfl) ?_
    refine wl (ro_indexAddr (et := 89) (k := 11) rfl rfl se_98 (rfl) (hkl)) ?_
    refine wl (ro_loadAggB rfl ag_89 (hT) (rfl) (hld)) ?_
    refine wl_new (ze_89) (fun xb w14 hbxb hX F14 => ?_)
    have hnecbxb : cb < xb := Nat.lt_of_lt_of_le hB.lt hbxb
    have hnenbxb : nb < xb := Nat.lt_of_lt_of_le hT.lt hbxb
    replace hB := F14.blkN hB
    replace hT := F14.blkN hT
    replace V := V.framN F14
    replace hF := hF.thenN F14
    have hX0 := hX
    refine wl_puta rfl rfl (by simp [Value.oneCell', i64c, u64c, u8c, ptr]) sz_89 (rfl) hX ((by simp)) (rfl) (fun w15 hX F15 => ?_)
    replace hB := F15.blkO hB (by omega)
    replace hT := F15.blkO hT (by omega)
    replace V := V.framX F15 hX0 (by decide) (by omega)
    replace hF := hF.thenO F15 (.inr (by have := Nat.le_of_lt V0.blk.lt; omega))
    clear hB hT
    refine wl_nil (x_then (hK41 _ _ ?_))
    clear hK41 K41
    refine forget [(0, _), (4, _)] ⟨rfl, rfl, trivial⟩ (fun e => ?_)
    refine c_seq (fun K42 hK42 => ?_)
    refine c_reg ?_ -- region 2 compile.go:54
    refine wl (ro_fieldAddr (k := 0) rfl fo_89_0) ?_
    refine wl (ro_loadB rfl sc_3 (hX) (rfl)) ?_
    refine wl_nil (x_then (hK42 _ _ ?_))
    clear hK42 K42
    refine c_block ?_
    refine forget [(0, _), (4, _), (27, _)] ⟨rfl, rfl, rfl, trivial⟩ (fun e => ?_)
    refine c_seq (fun K43 hK43 => ?_)
    refine c_reg ?_ -- region 3 compile.go:55
    refine wl (ro_cmp rfl rfl rfl) ?_
    refine wl (ro_assign rfl) ?_
    refine wl_nil (x_then (hK43 _ _ ?_))
    clear hK43 K43
    refine wc_condF rfl ?_
    refine c_seq (fun K44 hK44 => ?_)
    refine c_reg ?_ -- region 5 compile.go:57
    refine wl (ro_cmp rfl rfl rfl) ?_
    refine wl (ro_assign rfl) ?_
    refine wl_nil (x_then (hK44 _ _ ?_))
    clear hK44 K44
    refine wc_condF rfl ?_
    refine c_seq (fun K45 hK45 => ?_)
    refine c_reg ?_ -- region 7 compile.go:59
    refine wl (ro_cmp rfl rfl rfl) ?_
    refine wl (ro_assign rfl) ?_
    refine wl_nil (x_then (hK45 _ _ ?_))
    clear hK45 K45
    refine wc_condF rfl ?_
    refine c_seq (fun K46 hK46 => ?_)
    refine c_reg ?_ -- region 9 compile.go:61
    refine wl (ro_cmp rfl rfl rfl) ?_
    refine wl (ro_assign rfl) ?_
    refine wl_nil (x_then (hK46 _ _ ?_))
    clear hK46 K46
    refine wc_condF rfl ?_
    refine c_seq (fun K47 hK47 => ?_)
    refine c_reg ?_ -- region 12 compile.go:64
    refine wl (ro_cmp rfl rfl rfl) ?_
    refine wl (ro_assign rfl) ?_
    refine wl_nil (x_then (hK47 _ _ ?_))
    clear hK47 K47
    refine wc_condF rfl ?_
    refine c_seq (fun K48 hK48 => ?_)
    refine c_reg ?_ -- region 17 compile.go:69
    refine wl (ro_cmp rfl rfl rfl) ?_
    refine wl (ro_assign rfl) ?_
    refine wl_nil (x_then (hK48 _ _ ?_))
    clear hK48 K48
    refine wc_condT rfl ?_
    refine c_seq (fun K49 hK49 => ?_)
    refine c_reg ?_ -- region 18 compile.go:70
    refine wl (ro_move rfl) ?_
    refine wl (ro_build rfl bld_175_0_1_2) ?_
    refine wl_call rfl en_75 (lay75' V (by omega)) ?_
    rintro _ w3 ⟨rfl, V3, F3⟩
    replace hX := F3.blkT hX (by decide)
    replace hF := hF.transT F3
    obtain ⟨VC3, VW3, Q3, V3⟩ := V3
    have hB := V3.blk
    have hat3 : (σ.C ++ [(⟨1, -1, -1, 0⟩ : RI)])[σ.C.length]? = some ⟨1, -1, -1, 0⟩ := by simp
    have hlen3 : (σ.C ++ [(⟨1, -1, -1, 0⟩ : RI)]).length = σ.C.length + 1 := by simp
    obtain ⟨gb, gcap, l, hVC, hG, hg1, hg2, hg3, hg4⟩ := V3.code.pos (by rw [hlen3]; omega)
    subst hVC
    rw [hlen3] at hg1
    have hgx : gb ≠ xb := fun h => by subst h; exact absurd (hG.uniq hX).2 (by decide)
    have hgcb : gb ≠ cb := V3.code.neblk V3.blk (by decide) gb rfl
    have hG0 := hG
    have hX0 := hX
    refine wl (ro_assign rfl) ?_
    refine wl_nil (x_then (hK49 _ _ ?_))
    clear hK49 K49
    refine forget [(0, _), (4, _), (6, _)] ⟨rfl, rfl, rfl, trivial⟩ (fun e => ?_)
    refine c_seq (fun K50 hK50 => ?_)
    refine c_reg ?_ -- region 19 compile.go:71
    refine wl (ro_assign rfl) ?_
    refine wl_nil (x_then (hK50 _ _ ?_))
    clear hK50 K50
    refine c_seq (fun K51 hK51 => ?_)
    refine c_seq (fun K52 hK52 => ?_)
    refine c_reg ?_ -- region 20 compile.go:72
    refine wl (ro_fieldAddr (k := 6) rfl fo_89_6) ?_
    refine wl (ro_loadB rfl sc_4 (hX) ((show _ = some (.bool (rlz x)) from rfl))) ?_
    refine wl_nil (x_then (hK52 _ _ ?_))
    clear hK52 K52
    refine wc_cond rfl (fun hc84 => ?_) (fun hc84 => ?_)
    · try simp only [decide_eq_true_eq, decide_eq_false_iff_not, Bool.not_eq_true', Bool.not_eq_false', Bool.not_eq_eq_eq_not, Bool.not_true, Bool.not_false, beq_iff_eq, bne_iff_ne, ne_eq, beq_eq_false_iff_ne, bne_eq_false_iff_eq, gt_iff_lt, ge_iff_le, Int.not_lt, Int.not_le] at hc84
      refine c_seq (fun K53 hK53 => ?_)
      refine c_reg ?_ -- region 21 compile.go:73
      refine wl (ro_assign rfl) ?_
      refine wl_nil (x_then (hK53 _ _ ?_))
      clear hK53 K53
      refine c_reg ?_ -- region 22 compile.go:74
      refine wl (ro_move rfl) ?_
      refine wl (ro_nilCheck rfl) ?_
      refine wl (ro_fieldAddr (k := 1) rfl fo_168_1) ?_
      refine wl (ro_loadB rfl sc_109 (hB) (rfl)) ?_
      refine wl (ro_move rfl) ?_
      refine wl (ro_move rfl) ?_
      refine wl (ro_arith rfl rfl rfl (Go.IntWalk.i64_in _ (by omega))) ?_
      refine wl (ro_indexAddr (et := 175) (k := 7) rfl rfl se_109 (rfl) ((by rw [hlen3]; omega : σ.C.length < (σ.C ++ [(⟨1, -1, -1, 0⟩ : RI)]).length))) ?_
      refine wl (ro_fieldAddr (k := 2) rfl fo_175_2) ?_
      refine wl_put rfl rfl rfl sz_3 hG ((by omega)) (rfl) (fun w16 hG F16 => ?_)
      replace hX := F16.blkO hX (by omega)
      replace hB := F16.blkO hB (by omega)
      replace hX := F16.blkO hX0 (by omega)
      obtain ⟨V4, F4⟩ := V3.patch (f := setY ((σ.C.length : Int) + 1)) hat3 (show 2 < 7 by omega) rfl rfl hG0 hG F16
      rw [upI_last] at V4
      replace hF := hF.transT F4
      refine wl_nil (x_then (hK51 _ _ ?_))
      clear hK51 K51
      refine forget [(0, _), (4, _), (6, _), (7, _)] ⟨rfl, rfl, rfl, rfl, trivial⟩ (fun e => ?_)
      refine c_seq (fun K54 hK54 => ?_)
      refine c_reg ?_ -- region 24 compile.go:78
      refine wl (ro_move rfl) ?_
      refine wl (ro_move rfl) ?_
      refine wl (ro_move rfl) ?_
      refine wl_call rfl en_73 (push73 (q := (3, σ.C.length, 1)) V4 ckc3 (by simp only; omega) (fun _ _ ↦ by simp)) ?_
      rintro _ w5 ⟨rfl, V5, F5⟩
      replace hX := F5.blkT hX (by decide)
      replace hF := hF.transT F5
      refine wl_nil (x_then (hK54 _ _ ?_))
      clear hK54 K54
      refine c_reg ?_ -- region 25 compile.go:79
      refine wl (ro_move rfl) ?_
      refine wl (ro_fieldAddr (k := 1) rfl fo_89_1) ?_
      refine wl (ro_loadB rfl sc_3 (hX) (rfl)) ?_
      refine wl_call rfl en_73 (push73 (q := (0, i, 0)) V5 (ckc0 hia) (by simp only [List.length_cons]; omega) (fun h ↦ absurd rfl h)) ?_
      rintro _ w6 ⟨rfl, V6, F6⟩
      replace hF := hF.transT F6
      refine wl_nil (x_blk ?_)
      refine bp_end Tryz.results110 rfl ?_
      rw [hq]; simp only [nodeC]
      first
        | (rw [if_pos hc84]; exact ⟨trivial, V6, hF⟩)
        | (rw [if_neg (by rw [hc84]; simp)]; exact ⟨trivial, V6, hF⟩)
    · try simp only [decide_eq_true_eq, decide_eq_false_iff_not, Bool.not_eq_true', Bool.not_eq_false', Bool.not_eq_eq_eq_not, Bool.not_true, Bool.not_false, beq_iff_eq, bne_iff_ne, ne_eq, beq_eq_false_iff_ne, bne_eq_false_iff_eq, gt_iff_lt, ge_iff_le, Int.not_lt, Int.not_le] at hc84
      refine c_reg ?_ -- region 23 compile.go:76
      refine wl (ro_move rfl) ?_
      refine wl (ro_nilCheck rfl) ?_
      refine wl (ro_fieldAddr (k := 1) rfl fo_168_1) ?_
      refine wl (ro_loadB rfl sc_109 (hB) (rfl)) ?_
      refine wl (ro_move rfl) ?_
      refine wl (ro_move rfl) ?_
      refine wl (ro_arith rfl rfl rfl (Go.IntWalk.i64_in _ (by omega))) ?_
      refine wl (ro_indexAddr (et := 175) (k := 7) rfl rfl se_109 (rfl) ((by rw [hlen3]; omega : σ.C.length < (σ.C ++ [(⟨1, -1, -1, 0⟩ : RI)]).length))) ?_
      refine wl (ro_fieldAddr (k := 1) rfl fo_175_1) ?_
      refine wl_put rfl rfl rfl sz_3 hG ((by omega)) (rfl) (fun w17 hG F17 => ?_)
      replace hX := F17.blkO hX (by omega)
      replace hB := F17.blkO hB (by omega)
      replace hX := F17.blkO hX0 (by omega)
      obtain ⟨V4, F4⟩ := V3.patch (f := setX ((σ.C.length : Int) + 1)) hat3 (show 1 < 7 by omega) rfl rfl hG0 hG F17
      rw [upI_last] at V4
      replace hF := hF.transT F4
      refine wl_nil (x_then (hK51 _ _ ?_))
      clear hK51 K51
      refine forget [(0, _), (4, _), (6, _), (7, _)] ⟨rfl, rfl, rfl, rfl, trivial⟩ (fun e => ?_)
      refine c_seq (fun K55 hK55 => ?_)
      refine c_reg ?_ -- region 24 compile.go:78
      refine wl (ro_move rfl) ?_
      refine wl (ro_move rfl) ?_
      refine wl (ro_move rfl) ?_
      refine wl_call rfl en_73 (push73 (q := (3, σ.C.length, 0)) V4 ckc3 (by simp only; omega) (fun _ _ ↦ by simp)) ?_
      rintro _ w5 ⟨rfl, V5, F5⟩
      replace hX := F5.blkT hX (by decide)
      replace hF := hF.transT F5
      refine wl_nil (x_then (hK55 _ _ ?_))
      clear hK55 K55
      refine c_reg ?_ -- region 25 compile.go:79
      refine wl (ro_move rfl) ?_
      refine wl (ro_fieldAddr (k := 1) rfl fo_89_1) ?_
      refine wl (ro_loadB rfl sc_3 (hX) (rfl)) ?_
      refine wl_call rfl en_73 (push73 (q := (0, i, 0)) V5 (ckc0 hia) (by simp only [List.length_cons]; omega) (fun h ↦ absurd rfl h)) ?_
      rintro _ w6 ⟨rfl, V6, F6⟩
      replace hF := hF.transT F6
      refine wl_nil (x_blk ?_)
      refine bp_end Tryz.results110 rfl ?_
      rw [hq]; simp only [nodeC]
      first
        | (rw [if_pos hc84]; exact ⟨trivial, V6, hF⟩)
        | (rw [if_neg (by rw [hc84]; simp)]; exact ⟨trivial, V6, hF⟩)
  · skip
    have hg := hgs k g a (by rw [← hq]; exact hk)
    refine c_reg ?_ -- region 0 compile.go:50
    refine wl (ro_move rfl) ?_
    refine wl (ro_cmp (r := false) rfl rfl (congrArg some (decide_eq_false (by omega)))) ?_
    refine wl (ro_move rfl) ?_
    refine wlg_yes rfl (ro_move rfl) ?_
    refine wlg_yes rfl (ro_move rfl) ?_
    refine wlg_yes rfl (ro_nilCheck rfl) ?_
    refine wlg_yes rfl (ro_fieldAddr (k := 0) rfl fo_168_0) ?_
    refine wlg_yes rfl (ro_loadB rfl sc_98 (hB) (rfl)) ?_
    refine wlg_yes rfl (ro_lenL rfl se_98) ?_
    refine wlg_yes rfl (ro_cmp (r := false) rfl rfl (congrArg some (decide_eq_false (by omega)))) ?_
    refine wl (ro_pick rfl rfl rfl) ?_
    refine wl_nil (x_then (hK2 _ _ ?_))
    clear hK2 K2
    refine wc_condF rfl ?_
    refine c_skip (x_then (hK1 _ _ ?_))
    clear hK1 K1
    refine forget [(0, _), (1, _)] ⟨rfl, rfl, trivial⟩ (fun e => ?_)
    refine c_seq (fun K56 hK56 => ?_)
    refine c_reg ?_ -- region 1 compile.go:53
    refine wl (ro_move rfl) ?_
    refine wl (ro_nilCheck rfl) ?_
    refine wl (ro_fieldAddr (k := 0) rfl fo_168_0) ?_
    refine wl (ro_loadB rfl sc_98 (hB) (rfl)) ?_
    refine wl (ro_move rfl) ?_
    refine wl (ro_indexAddr (et := 89) (k := 11) rfl rfl se_98 (rfl) (hkl)) ?_
    refine wl (ro_loadAggB rfl ag_89 (hT) (rfl) (hld)) ?_
    refine wl_new (ze_89) (fun xb w18 hbxb hX F18 => ?_)
    have hnecbxb : cb < xb := Nat.lt_of_lt_of_le hB.lt hbxb
    have hnenbxb : nb < xb := Nat.lt_of_lt_of_le hT.lt hbxb
    replace hB := F18.blkN hB
    replace hT := F18.blkN hT
    replace V := V.framN F18
    replace hF := hF.thenN F18
    have hX0 := hX
    refine wl_puta rfl rfl (by simp [Value.oneCell', i64c, u64c, u8c, ptr]) sz_89 (rfl) hX ((by simp)) (rfl) (fun w19 hX F19 => ?_)
    replace hB := F19.blkO hB (by omega)
    replace hT := F19.blkO hT (by omega)
    replace V := V.framX F19 hX0 (by decide) (by omega)
    replace hF := hF.thenO F19 (.inr (by have := Nat.le_of_lt V0.blk.lt; omega))
    clear hB hT
    refine wl_nil (x_then (hK56 _ _ ?_))
    clear hK56 K56
    refine forget [(0, _), (4, _)] ⟨rfl, rfl, trivial⟩ (fun e => ?_)
    refine c_seq (fun K57 hK57 => ?_)
    refine c_reg ?_ -- region 2 compile.go:54
    refine wl (ro_fieldAddr (k := 0) rfl fo_89_0) ?_
    refine wl (ro_loadB rfl sc_3 (hX) (rfl)) ?_
    refine wl_nil (x_then (hK57 _ _ ?_))
    clear hK57 K57
    refine c_block ?_
    refine forget [(0, _), (4, _), (27, _)] ⟨rfl, rfl, rfl, trivial⟩ (fun e => ?_)
    refine c_seq (fun K58 hK58 => ?_)
    refine c_reg ?_ -- region 3 compile.go:55
    refine wl (ro_cmp rfl rfl rfl) ?_
    refine wl (ro_assign rfl) ?_
    refine wl_nil (x_then (hK58 _ _ ?_))
    clear hK58 K58
    refine wc_condF rfl ?_
    refine c_seq (fun K59 hK59 => ?_)
    refine c_reg ?_ -- region 5 compile.go:57
    refine wl (ro_cmp rfl rfl rfl) ?_
    refine wl (ro_assign rfl) ?_
    refine wl_nil (x_then (hK59 _ _ ?_))
    clear hK59 K59
    refine wc_condF rfl ?_
    refine c_seq (fun K60 hK60 => ?_)
    refine c_reg ?_ -- region 7 compile.go:59
    refine wl (ro_cmp rfl rfl rfl) ?_
    refine wl (ro_assign rfl) ?_
    refine wl_nil (x_then (hK60 _ _ ?_))
    clear hK60 K60
    refine wc_condF rfl ?_
    refine c_seq (fun K61 hK61 => ?_)
    refine c_reg ?_ -- region 9 compile.go:61
    refine wl (ro_cmp rfl rfl rfl) ?_
    refine wl (ro_assign rfl) ?_
    refine wl_nil (x_then (hK61 _ _ ?_))
    clear hK61 K61
    refine wc_condF rfl ?_
    refine c_seq (fun K62 hK62 => ?_)
    refine c_reg ?_ -- region 12 compile.go:64
    refine wl (ro_cmp rfl rfl rfl) ?_
    refine wl (ro_assign rfl) ?_
    refine wl_nil (x_then (hK62 _ _ ?_))
    clear hK62 K62
    refine wc_condF rfl ?_
    refine c_seq (fun K63 hK63 => ?_)
    refine c_reg ?_ -- region 17 compile.go:69
    refine wl (ro_cmp rfl rfl rfl) ?_
    refine wl (ro_assign rfl) ?_
    refine wl_nil (x_then (hK63 _ _ ?_))
    clear hK63 K63
    refine wc_condF rfl ?_
    refine c_seq (fun K64 hK64 => ?_)
    refine c_reg ?_ -- region 26 compile.go:80
    refine wl (ro_cmp rfl rfl rfl) ?_
    refine wl (ro_assign rfl) ?_
    refine wl_nil (x_then (hK64 _ _ ?_))
    clear hK64 K64
    refine wc_condT rfl ?_
    refine c_seq (fun K65 hK65 => ?_)
    refine c_reg ?_ -- region 27 compile.go:81
    refine wl (ro_move rfl) ?_
    refine wl (ro_fieldAddr (k := 5) rfl fo_89_5) ?_
    refine wl (ro_loadB rfl sc_3 (hX) (rfl)) ?_
    refine wl (ro_arith (r := ((2 * g : Nat) : Int)) rfl rfl (congrArg some (by simp)) (Go.IntWalk.i64_in _ (by omega))) ?_
    refine wl (ro_build rfl bld_175_0_1) ?_
    refine wl_call rfl en_75 (lay75' V (by omega)) ?_
    rintro _ w3 ⟨rfl, V3, F3⟩
    replace hX := F3.blkT hX (by decide)
    replace hF := hF.transT F3
    refine wl_nil (x_then (hK65 _ _ ?_))
    clear hK65 K65
    refine forget [(0, _), (4, _)] ⟨rfl, rfl, trivial⟩ (fun e => ?_)
    refine c_seq (fun K66 hK66 => ?_)
    refine c_reg ?_ -- region 28 compile.go:82
    refine wl (ro_move rfl) ?_
    refine wl (ro_fieldAddr (k := 5) rfl fo_89_5) ?_
    refine wl (ro_loadB rfl sc_3 (hX) (rfl)) ?_
    refine wl (ro_arith (r := ((2 * g : Nat) : Int)) rfl rfl (congrArg some (by simp)) (Go.IntWalk.i64_in _ (by omega))) ?_
    refine wl (ro_arith (r := ((2 * g + 1 : Nat) : Int)) rfl rfl (congrArg some (by simp)) (Go.IntWalk.i64_in _ (by omega))) ?_
    refine wl_call rfl en_73 (push73 (q := (4, 2 * g + 1, 0)) V3 ckc4 (by simp only; omega) (fun _ h ↦ absurd rfl h)) ?_
    rintro _ w5 ⟨rfl, V5, F5⟩
    replace hX := F5.blkT hX (by decide)
    replace hF := hF.transT F5
    refine wl_nil (x_then (hK66 _ _ ?_))
    clear hK66 K66
    refine c_reg ?_ -- region 29 compile.go:83
    refine wl (ro_move rfl) ?_
    refine wl (ro_fieldAddr (k := 1) rfl fo_89_1) ?_
    refine wl (ro_loadB rfl sc_3 (hX) (rfl)) ?_
    refine wl_call rfl en_73 (push73 (q := (0, i, 0)) V5 (ckc0 hia) (by simp only [List.length_cons]; omega) (fun h ↦ absurd rfl h)) ?_
    rintro _ w6 ⟨rfl, V6, F6⟩
    replace hF := hF.transT F6
    refine wl_nil (x_blk ?_)
    refine bp_end Tryz.results110 rfl ?_
    rw [hq]; exact ⟨rfl, V6, hF⟩

end Go.Proofs.Qxb6500567aGreat
