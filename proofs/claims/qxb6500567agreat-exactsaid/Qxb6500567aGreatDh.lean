import Derived.Test.Qxb6500567aGreatDg
import Derived.Test.Qxb6500567aGreatFg
/- The real simplifier: build. -/
namespace Go.Proofs.Qxb6500567aGreat
set_option linter.unusedVariables false
set_option linter.unusedSimpArgs false

theorem nd_cell {T : List RE} {c : Nat → Value} {cap n j : Nat} {r : RE} {cs : List Value} {v : Value} (hn : n < cap) (hcs : cel 11 (fun j => c (0 + 11 * n + j)) = cs) (hv : cs[j]? = some v) : (cel (cap * 11) c)[0 + n * 11 + j]? = some v := by
  have hj : j < 11 := by
    have := (List.getElem?_eq_some_iff.1 hv).1
    rw [← hcs, cel_len] at this
    exact this
  rw [← hcs, cel_get hj] at hv
  rw [cel_get (by omega), show 0 + n * 11 + j = 0 + 11 * n + j by omega]
  exact hv

theorem ND.kind {T : List RE} {k : Nat} {r : RE} {cs : List Value} (h : ND T k r cs) : cs[0]? = some (i64c (kindR r)) := by
  rcases h.kinds with ⟨rfl, rfl⟩ | ⟨S, rfl, rfl⟩ | ⟨rfl, rfl⟩ | ⟨l, rfl, rfl⟩ | ⟨a, b, i, j, rfl, _, _, _, _, rfl⟩ | ⟨o, a, b, i, j, rfl, _, _, _, _, rfl⟩ | ⟨ff, ps, x, a, i, rfl, _, _, _, rfl⟩ | ⟨g, a, i, rfl, _, _, rfl⟩ <;> rfl
theorem ND.capn {T : List RE} {k : Nat} {r : RE} {cs : List Value} (h : ND T k r cs) : cs[5]? = some (i64c (capN r)) := by
  rcases h.kinds with ⟨rfl, rfl⟩ | ⟨S, rfl, rfl⟩ | ⟨rfl, rfl⟩ | ⟨l, rfl, rfl⟩ | ⟨a, b, i, j, rfl, _, _, _, _, rfl⟩ | ⟨o, a, b, i, j, rfl, _, _, _, _, rfl⟩ | ⟨ff, ps, x, a, i, rfl, _, _, _, rfl⟩ | ⟨g, a, i, rfl, _, _, rfl⟩ <;> rfl
theorem ND.pn {T : List RE} {k : Nat} {r : RE} {cs : List Value} (h : ND T k r cs) : ∃ (x : PN) (mn : Nat), cs = ndP x ∧ x.mn = (repN r).mn ∧ x.mx = (repN r).mx ∧ x.lz = (repN r).lz ∧ x.mn = mn ∧ mn ≤ 3 ∧ -1 ≤ x.mx ∧ x.mx ≤ 3 := by
  rcases h.kinds with ⟨rfl, rfl⟩ | ⟨S, rfl, rfl⟩ | ⟨rfl, rfl⟩ | ⟨l, rfl, rfl⟩ | ⟨a, b, i, j, rfl, _, _, _, _, rfl⟩ | ⟨o, a, b, i, j, rfl, _, _, _, _, rfl⟩ | ⟨ff, ps, x, a, i, rfl, _, _, hc, rfl⟩ | ⟨g, a, i, rfl, _, _, rfl⟩
  · exact ⟨⟨0, -1, -1, 0, 0, 0, false, 0⟩, 0, rfl, rfl, rfl, rfl, rfl, by omega, by simp, by simp⟩
  · exact ⟨⟨1, -1, -1, 0, 0, 0, false, S⟩, 0, rfl, rfl, rfl, rfl, rfl, by omega, by simp, by simp⟩
  · exact ⟨⟨2, -1, -1, 0, 0, 0, false, 0⟩, 0, rfl, rfl, rfl, rfl, rfl, by omega, by simp, by simp⟩
  · exact ⟨⟨3, -1, -1, 0, 0, 0, false, 0⟩, 0, rfl, rfl, rfl, rfl, rfl, by omega, by simp, by simp⟩
  · exact ⟨⟨4, i, j, 0, 0, 0, false, 0⟩, 0, rfl, rfl, rfl, rfl, rfl, by omega, by simp, by simp⟩
  · exact ⟨⟨5, i, j, 0, 0, 0, false, 0⟩, 0, rfl, rfl, rfl, rfl, rfl, by omega, by simp, by simp⟩
  · refine ⟨⟨6, i, -1, rmn x, mxI (rmx x), 0, rlz x, 0⟩, rmn x, rfl, rfl, rfl, rfl, rfl, hc.1, ?_, ?_⟩
    · cases hx : rmx x with
      | none => simp [mxI]
      | some m => simp only [mxI]; omega
    · cases hx : rmx x with
      | none => simp [mxI]
      | some m => have := hc.2 m hx; simp only [mxI]; omega
  · exact ⟨⟨7, i, -1, 0, 0, g, false, 0⟩, 0, rfl, rfl, rfl, rfl, rfl, by omega, by simp, by simp⟩

theorem runB_nil (o : List PN) (rs : List Int) : ∀ k, runB k ⟨o, rs, []⟩ = ⟨o, rs, []⟩
  | 0 => rfl
  | k + 1 => rfl

theorem BVr.pop {H H' : Array Obj} {B : SB} {T : List RE} {o : List PN} {rs : List Int} {t : TK} {W : List TK} {fo fw fr : Nat → Value} (V : BVr H B T ⟨o, rs, t :: W⟩ fo fw fr)
    (hs : Blk H' B.sb (B.cells o.length W.length rs.length) 101) (ho : FB H' B.ob 341 fo 89) (hk : FB H' B.kb 196 fw 202) (hr : FB H' B.rb 25 fr 3) : BVr H' B T ⟨o, rs, W⟩ fo fw fr := by
  refine ⟨hs, ho, hk, hr, V.ol, by have := V.wl; simp only [List.length_cons] at this; show W.length ≤ 49; omega, V.rl, V.ov, V.ok, ?_, V.rv⟩
  intro k u hu
  have hkl := (List.getElem?_eq_some_iff.1 hu).1
  have := V.wv (k + 1) u (by rw [List.getElem?_cons_succ]; exact hu)
  simp only [List.length_cons] at this hkl
  rw [show 0 + 4 * (W.length + 1 - 1 - (k + 1)) = 0 + 4 * (W.length - 1 - k) by omega] at this
  exact this

theorem tk_load {fw : Nat → Value} {i : Nat} {cs : List Value} (h : i < 49) (hc : cel 4 (fun j => fw (0 + 4 * i + j)) = cs) : ((cel 196 fw).drop (0 + i * 4)).take 4 = cs := by
  rw [show 0 + i * 4 = 0 + 4 * i by omega, cel_sub (by omega)]; exact hc

/-- What building leaves. -/
def Built (H : Array Obj) (B : SB) (r : RE) : Prop := ∃ fo fw fr : Nat → Value, Blk H B.sb (B.cells (nds (child r)) 0 0) 101 ∧ FB H B.ob 341 fo 89 ∧ FB H B.kb 196 fw 202 ∧ FB H B.rb 25 fr 3 ∧ ∀ k x, (pl (child r) 0)[k]? = some x → cel 11 (fun j => fo (0 + 11 * k + j)) = ndP x

set_option maxHeartbeats 4000000 in
theorem build72 {w : World} {B : SB} {T : List RE} {fh c fo fw fr : Nat → Value} {no nw nr nb cap n : Nat} {r : RE} (D : D4 B) (hB : Blk w.heap B.sb (B.cells no nw nr) 101) (hO : FB w.heap B.ob 341 fo 89) (hK : FB w.heap B.kb 196 fw 202) (hR : FB w.heap B.rb 25 fr 3)
    (hH : FB w.heap B.hb 24 fh 3) (hnh : ¬ bset B B.hb) (hsh : SHV fh T) (hT : FB w.heap nb (cap * 11) c 89) (hnn : ¬ bset B nb) (hle : T.length ≤ cap) (h24 : T.length ≤ 24) (hAR : AR T c 0) (hn : T[n]? = some r) (hw : WF r) (hnr : nds r ≤ 24) (hsz : nds (child r) ≤ 31) :
    Ret Tryz.prog 72 [ptr B.sb, .slice (some ⟨nb, 0, none⟩) T.length cap, i64c n] w (fun v w' => v = .tuple #[] ∧ Built w'.heap B r ∧ Fram (bset B) w w') := by
  have hF : Fram (bset B) w w := Fram.refl _ _
  have hms : bset B B.sb := .inl rfl
  obtain ⟨dso, dsk, dsr, dok, dor, dkr⟩ := id D
  have hB0 := hB.lt
  have hB1 := hO.lt
  have hB2 := hK.lt
  have hB3 := hR.lt
  obtain ⟨k0, hk0⟩ := build_ok hw hnr hsz
  have nh1 : B.hb ≠ B.sb := fun h => hnh (.inl h)
  have nn1 : nb ≠ B.sb := fun h => hnn (.inl h)
  generalize hfin : (⟨pl (child r) 0, [((nds (child r) : Nat) : Int) - 1], []⟩ : BS) = fin at hk0
  refine ret_of Tryz.func72 rfl Tryz.ntmps72 rfl ?_
  refine c_seq (fun K1 hK1 => ?_)
  refine c_reg ?_ -- region 0 build.go:68
  refine wl (ro_move rfl) ?_
  refine wl (ro_move rfl) ?_
  refine wl (ro_move rfl) ?_
  refine wl (ro_nilCheck rfl) ?_
  refine wl (ro_fieldAddr (k := 4) rfl fo_101_4) ?_
  refine wl_put rfl rfl rfl sz_3 hB ((by simp)) (rfl) (fun w1 hB F1 => ?_)
  replace hF := hF.thenDrew.thenO F1 (by first | exact .inr (by omega) | exact .inl rfl | exact .inl (by assumption))
  replace hO := F1.blkO hO (by omega)
  replace hK := F1.blkO hK (by omega)
  replace hR := F1.blkO hR (by omega)
  replace hH := F1.blkO hH (by omega)
  replace hT := F1.blkO hT (by omega)
  refine wl (ro_nilCheck rfl) ?_
  refine wl (ro_fieldAddr (k := 6) rfl fo_101_6) ?_
  refine wl_put rfl rfl rfl sz_3 hB ((by simp)) (rfl) (fun w2 hB F2 => ?_)
  replace hF := hF.thenDrew.thenO F2 (by first | exact .inr (by omega) | exact .inl rfl | exact .inl (by assumption))
  replace hO := F2.blkO hO (by omega)
  replace hK := F2.blkO hK (by omega)
  replace hR := F2.blkO hR (by omega)
  replace hH := F2.blkO hH (by omega)
  replace hT := F2.blkO hT (by omega)
  refine wl (ro_nilCheck rfl) ?_
  refine wl (ro_fieldAddr (k := 8) rfl fo_101_8) ?_
  refine wl_put rfl rfl rfl sz_3 hB ((by simp)) (rfl) (fun w3 hB F3 => ?_)
  replace hF := hF.thenDrew.thenO F3 (by first | exact .inr (by omega) | exact .inl rfl | exact .inl (by assumption))
  replace hO := F3.blkO hO (by omega)
  replace hK := F3.blkO hK (by omega)
  replace hR := F3.blkO hR (by omega)
  replace hH := F3.blkO hH (by omega)
  replace hT := F3.blkO hT (by omega)
  refine wl_nil (x_then (hK1 _ _ ?_))
  clear hK1 K1
  refine forget [(0, _), (1, _), (2, _)] ⟨rfl, rfl, rfl, trivial⟩ (fun e => ?_)
  refine c_seq (fun K2 hK2 => ?_)
  have hV0 : BVr _ B T ⟨[], [], []⟩ fo fw fr := ⟨hB, hO, hK, hR, by simp, by simp, by simp, by simp, by intro k x hx; simp at hx, by simp, by simp⟩
  refine c_reg ?_ -- region 1 build.go:69
  refine wl (ro_move rfl) ?_
  refine wl (ro_move rfl) ?_
  refine wl_call rfl en_102 (push102 (t := tkc r) D (hV0.re hB hO hK hR) hn (tkok_b hw (by omega))) ?_
  rintro _ w3 ⟨rfl, V3, F3⟩
  clear hV0
  replace hH := F3.blkF hH hnh
  replace hT := F3.blkF hT hnn
  replace hF := hF.transD F3
  clear hB hO hK hR
  obtain ⟨fo3, fw3, fr3, V3⟩ := V3
  have hB := V3.s
  have hO := V3.o
  have hK := V3.k
  have hR := V3.r
  refine wl_nil (x_then (hK2 _ _ ?_))
  clear hK2 K2
  refine forget [(0, _), (1, _)] ⟨rfl, rfl, trivial⟩ (fun e => ?_)
  refine c_seq (fun K3 hK3 => ?_)
  refine c_block ?_
  -- loop@r2: live slots [0, 1]
  refine c_loopG (fun m a' w' => ∃ σ : BS, runB m σ = fin ∧ BV w'.heap B T σ ∧ FB w'.heap B.hb 24 fh 3 ∧ FB w'.heap nb (cap * 11) c 89 ∧ Fram (bset B) w w' ∧ ∃ e, a' = Fr 117 (upds e [(0, ptr B.sb), (1, .slice (some ⟨nb, 0, none⟩) T.length cap)]) []) k0 ⟨_, hk0, V3.re hB hO hK hR, hH, hT, hF, kp _ ⟨rfl, rfl, trivial⟩⟩ ?_
  clear hB hO hK hR hH hT hF V3
  rintro m a' w1 ⟨⟨o, rs, W⟩, hrun, ⟨fo, fw, fr', V⟩, hH, hT, hF, e, rfl⟩
  have hB := V.s
  have hO := V.o
  have hK := V.k
  have hR := V.r
  have hol : o.length ≤ 31 := V.ol
  have hwl : W.length ≤ 49 := V.wl
  refine c_seq (fun K4 hK4 => ?_)
  refine c_seq (fun K5 hK5 => ?_)
  refine c_reg ?_ -- region 2 build.go:70
  refine wl (ro_move rfl) ?_
  refine wl (ro_nilCheck rfl) ?_
  refine wl (ro_fieldAddr (k := 6) rfl fo_101_6) ?_
  refine wl (ro_loadB rfl sc_3 (hB) (rfl)) ?_
  refine wl (ro_cmp (r := decide (0 < W.length)) rfl rfl (congrArg some (decide_eq_decide.2 (by show ((W.length : Nat) : Int) > 0 ↔ _; omega)))) ?_
  refine wl_nil (x_then (hK5 _ _ ?_))
  clear hK5 K5
  refine wc_cond rfl (fun hc29 => ?_) (fun hc29 => ?_)
  · try simp only [decide_eq_true_eq, decide_eq_false_iff_not, Bool.not_eq_true', Bool.not_eq_false', Bool.not_eq_eq_eq_not, Bool.not_true, Bool.not_false, beq_iff_eq, bne_iff_ne, ne_eq, beq_eq_false_iff_ne, bne_eq_false_iff_eq, gt_iff_lt, ge_iff_le, Int.not_lt, Int.not_le] at hc29
    obtain ⟨t, W', rfl⟩ : ∃ t W', W = t :: W' := by
      cases W with
      | nil => simp at hc29
      | cons t W' => exact ⟨t, W', rfl⟩
    obtain ⟨m', rfl⟩ : ∃ m', m = m' + 1 := by
      cases m with
      | zero => rw [← hfin] at hrun; simp [runB] at hrun
      | succ m' => exact ⟨m', rfl⟩
    have hrun1 : runB m' (taskB t ⟨o, rs, W'⟩) = fin := hrun
    obtain ⟨⟨q, hq, hcs⟩, hwt, hwh, hat, he1, he2⟩ := V.wv 0 t rfl
    simp only [List.length_cons, Nat.add_sub_cancel, Nat.sub_zero] at hcs hwl hat he2
    have hldt := tk_load (by omega) hcs
    have hqT : q < T.length := (List.getElem?_eq_some_iff.1 hq).1
    have hN := hAR q t.r hq
    generalize hcs2 : cel 11 (fun j => c (0 + 11 * q + j)) = cs2 at hN
    have hldn := nd_load (cap := cap) (k := q) (by omega) hcs2
    refine c_skip (x_then (hK4 _ _ ?_))
    clear hK4 K4
    refine c_block ?_
    refine forget [(0, _), (1, _)] ⟨rfl, rfl, trivial⟩ (fun e => ?_)
    refine c_seq (fun K6 hK6 => ?_)
    refine c_reg ?_ -- region 3 build.go:71
    refine wl (ro_move rfl) ?_
    refine wl (ro_nilCheck rfl) ?_
    refine wl (ro_fieldAddr (k := 6) rfl fo_101_6) ?_
    refine wl (ro_loadB rfl sc_3 (hB) (rfl)) ?_
    refine wl (ro_arith (r := (W'.length : Int)) rfl rfl (by simp) (Go.IntWalk.i64_in _ (by omega))) ?_
    refine wl (ro_nilCheck rfl) ?_
    refine wl (ro_fieldAddr (k := 6) rfl fo_101_6) ?_
    refine wl_put rfl rfl rfl sz_3 hB ((by simp)) (rfl) (fun w4 hB F4 => ?_)
    replace hF := hF.thenDrew.thenO F4 (by first | exact .inr (by omega) | exact .inl rfl | exact .inl (by assumption))
    replace hO := F4.blkO hO (by omega)
    replace hK := F4.blkO hK (by omega)
    replace hR := F4.blkO hR (by omega)
    replace hH := F4.blkO hH (by omega)
    replace hT := F4.blkO hT (by omega)
    refine wl_nil (x_then (hK6 _ _ ?_))
    clear hK6 K6
    refine forget [(0, _), (1, _)] ⟨rfl, rfl, trivial⟩ (fun e => ?_)
    refine c_seq (fun K7 hK7 => ?_)
    refine c_piL 11 [(0, false), (1, false), (2, false), (3, false), (4, false), (5, false), (6, false), (7, false), (8, false), (9, false), (10, true)] (fun w' => Blk w'.heap B.sb (B.cells o.length W'.length rs.length) 101 ∧ FB w'.heap B.kb 196 fw 202) mixed (by kernel_rfl) rfl (by kernel_rfl) (po_then (po_blk (po_then (po_blk (po_then (po_bp)))))) (⟨hB, hK⟩) ?_ -- region 4 build.go:72
    refine ql_ro rfl (fun w hS => ro_move rfl) ?_
    refine ql_ro rfl (fun w hS => ro_nilCheck rfl) ?_
    refine ql_ro rfl (fun w hS => ro_fieldAddr (k := 5) rfl fo_101_5) ?_
    refine ql_ro rfl (fun w hS => ro_loadB rfl sc_99 (hS.1) (rfl)) ?_
    refine ql_ro rfl (fun w hS => ro_move rfl) ?_
    refine ql_ro rfl (fun w hS => ro_nilCheck rfl) ?_
    refine ql_ro rfl (fun w hS => ro_fieldAddr (k := 6) rfl fo_101_6) ?_
    refine ql_ro rfl (fun w hS => ro_loadB rfl sc_3 (hS.1) (rfl)) ?_
    refine ql_ro rfl (fun w hS => ro_indexAddr (et := 202) (k := 4) rfl rfl se_99 (rfl) ((by omega : W'.length < 49))) ?_
    refine ql_ro rfl (fun w hS => ro_loadAggB rfl ag_202 (hS.2) (rfl) (hldt)) ?_
    refine ql_new rfl ze_202 (fun w1 F ↦ ⟨F.blkN hB, F.blkN hK⟩) ?_
    intro xb w5 hbxb hX F5
    have hbsxb := Nat.le_trans hF.size hbxb
    have hneB.sbxb : B.sb < xb := Nat.lt_of_lt_of_le hB.lt hbxb
    have hneB.obxb : B.ob < xb := Nat.lt_of_lt_of_le hO.lt hbxb
    have hneB.kbxb : B.kb < xb := Nat.lt_of_lt_of_le hK.lt hbxb
    have hneB.rbxb : B.rb < xb := Nat.lt_of_lt_of_le hR.lt hbxb
    have hneB.hbxb : B.hb < xb := Nat.lt_of_lt_of_le hH.lt hbxb
    have hnenbxb : nb < xb := Nat.lt_of_lt_of_le hT.lt hbxb
    replace hF := hF.thenDrew.thenN F5
    replace hB := F5.blkN hB
    replace hO := F5.blkN hO
    replace hK := F5.blkN hK
    replace hR := F5.blkN hR
    replace hH := F5.blkN hH
    replace hT := F5.blkN hT
    refine ql_puta rfl rfl rfl ((tk_cells _ _ _ _)) sz_202 (rfl) hX ((by simp)) (rfl) (fun w6 hX F6 => ?_)
    replace hF := hF.thenDrew.thenO F6 (by first | exact .inr (by omega) | exact .inl rfl | exact .inl (by assumption))
    replace hB := F6.blkO hB (by omega)
    replace hO := F6.blkO hO (by omega)
    replace hK := F6.blkO hK (by omega)
    replace hR := F6.blkO hR (by omega)
    replace hH := F6.blkO hH (by omega)
    replace hT := F6.blkO hT (by omega)
    refine x_then (hK7 _ _ ?_)
    clear hK7 K7
    refine forget [(0, _), (1, _), (6, _)] ⟨rfl, rfl, rfl, trivial⟩ (fun e => ?_)
    refine c_seq (fun K8 hK8 => ?_)
    have V2 : BVr _ B T ⟨o, rs, W'⟩ fo fw fr' := V.pop hB hO hK hR
    have hxbn : ¬ bset B xb := by rintro (h | h | h | h) <;> omega
    have hwc : t.what = 1 ∨ t.what = 0 ∨ t.what = 2 ∨ t.what = 3 ∨ t.what = 4 := by omega
    refine c_reg ?_ -- region 5 build.go:73
    refine wl (ro_fieldAddr (k := 0) rfl fo_202_0) ?_
    refine wl (ro_loadB rfl sc_3 (hX) (rfl)) ?_
    refine wl_nil (x_then (hK8 _ _ ?_))
    clear hK8 K8
    refine c_block ?_
    refine forget [(0, _), (1, _), (6, _), (48, _)] ⟨rfl, rfl, rfl, rfl, trivial⟩ (fun e => ?_)
    refine c_seq (fun K9 hK9 => ?_)
    rcases hwc with hwc | hwc | hwc | hwc | hwc
    · skip
      refine c_reg ?_ -- region 6 build.go:74
      refine wl (ro_cmp (r := true) rfl rfl (congrArg some ((beqc t.what 1).trans (decide_eq_true hwc)))) ?_
      refine wl (ro_assign rfl) ?_
      refine wl_nil (x_then (hK9 _ _ ?_))
      clear hK9 K9
      refine wc_condT rfl ?_
      refine c_reg ?_ -- region 7 build.go:75
      refine wl (ro_move rfl) ?_
      refine wl (ro_fieldAddr (k := 1) rfl fo_202_1) ?_
      refine wl (ro_loadB rfl sc_3 (hX) (rfl)) ?_
      refine wl_call rfl en_103 (child103 D (V2.re hB hO hK hR) hH hnh hsh h24 hq hwt) ?_
      rintro _ w4 ⟨rfl, V4, F4⟩
      refine wl_nil (x_blk (x_blk (x_then ?_)))
      have e9 : taskB t ⟨o, rs, W'⟩ = childB t.r ⟨o, rs, W'⟩ := by unfold taskB; rw [if_pos hwc]
      exact ⟨m', by omega, _, hrun1, by rw [e9]; exact V4, F4.blkF hH hnh, F4.blkF hT hnn, hF.transD F4, kp _ ⟨rfl, rfl, trivial⟩⟩
    · skip
      refine c_reg ?_ -- region 6 build.go:74
      refine wl (ro_cmp (r := false) rfl rfl (congrArg some ((beqc t.what 1).trans (decide_eq_false (by omega))))) ?_
      refine wl (ro_assign rfl) ?_
      refine wl_nil (x_then (hK9 _ _ ?_))
      clear hK9 K9
      refine wc_condF rfl ?_
      refine c_seq (fun K10 hK10 => ?_)
      refine c_reg ?_ -- region 8 build.go:76
      refine wl (ro_cmp (r := true) rfl rfl (congrArg some ((beqc t.what 0).trans (decide_eq_true hwc)))) ?_
      refine wl (ro_assign rfl) ?_
      refine wl_nil (x_then (hK10 _ _ ?_))
      clear hK10 K10
      refine wc_condT rfl ?_
      refine c_reg ?_ -- region 9 build.go:77
      refine wl (ro_move rfl) ?_
      refine wl (ro_move rfl) ?_
      refine wl (ro_fieldAddr (k := 1) rfl fo_202_1) ?_
      refine wl (ro_loadB rfl sc_3 (hX) (rfl)) ?_
      refine wl_call rfl en_104 (open104 D (V2.re hB hO hK hR) hH hnh hsh hT hnn hle h24 hAR hq hwt) ?_
      rintro _ w4 ⟨rfl, V4, F4⟩
      refine wl_nil (x_blk (x_blk (x_then ?_)))
      have e9 : taskB t ⟨o, rs, W'⟩ = openB t.r ⟨o, rs, W'⟩ := by unfold taskB; rw [if_neg (by omega), if_pos hwc]
      exact ⟨m', by omega, _, hrun1, by rw [e9]; exact V4, F4.blkF hH hnh, F4.blkF hT hnn, hF.transD F4, kp _ ⟨rfl, rfl, trivial⟩⟩
    · skip
      refine c_reg ?_ -- region 6 build.go:74
      refine wl (ro_cmp (r := false) rfl rfl (congrArg some ((beqc t.what 1).trans (decide_eq_false (by omega))))) ?_
      refine wl (ro_assign rfl) ?_
      refine wl_nil (x_then (hK9 _ _ ?_))
      clear hK9 K9
      refine wc_condF rfl ?_
      refine c_seq (fun K11 hK11 => ?_)
      refine c_reg ?_ -- region 8 build.go:76
      refine wl (ro_cmp (r := false) rfl rfl (congrArg some ((beqc t.what 0).trans (decide_eq_false (by omega))))) ?_
      refine wl (ro_assign rfl) ?_
      refine wl_nil (x_then (hK11 _ _ ?_))
      clear hK11 K11
      refine wc_condF rfl ?_
      refine c_seq (fun K12 hK12 => ?_)
      refine c_reg ?_ -- region 10 build.go:78
      refine wl (ro_cmp (r := true) rfl rfl (congrArg some ((beqc t.what 2).trans (decide_eq_true hwc)))) ?_
      refine wl (ro_assign rfl) ?_
      refine wl_nil (x_then (hK12 _ _ ?_))
      clear hK12 K12
      refine wc_condT rfl ?_
      refine c_seq (fun K13 hK13 => ?_)
      refine c_reg ?_ -- region 11 build.go:79
      refine wl (ro_move rfl) ?_
      refine wl_call rfl en_105 (popRoot105 D (V2.re hB hO hK hR)) ?_
      rintro _ w4 ⟨rfl, hb4, V4, F4⟩
      replace hX := F4.blkF hX hxbn
      replace hH := F4.blkF hH hnh
      replace hT := F4.blkF hT hnn
      replace hF := hF.transD F4
      refine wl (ro_assign rfl) ?_
      refine wl_nil (x_then (hK13 _ _ ?_))
      clear hK13 K13
      refine forget [(0, _), (1, _), (6, _), (7, _)] ⟨rfl, rfl, rfl, rfl, trivial⟩ (fun e => ?_)
      refine c_seq (fun K14 hK14 => ?_)
      refine c_reg ?_ -- region 12 build.go:80
      refine wl (ro_move rfl) ?_
      refine wl_call rfl en_105 (popRoot105 D V4) ?_
      rintro _ w5 ⟨rfl, hb5, V5, F5⟩
      replace hX := F5.blkF hX hxbn
      replace hH := F5.blkF hH hnh
      replace hT := F5.blkF hT hnn
      replace hF := hF.transD F5
      refine wl (ro_assign rfl) ?_
      refine wl_nil (x_then (hK14 _ _ ?_))
      clear hK14 K14
      refine forget [(0, _), (1, _), (6, _), (7, _), (8, _)] ⟨rfl, rfl, rfl, rfl, rfl, trivial⟩ (fun e => ?_)
      refine c_seq (fun K15 hK15 => ?_)
      refine c_reg ?_ -- region 13 build.go:81
      refine wl (ro_move rfl) ?_
      refine wl (ro_move rfl) ?_
      refine wl (ro_fieldAddr (k := 1) rfl fo_202_1) ?_
      refine wl (ro_loadB rfl sc_3 (hX) (rfl)) ?_
      refine wl (ro_indexAddr (et := 89) (k := 11) rfl rfl se_98 (rfl) (hqT)) ?_
      refine wl (ro_fieldAddr (k := 0) rfl fo_89_0) ?_
      refine wl (ro_loadB rfl sc_3 (hT) (nd_cell (T := T) (r := t.r) (by omega) hcs2 hN.kind)) ?_
      refine wl (ro_move rfl) ?_
      refine wl (ro_move rfl) ?_
      refine wl_call rfl en_106 (node106 D V5 (fun _ ↦ okx_nd hb5 hb4)) ?_
      rintro _ w6 ⟨rfl, V6, F6⟩
      replace hH := F6.blkF hH hnh
      replace hT := F6.blkF hT hnn
      replace hF := hF.transD F6
      refine wl (ro_assign rfl) ?_
      refine wl_nil (x_then (hK15 _ _ ?_))
      clear hK15 K15
      refine c_reg ?_ -- region 14 build.go:82
      refine wl (ro_move rfl) ?_
      refine wl (ro_move rfl) ?_
      refine wl_call rfl en_107 (pushRoot107 D V6 (top_ge _).1 (top_ge _).2) ?_
      rintro _ w7 ⟨rfl, V7, F7⟩
      refine wl_nil (x_blk (x_blk (x_then ?_)))
      have e9 : taskB t ⟨o, rs, W'⟩ = putB { (⟨o, rs, W'⟩ : BS) with rs := (popB (popB rs).2).2 } (nd (kindR t.r) (popB (popB rs).2).1 (popB rs).1) := by unfold taskB; rw [if_neg (by omega), if_neg (by omega), if_pos hwc]
      exact ⟨m', by omega, _, hrun1, by rw [e9]; exact V7, F7.blkF hH hnh, F7.blkF hT hnn, hF.transD F7, kp _ ⟨rfl, rfl, trivial⟩⟩
    · skip
      refine c_reg ?_ -- region 6 build.go:74
      refine wl (ro_cmp (r := false) rfl rfl (congrArg some ((beqc t.what 1).trans (decide_eq_false (by omega))))) ?_
      refine wl (ro_assign rfl) ?_
      refine wl_nil (x_then (hK9 _ _ ?_))
      clear hK9 K9
      refine wc_condF rfl ?_
      refine c_seq (fun K16 hK16 => ?_)
      refine c_reg ?_ -- region 8 build.go:76
      refine wl (ro_cmp (r := false) rfl rfl (congrArg some ((beqc t.what 0).trans (decide_eq_false (by omega))))) ?_
      refine wl (ro_assign rfl) ?_
      refine wl_nil (x_then (hK16 _ _ ?_))
      clear hK16 K16
      refine wc_condF rfl ?_
      refine c_seq (fun K17 hK17 => ?_)
      refine c_reg ?_ -- region 10 build.go:78
      refine wl (ro_cmp (r := false) rfl rfl (congrArg some ((beqc t.what 2).trans (decide_eq_false (by omega))))) ?_
      refine wl (ro_assign rfl) ?_
      refine wl_nil (x_then (hK17 _ _ ?_))
      clear hK17 K17
      refine wc_condF rfl ?_
      refine c_seq (fun K18 hK18 => ?_)
      refine c_reg ?_ -- region 15 build.go:83
      refine wl (ro_cmp (r := true) rfl rfl (congrArg some ((beqc t.what 3).trans (decide_eq_true hwc)))) ?_
      refine wl (ro_assign rfl) ?_
      refine wl_nil (x_then (hK18 _ _ ?_))
      clear hK18 K18
      refine wc_condT rfl ?_
      refine c_seq (fun K19 hK19 => ?_)
      refine c_reg ?_ -- region 16 build.go:84
      refine wl (ro_move rfl) ?_
      refine wl_call rfl en_105 (popRoot105 D (V2.re hB hO hK hR)) ?_
      rintro _ w4 ⟨rfl, hb4, V4, F4⟩
      replace hX := F4.blkF hX hxbn
      replace hH := F4.blkF hH hnh
      replace hT := F4.blkF hT hnn
      replace hF := hF.transD F4
      refine wl (ro_assign rfl) ?_
      refine wl_nil (x_then (hK19 _ _ ?_))
      clear hK19 K19
      refine forget [(0, _), (1, _), (6, _), (10, _)] ⟨rfl, rfl, rfl, rfl, trivial⟩ (fun e => ?_)
      refine c_seq (fun K20 hK20 => ?_)
      have hadd := add108 (x := ⟨7, (popB rs).1, -1, 0, 0, capN t.r, false, 0⟩) D V4 (fun _ ↦ ⟨hb4.1, hb4.2, by show (-1 : Int) ≤ -1; omega, by show (-1 : Int) < _; omega⟩)
      simp only [ndP, ndc, ← wd00] at hadd
      refine c_reg ?_ -- region 17 build.go:85
      refine wl (ro_move rfl) ?_
      refine wl (ro_move rfl) ?_
      refine wl (ro_move rfl) ?_
      refine wl (ro_fieldAddr (k := 1) rfl fo_202_1) ?_
      refine wl (ro_loadB rfl sc_3 (hX) (rfl)) ?_
      refine wl (ro_indexAddr (et := 89) (k := 11) rfl rfl se_98 (rfl) (hqT)) ?_
      refine wl (ro_fieldAddr (k := 5) rfl fo_89_5) ?_
      refine wl (ro_loadB rfl sc_3 (hT) (nd_cell (T := T) (r := t.r) (by omega) hcs2 hN.capn)) ?_
      refine wl (ro_build rfl bld_89_0_1_2_5) ?_
      refine wl_call rfl en_108 (hadd) ?_
      rintro _ w6 ⟨rfl, V6, F6⟩
      replace hH := F6.blkF hH hnh
      replace hT := F6.blkF hT hnn
      replace hF := hF.transD F6
      refine wl (ro_assign rfl) ?_
      refine wl_nil (x_then (hK20 _ _ ?_))
      clear hK20 K20
      refine c_reg ?_ -- region 18 build.go:86
      refine wl (ro_move rfl) ?_
      refine wl (ro_move rfl) ?_
      refine wl_call rfl en_107 (pushRoot107 D V6 (top_ge _).1 (top_ge _).2) ?_
      rintro _ w7 ⟨rfl, V7, F7⟩
      refine wl_nil (x_blk (x_blk (x_then ?_)))
      have e9 : taskB t ⟨o, rs, W'⟩ = putB { (⟨o, rs, W'⟩ : BS) with rs := (popB rs).2 } ⟨7, (popB rs).1, -1, 0, 0, capN t.r, false, 0⟩ := by unfold taskB; rw [if_neg (by omega), if_neg (by omega), if_neg (by omega), if_pos hwc]
      exact ⟨m', by omega, _, hrun1, by rw [e9]; exact V7, F7.blkF hH hnh, F7.blkF hT hnn, hF.transD F7, kp _ ⟨rfl, rfl, trivial⟩⟩
    · skip
      refine c_reg ?_ -- region 6 build.go:74
      refine wl (ro_cmp (r := false) rfl rfl (congrArg some ((beqc t.what 1).trans (decide_eq_false (by omega))))) ?_
      refine wl (ro_assign rfl) ?_
      refine wl_nil (x_then (hK9 _ _ ?_))
      clear hK9 K9
      refine wc_condF rfl ?_
      refine c_seq (fun K21 hK21 => ?_)
      refine c_reg ?_ -- region 8 build.go:76
      refine wl (ro_cmp (r := false) rfl rfl (congrArg some ((beqc t.what 0).trans (decide_eq_false (by omega))))) ?_
      refine wl (ro_assign rfl) ?_
      refine wl_nil (x_then (hK21 _ _ ?_))
      clear hK21 K21
      refine wc_condF rfl ?_
      refine c_seq (fun K22 hK22 => ?_)
      refine c_reg ?_ -- region 10 build.go:78
      refine wl (ro_cmp (r := false) rfl rfl (congrArg some ((beqc t.what 2).trans (decide_eq_false (by omega))))) ?_
      refine wl (ro_assign rfl) ?_
      refine wl_nil (x_then (hK22 _ _ ?_))
      clear hK22 K22
      refine wc_condF rfl ?_
      refine c_seq (fun K23 hK23 => ?_)
      refine c_reg ?_ -- region 15 build.go:83
      refine wl (ro_cmp (r := false) rfl rfl (congrArg some ((beqc t.what 3).trans (decide_eq_false (by omega))))) ?_
      refine wl (ro_assign rfl) ?_
      refine wl_nil (x_then (hK23 _ _ ?_))
      clear hK23 K23
      refine wc_condF rfl ?_
      refine c_seq (fun K24 hK24 => ?_)
      refine c_reg ?_ -- region 19 build.go:87
      refine wl (ro_cmp (r := true) rfl rfl (congrArg some ((beqc t.what 4).trans (decide_eq_true hwc)))) ?_
      refine wl (ro_assign rfl) ?_
      refine wl_nil (x_then (hK24 _ _ ?_))
      clear hK24 K24
      refine wc_condT rfl ?_
      refine c_seq (fun K25 hK25 => ?_)
      obtain ⟨x, mn, rfl, hx1, hx2, hx3, hx4, hx5, hx6, hx7⟩ := hN.pn
      refine c_pi [(0, false), (1, false), (2, false), (3, false), (4, false), (5, false), (6, false), (7, false), (8, false), (9, false), (10, true), (11, false)] (fun w' => Blk w'.heap xb [i64c t.what, i64c q, i64c t.at', icv t.e] 202 ∧ FB w'.heap nb (cap * 11) c 89) mixed (by kernel_rfl) rfl (by kernel_rfl) (po_then (po_blk (po_blk (po_then (po_blk (po_then (po_bp))))))) (⟨hX, hT⟩) ?_ -- region 20 build.go:88
      refine pi_ro rfl (fun w hS => ro_move rfl) ?_
      refine pi_ro rfl (fun w hS => ro_move rfl) ?_
      refine pi_ro rfl (fun w hS => ro_fieldAddr (k := 1) rfl fo_202_1) ?_
      refine pi_ro rfl (fun w hS => ro_loadB rfl sc_3 (hS.1) (rfl)) ?_
      refine pi_ro rfl (fun w hS => ro_indexAddr (et := 89) (k := 11) rfl rfl se_98 (rfl) (hqT)) ?_
      refine pi_ro rfl (fun w hS => ro_loadAggB rfl ag_89 (hS.2) (rfl) (hldn)) ?_
      refine pi_ro rfl (fun w hS => ro_fieldAddr (k := 2) rfl fo_202_2) ?_
      refine pi_ro rfl (fun w hS => ro_loadB rfl sc_3 (hS.1) (rfl)) ?_
      refine pi_ro rfl (fun w hS => ro_fieldAddr (k := 3) rfl fo_202_3) ?_
      refine pi_ro rfl (fun w hS => ro_loadB rfl sc_3 (hS.1) (rfl)) ?_
      refine pi_call rfl rfl en_109 (unroll109 D ((V2.re hB hO hK hR).heap (sameH_now _ _)) hx4 hx5 hx6 hx7 hat he1 he2) ?_
      rintro _ w4 ⟨rfl, hb4, V4, F4⟩
      replace hX := F4.blkF hX hxbn
      replace hH := F4.blkF hH hnh
      replace hT := F4.blkF hT hnn
      replace hF := hF.transD F4
      refine ⟨⟨hX, hT⟩, ?_⟩
      refine pi_ro rfl (fun w hS => ro_assign rfl) ?_
      refine pi_nil (x_then (hK25 _ _ ?_))
      clear hK25 K25
      refine c_reg ?_ -- region 21 build.go:89
      refine wl (ro_move rfl) ?_
      refine wl (ro_move rfl) ?_
      refine wl_call rfl en_107 (pushRoot107 D V4 hb4.1 hb4.2) ?_
      rintro _ w7 ⟨rfl, V7, F7⟩
      refine wl_nil (x_blk (x_blk (x_then ?_)))
      have e9 : taskB t ⟨o, rs, W'⟩ = ⟨(unrB x t.at' t.e o (popB rs).1).1, rootB (popB rs).2 (unrB x t.at' t.e o (popB rs).1).2, W'⟩ := by unfold taskB; rw [if_neg (by omega), if_neg (by omega), if_neg (by omega), if_neg (by omega), unrB_congr hx1 hx2 hx3]
      exact ⟨m', by omega, _, hrun1, by rw [e9]; exact V7, F7.blkF hH hnh, F7.blkF hT hnn, hF.transD F7, kp _ ⟨rfl, rfl, trivial⟩⟩
  · try simp only [decide_eq_true_eq, decide_eq_false_iff_not, Bool.not_eq_true', Bool.not_eq_false', Bool.not_eq_eq_eq_not, Bool.not_true, Bool.not_false, beq_iff_eq, bne_iff_ne, ne_eq, beq_eq_false_iff_ne, bne_eq_false_iff_eq, gt_iff_lt, ge_iff_le, Int.not_lt, Int.not_le] at hc29
    refine c_exit (x_thenX (x_thenX (x_blkX (x_then (hK3 _ _ ?_)))))
    clear hK4 K4 hK3 K3
    refine c_reg ?_ -- region 22 build.go:92
    refine wl (ro_move rfl) ?_
    refine wl (ro_nilCheck rfl) ?_
    refine wl (ro_fieldAddr (k := 8) rfl fo_101_8) ?_
    refine wl_put rfl rfl rfl sz_3 hB ((by simp)) (rfl) (fun w7 hB F7 => ?_)
    replace hF := hF.thenDrew.thenO F7 (by first | exact .inr (by omega) | exact .inl rfl | exact .inl (by assumption))
    replace hO := F7.blkO hO (by omega)
    replace hK := F7.blkO hK (by omega)
    replace hR := F7.blkO hR (by omega)
    replace hH := F7.blkO hH (by omega)
    replace hT := F7.blkO hT (by omega)
    refine wl_nil ?_
    refine bp_end Tryz.results72 rfl ?_
    have hW0 : W = [] := by
      cases W with
      | nil => rfl
      | cons t W' => simp at hc29
    subst hW0
    rw [runB_nil, ← hfin] at hrun
    have ho : o = pl (child r) 0 := congrArg BS.o hrun
    have hol' : o.length = nds (child r) := by rw [ho, pl_len]
    refine ⟨rfl, ⟨fo, fw, fr', ?_, hO, hK, hR, fun k x hx => V.ov k x (by rw [← ho] at hx; exact hx)⟩, hF⟩
    rw [← hol']
    exact hB

end Go.Proofs.Qxb6500567aGreat
