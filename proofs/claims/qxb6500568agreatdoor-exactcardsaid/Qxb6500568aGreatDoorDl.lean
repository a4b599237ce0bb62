import Derived.Test.Qxb6500568aGreatDoorDk
/- The real tables: Next. -/
namespace Go.Proofs.Qxb6500568aGreatDoor
open Ieee
set_option linter.unusedVariables false
set_option linter.unusedSimpArgs false

section
variable {P : Program} {n : Nat} {e : Nat → Option Value} {w : World} {ds : List Deferred}
/-- Three results in cells: two structures and a number. -/
theorem res_ccs {fn : Func} {a b c ta tb tc k1 k2 ba bb bc t1 t2 t3 : Nat} {cs1 cs2 : List Value} {v : Value} (hrs : fn.results = #[.cell a ta, .cell b tb, .cell c tc]) (ha : evO n e (.tmp a) = some (ptr ba)) (hb : evO n e (.tmp b) = some (ptr bb)) (hc : evO n e (.tmp c) = some (ptr bc))
    (h1 : aggB P ta k1 = true) (h2 : aggB P tb k2 = true) (h3 : scalB P tc = true) (hA : Blk w.heap ba cs1 t1) (hB : Blk w.heap bb cs2 t2) (hC : Blk w.heap bc [v] t3) (l1 : cs1.length = k1) (l2 : cs2.length = k2) : (results fn (Fr n e ds).tmps).run P w = .ok (.tuple #[.agg cs1.toArray, .agg cs2.toArray, v]) w := by
  have g1 := getD_of_evO (ds := ds) ha
  have g2 := getD_of_evO (ds := ds) hb
  have g3 := getD_of_evO (ds := ds) hc
  have r1 := load_agg h1 hA l1
  have r2 := load_agg h2 hB l2
  have r3 := load_scal h3 hC
  rw [results_rv, hrs]
  simp only [ptr] at g1 g2 g3
  simp [rvM, Sem.run_bind, g1, g2, g3, asAddr, r1, r2, r3]
end
theorem own_blk {W W' : World} {row : Option Nat} {B b : Nat} {l : List Value} {t : TypeId} (h : Blk W.heap b l t) (hg : W.grownBy W' row) (hr : ∀ r, row = some r → B ≤ r ∧ ∃ o : Obj, W.heap[r]? = some o ∧ o.isCells = false) : Blk W'.heap b l t :=
  h.of_eq (hg.block b h.lt (fun e => by
    obtain ⟨_, o, ho, hc⟩ := hr b e.symm
    unfold Blk at h
    rw [h] at ho
    cases ho
    cases hc))
theorem own_fram {w W W' : World} {row : Option Nat} {B : Nat} (h : Fram none' w W) (hg : W.grownBy W' row) (hr : ∀ r, row = some r → B ≤ r ∧ ∃ o : Obj, W.heap[r]? = some o ∧ o.isCells = false) (hB : w.heap.size ≤ B) : Fram none' w W' :=
  ⟨hg.os.trans h.os, hg.tape.trans h.tape, hg.output.trans h.output, Nat.le_trans h.size hg.size, fun k hk _ => (hg.block k (Nat.lt_of_lt_of_le hk h.size) (fun e => by have := (hr k e.symm).1; omega)).trans (h.block k hk (fun h => h))⟩
theorem fold2 {n : Nat} {e : Nat → Option Value} {d1 d2 : Nat} {v1 v2 : Value} : ({ tmps := (#[d1, d2].zip #[v1, v2]).foldl (fun t (p : Nat × Value) => t.setIfInBounds p.1 p.2) (Fr n e []).tmps, defers := [] } : Act) = Fr n (upd (upd e d1 v1) d2 v2) [] := by
  rw [← put_some, ← put_some]
  simp [Act.put]
  rfl
theorem en_295 : Enters Tryz.prog 295 := enters_of Tryz.func295 (by kernel_rfl) (by kernel_rfl)
theorem fr_def {n : Nat} {e : Nat → Option Value} {X : Deferred} : ({ tmps := (Fr n e []).tmps, defers := X :: (Fr n e []).defers } : Act) = Fr n e [X] := rfl
theorem Fram.putO {W : World} {D : Nat} {o o' : Obj} (_ : W.heap[D]? = some o) : Fram (one D) W (W.putObj D o') := ⟨rfl, rfl, rfl, by simp, fun k hk hn => World.putObj_heap_other (fun q => hn q)⟩
theorem keeps3 {B b1 b2 b3 t1 t2 t3 : Nat} {l1 l2 l3 : List Value} {W W' : World} (h1 : Blk W.heap b1 l1 t1) (h2 : Blk W.heap b2 l2 t2) (h3 : Blk W.heap b3 l3 t3) (F : Fram (fun c => c = b1 ∨ c = b2 ∨ c = b3) W W') : KeepsFrom B W W' := by
  refine ⟨F.size, fun k o _ hk ho => ?_⟩
  rw [F.block k (Array.getElem?_eq_some_iff.1 hk).1 (fun q => ?_)]
  · exact hk
  · rcases q with q | q | q
    · subst q; rw [show W.heap[k]? = _ from h1] at hk; cases hk; cases ho
    · subst q; rw [show W.heap[k]? = _ from h2] at hk; cases hk; cases ho
    · subst q; rw [show W.heap[k]? = _ from h3] at hk; cases hk; cases ho
def nxI (s0 : Nat) (w : World) (b6 b7 b8 : Nat) (pre : List Plx) (W : World) : Prop := (pre = [] ∧ s0 ≤ W.heap.size) ∧ Fram none' w W ∧ Blk W.heap b6 (pvc vNil) 119 ∧ Blk W.heap b7 (pvc vNil) 119 ∧ Blk W.heap b8 [icv 0] 54
def nxX (w : World) (b6 b7 b8 : Nat) (c : Code) (pre : List Plx) (W : World) : Prop := c = .ret ∧ ∃ x, pre = [x] ∧ Fram none' w W ∧ Blk W.heap b6 (pvc x.2.1) 119 ∧ Blk W.heap b7 (pvc x.2.2) 119 ∧ Blk W.heap b8 [icv 0] 54
def nxA (b6 b7 b8 : Nat) (x : Plx) (a : Act) (W : World) : Prop := ∃ b, Blk W.heap b (enc x.2) 263 ∧ ∃ e, a = Fr 67 (upds e [(6, ptr b6), (7, ptr b7), (8, ptr b8), (14, ptr b)]) []
set_option maxHeartbeats 4000000 in
theorem Next288 {w : World} {ow : Nat → Nat} {nb xb h : Nat} {T : List Tb} {t : Tb} {k : PV} (hM : RTab w ow nb xb T) (hh : T[h]? = some t) (hk : wfV k = true) (hN : W64 k.N) : Ret Tryz.prog 288 [ptr xb, i64c h, pv k] w (fun r w' => nxR t k r ∧ Fram none' w w') := by
  have hF : Fram none' w w := Fram.refl _ _
  obtain ⟨L, cnt, hL, rfl⟩ := hM
  obtain ⟨hhc, m, hm, rfl⟩ := absT_get hh
  have hI := hL.ti h m hm
  obtain ⟨ab, cap, l, hX, hA, hl, q1, q2, q3, q4, q5, q6⟩ := hL.row hm
  have hTv := hL.tv h m hm
  have hcl := hL.cl
  have h32 := hI.ok.len
  obtain ⟨a1, c1', hvo⟩ := hTv.o.form
  have hA0 := hA
  have hAl := hA.lt
  have hOx : ∃ g lo, ∀ (i : Nat) x, m.R.ord[i]? = some x → a1 = some ⟨g, 0, none⟩ ∧ Blk w.heap g lo 263 ∧ (lo.drop (0 + i * 6)).take 6 = enc x := by
    by_cases h0 : 0 < m.R.ord.length
    · obtain ⟨y, hy⟩ : ∃ y, m.R.ord[0]? = some y := ⟨_, List.getElem?_eq_getElem h0⟩
      obtain ⟨g, cap2, lo, hv2, hO, k1, k2, k3, k4, k5⟩ := hTv.o.at enc_len hy
      rw [hvo] at hv2
      cases hv2
      exact ⟨g, lo, fun i x hx => ⟨rfl, hO, k5 i x hx⟩⟩
    · exact ⟨0, [], fun i x hx => by have := (List.getElem?_eq_some_iff.1 hx).1; omega⟩
  obtain ⟨go, lo, hOx⟩ := hOx
  refine retm_of Tryz.func288 rfl Tryz.ntmps288 rfl ?_
  refine c_seq (fun K1 hK1 => ?_)
  refine c_reg ?_ -- region 0 table.go:130
  refine wl_box rfl rfl (fun b5 w1 hbb5 h5 F1 => ?_)
  have hbsb5 := Nat.le_trans hF.size hbb5
  have hnexbb5 : xb < b5 := Nat.lt_of_lt_of_le hX.lt hbb5
  have hneabb5 : ab < b5 := Nat.lt_of_lt_of_le hA.lt hbb5
  replace hF := hF.thenDrew.thenN F1
  replace hX := F1.blkN hX
  replace hA := F1.blkN hA
  refine wl_new (ze_119) (fun b6 w2 hbb6 h6 F2 => ?_)
  have hbsb6 := Nat.le_trans hF.size hbb6
  have hnexbb6 : xb < b6 := Nat.lt_of_lt_of_le hX.lt hbb6
  have hneabb6 : ab < b6 := Nat.lt_of_lt_of_le hA.lt hbb6
  have hneb5b6 : b5 < b6 := Nat.lt_of_lt_of_le h5.lt hbb6
  replace hF := hF.thenDrew.thenN F2
  replace hX := F2.blkN hX
  replace hA := F2.blkN hA
  replace h5 := F2.blkN h5
  refine wl_new (ze_119) (fun b7 w3 hbb7 h7 F3 => ?_)
  have hbsb7 := Nat.le_trans hF.size hbb7
  have hnexbb7 : xb < b7 := Nat.lt_of_lt_of_le hX.lt hbb7
  have hneabb7 : ab < b7 := Nat.lt_of_lt_of_le hA.lt hbb7
  have hneb5b7 : b5 < b7 := Nat.lt_of_lt_of_le h5.lt hbb7
  have hneb6b7 : b6 < b7 := Nat.lt_of_lt_of_le h6.lt hbb7
  replace hF := hF.thenDrew.thenN F3
  replace hX := F3.blkN hX
  replace hA := F3.blkN hA
  replace h5 := F3.blkN h5
  replace h6 := F3.blkN h6
  refine wl_new (ze_54) (fun b8 w4 hbb8 h8 F4 => ?_)
  have hbsb8 := Nat.le_trans hF.size hbb8
  have hnexbb8 : xb < b8 := Nat.lt_of_lt_of_le hX.lt hbb8
  have hneabb8 : ab < b8 := Nat.lt_of_lt_of_le hA.lt hbb8
  have hneb5b8 : b5 < b8 := Nat.lt_of_lt_of_le h5.lt hbb8
  have hneb6b8 : b6 < b8 := Nat.lt_of_lt_of_le h6.lt hbb8
  have hneb7b8 : b7 < b8 := Nat.lt_of_lt_of_le h7.lt hbb8
  replace hF := hF.thenDrew.thenN F4
  replace hX := F4.blkN hX
  replace hA := F4.blkN hA
  replace h5 := F4.blkN h5
  replace h6 := F4.blkN h6
  replace h7 := F4.blkN h7
  refine wl_nil (x_then (hK1 _ _ ?_))
  clear hK1 K1
  refine c_seq (fun K2 hK2 => ?_)
  refine c_seq (fun K3 hK3 => ?_)
  refine c_reg ?_ -- region 1 table.go:131
  refine wl (ro_move rfl) ?_
  refine wl (ro_cmp (r := false) rfl rfl (congrArg some (decide_eq_false (by omega)))) ?_
  refine wl (ro_move rfl) ?_
  refine wlg_yes rfl (ro_move rfl) ?_
  refine wlg_yes rfl (ro_move rfl) ?_
  refine wlg_yes rfl (ro_nilCheck rfl) ?_
  refine wlg_yes rfl (ro_fieldAddr (k := 2) rfl fo_75_2) ?_
  refine wlg_yes rfl (ro_loadB rfl sc_3 (by assumption) rfl) ?_
  refine wlg_yes rfl (ro_cmp (r := false) rfl rfl (congrArg some (decide_eq_false (by omega)))) ?_
  refine wl (ro_pick rfl rfl rfl) ?_
  refine wl_nil (x_then (hK3 _ _ ?_))
  clear hK3 K3
  refine wc_condF rfl ?_
  refine c_skip (x_then (hK2 _ _ ?_))
  clear hK2 K2
  refine c_seq (fun K4 hK4 => ?_)
  refine c_seq (fun K5 hK5 => ?_)
  refine c_reg ?_ -- region 3 table.go:134
  refine wl (ro_loadAggB rfl ag_119 (by assumption) rfl rfl) ?_
  refine wl_call rfl en_51 (WF51 hk hN) ?_
  rintro _ w5 ⟨rfl, F5⟩
  replace hF := hF.thenDrew.thenN F5
  replace hX := F5.blkN hX
  replace hA := F5.blkN hA
  replace h5 := F5.blkN h5
  replace h6 := F5.blkN h6
  replace h7 := F5.blkN h7
  replace h8 := F5.blkN h8
  refine wl (ro_not rfl) ?_
  refine wl_nil (x_then (hK5 _ _ ?_))
  clear hK5 K5
  refine wc_condF rfl ?_
  refine c_skip (x_then (hK4 _ _ ?_))
  clear hK4 K4
  refine forget [(0, _), (1, _), (2, _), (5, _), (6, _), (7, _), (8, _), (15, _), (16, _), (17, _), (18, _), (19, _), (20, _), (21, _), (22, _), (23, _), (24, _), (27, _), (28, _), (29, _)] ⟨rfl, rfl, rfl, rfl, rfl, rfl, rfl, rfl, rfl, rfl, rfl, rfl, rfl, rfl, rfl, rfl, rfl, rfl, rfl, rfl, trivial⟩ (fun e => ?_)
  refine c_seq (fun K6 hK6 => ?_)
  refine c_reg ?_ -- region 5 table.go:137
  refine wl (ro_move rfl) ?_
  refine wl (ro_nilCheck rfl) ?_
  refine wl (ro_fieldAddr (k := 1) rfl fo_75_1) ?_
  refine wl (ro_loadB rfl sc_73 (by assumption) rfl) ?_
  refine wl (ro_move rfl) ?_
  refine wl (ro_indexAddr (et := 251) (k := 6) rfl rfl se_73 rfl (by omega)) ?_
  refine wl (ro_assign rfl) ?_
  refine wl_nil (x_then (hK6 _ _ ?_))
  clear hK6 K6
  refine forget [(0, _), (1, _), (2, _), (5, _), (6, _), (7, _), (8, _), (9, _), (15, _), (16, _), (17, _), (18, _), (19, _), (20, _), (21, _), (22, _), (23, _), (24, _), (27, _), (28, _), (29, _), (32, _), (33, _), (34, _), (35, _), (36, _), (37, _)] ⟨rfl, rfl, rfl, rfl, rfl, rfl, rfl, rfl, rfl, rfl, rfl, rfl, rfl, rfl, rfl, rfl, rfl, rfl, rfl, rfl, rfl, rfl, rfl, rfl, rfl, rfl, rfl, trivial⟩ (fun e => ?_)
  refine c_seq (fun K7 hK7 => ?_)
  refine c_reg ?_ -- region 6 table.go:138
  refine wl (ro_assign rfl) ?_
  refine wl_nil (x_then (hK7 _ _ ?_))
  clear hK7 K7
  refine c_mid (fun a' w' => ∃ (j0 : Nat) (z : Int), j0 ≤ m.R.ord.length ∧ z + 1 = (j0 : Int) ∧ tNext m.R.ord k = some (live (m.R.ord.drop j0)) ∧ Blk w'.heap b6 (pvc vNil) 119 ∧ Blk w'.heap b7 (pvc vNil) 119 ∧ Blk w'.heap b8 [icv 0] 54 ∧ Fram none' w w' ∧ ∃ e, a' = Fr 67 (upds e [(6, ptr b6), (7, ptr b7), (8, ptr b8), (9, ptrAt ab (0 + h * 6)), (10, icv z)]) []) ?_ ?_
  · skip
    refine c_seq (fun K8 hK8 => ?_)
    refine c_reg ?_ -- region 7 table.go:139
    refine wl (ro_fieldAddr (k := 0) rfl fo_119_0) ?_
    refine wl (ro_loadB rfl sc_3 (by assumption) rfl) ?_
    refine wl (ro_cmp rfl rfl rfl) ?_
    refine wl_nil (x_then (hK8 _ _ ?_))
    clear hK8 K8
    refine wc_cond rfl (fun hc40 => ?_) (fun hc40 => ?_)
    · try simp only [decide_eq_true_eq, decide_eq_false_iff_not, Bool.not_eq_true', Bool.not_eq_false', Bool.not_eq_eq_eq_not, Bool.not_true, Bool.not_false, beq_iff_eq, bne_iff_ne, ne_eq, beq_eq_false_iff_ne, bne_eq_false_iff_eq, gt_iff_lt, ge_iff_le, Int.not_lt, Int.not_le] at hc40
      refine c_seq (fun K9 hK9 => ?_)
      refine c_reg ?_ -- region 8 table.go:140
      refine wl (ro_move rfl) ?_
      refine wl (ro_loadAggB rfl ag_119 (by assumption) rfl rfl) ?_
      refine wl_call rfl en_143 (one143 hX hN) ?_
      rintro _ w6 ⟨rfl, F6⟩
      replace hF := hF.thenDrew.thenN F6
      replace hX := F6.blkN hX
      replace hA := F6.blkN hA
      replace h5 := F6.blkN h5
      replace h6 := F6.blkN h6
      replace h7 := F6.blkN h7
      replace h8 := F6.blkN h8
      refine wl (ro_move rfl) ?_
      refine wl (ro_extract rfl rfl) ?_
      refine wl (ro_extract rfl rfl) ?_
      refine wl_new (ze_119) (fun b11 w7 hbb11 h11 F7 => ?_)
      have hbsb11 := Nat.le_trans hF.size hbb11
      have hnexbb11 : xb < b11 := Nat.lt_of_lt_of_le hX.lt hbb11
      have hneabb11 : ab < b11 := Nat.lt_of_lt_of_le hA.lt hbb11
      have hneb5b11 : b5 < b11 := Nat.lt_of_lt_of_le h5.lt hbb11
      have hneb6b11 : b6 < b11 := Nat.lt_of_lt_of_le h6.lt hbb11
      have hneb7b11 : b7 < b11 := Nat.lt_of_lt_of_le h7.lt hbb11
      have hneb8b11 : b8 < b11 := Nat.lt_of_lt_of_le h8.lt hbb11
      replace hF := hF.thenDrew.thenN F7
      replace hX := F7.blkN hX
      replace hA := F7.blkN hA
      replace h5 := F7.blkN h5
      replace h6 := F7.blkN h6
      replace h7 := F7.blkN h7
      replace h8 := F7.blkN h8
      refine wl_puta rfl rfl ((pvc_one _)) sz_119 (rfl) h11 ((by simp)) (rfl) (fun w8 h11 F8 => ?_)
      replace hF := hF.thenDrew.thenO F8 (by first | exact .inr (by omega) | exact .inl rfl | exact .inl (by assumption) | assumption)
      replace hX := F8.blkO hX (by omega)
      replace hA := F8.blkO hA (by omega)
      replace h5 := F8.blkO h5 (by omega)
      replace h6 := F8.blkO h6 (by omega)
      replace h7 := F8.blkO h7 (by omega)
      replace h8 := F8.blkO h8 (by omega)
      refine wl (ro_assign rfl) ?_
      refine wl_nil (x_then (hK9 _ _ ?_))
      clear hK9 K9
      refine forget [(0, _), (1, _), (2, _), (5, _), (6, _), (7, _), (8, _), (9, _), (11, _), (12, _), (15, _), (16, _), (17, _), (18, _), (19, _), (20, _), (21, _), (22, _), (23, _), (24, _), (27, _), (28, _), (29, _), (32, _), (33, _), (34, _), (35, _), (36, _), (37, _), (38, _), (39, _), (40, _), (41, _), (42, _), (43, _), (44, _), (45, _), (46, _)] ⟨rfl, rfl, rfl, rfl, rfl, rfl, rfl, rfl, rfl, rfl, rfl, rfl, rfl, rfl, rfl, rfl, rfl, rfl, rfl, rfl, rfl, rfl, rfl, rfl, rfl, rfl, rfl, rfl, rfl, rfl, rfl, rfl, rfl, rfl, rfl, rfl, rfl, rfl, trivial⟩ (fun e => ?_)
      refine c_seq (fun K10 hK10 => ?_)
      refine c_reg ?_ -- region 9 table.go:141
      refine wl (ro_move rfl) ?_
      refine wl (ro_loadAggB rfl ag_119 (by assumption) rfl rfl) ?_
      refine wl (ro_move rfl) ?_
      refine wl_call rfl en_144 (find144' hA hl (hTv.farN hF) hI hk hN) ?_
      rintro _ w9 ⟨rfl, F9⟩
      replace hF := hF.thenDrew.thenN F9
      replace hX := F9.blkN hX
      replace hA := F9.blkN hA
      replace h5 := F9.blkN h5
      replace h6 := F9.blkN h6
      replace h7 := F9.blkN h7
      replace h8 := F9.blkN h8
      replace h11 := F9.blkN h11
      refine wl (ro_assign rfl) ?_
      refine wl_nil (x_then (hK10 _ _ ?_))
      clear hK10 K10
      refine forget [(0, _), (1, _), (2, _), (5, _), (6, _), (7, _), (8, _), (9, _), (10, _), (11, _), (12, _), (15, _), (16, _), (17, _), (18, _), (19, _), (20, _), (21, _), (22, _), (23, _), (24, _), (27, _), (28, _), (29, _), (32, _), (33, _), (34, _), (35, _), (36, _), (37, _), (38, _), (39, _), (40, _), (41, _), (42, _), (43, _), (44, _), (45, _), (46, _), (47, _), (48, _), (49, _), (50, _)] ⟨rfl, rfl, rfl, rfl, rfl, rfl, rfl, rfl, rfl, rfl, rfl, rfl, rfl, rfl, rfl, rfl, rfl, rfl, rfl, rfl, rfl, rfl, rfl, rfl, rfl, rfl, rfl, rfl, rfl, rfl, rfl, rfl, rfl, rfl, rfl, rfl, rfl, rfl, rfl, rfl, rfl, rfl, rfl, trivial⟩ (fun e => ?_)
      refine c_seq (fun K11 hK11 => ?_)
      refine c_reg ?_ -- region 10 table.go:142
      refine wl (ro_move rfl) ?_
      refine wl (ro_cmp rfl rfl rfl) ?_
      refine wl_nil (x_then (hK11 _ _ ?_))
      clear hK11 K11
      refine wc_cond rfl (fun hc52 => ?_) (fun hc52 => ?_)
      · try simp only [decide_eq_true_eq, decide_eq_false_iff_not, Bool.not_eq_true', Bool.not_eq_false', Bool.not_eq_eq_eq_not, Bool.not_true, Bool.not_false, beq_iff_eq, bne_iff_ne, ne_eq, beq_eq_false_iff_ne, bne_eq_false_iff_eq, gt_iff_lt, ge_iff_le, Int.not_lt, Int.not_le] at hc52
        have hp := plc_neg hc52
        refine c_seq (fun K12 hK12 => ?_)
        refine c_reg ?_ -- region 11 table.go:143
        refine wl (ro_build rfl bld_119) ?_
        refine wl (ro_build rfl bld_119) ?_
        refine wl_puta rfl rfl ((by (try exact vlc_cells _); all_goals simp [Value.oneCell', i64c, icv, u64c, u8c, ptr, S])) sz_119 (rfl) h6 ((by simp)) (rfl) (fun w10 h6 F10 => ?_)
        replace hF := hF.thenDrew.thenO F10 (by first | exact .inr (by omega) | exact .inl rfl | exact .inl (by assumption) | assumption)
        replace hX := F10.blkO hX (by omega)
        replace hA := F10.blkO hA (by omega)
        replace h5 := F10.blkO h5 (by omega)
        replace h7 := F10.blkO h7 (by omega)
        replace h8 := F10.blkO h8 (by omega)
        replace h11 := F10.blkO h11 (by omega)
        refine wl_puta rfl rfl ((by (try exact vlc_cells _); all_goals simp [Value.oneCell', i64c, icv, u64c, u8c, ptr, S])) sz_119 (rfl) h7 ((by simp)) (rfl) (fun w11 h7 F11 => ?_)
        replace hF := hF.thenDrew.thenO F11 (by first | exact .inr (by omega) | exact .inl rfl | exact .inl (by assumption) | assumption)
        replace hX := F11.blkO hX (by omega)
        replace hA := F11.blkO hA (by omega)
        replace h5 := F11.blkO h5 (by omega)
        replace h6 := F11.blkO h6 (by omega)
        replace h8 := F11.blkO h8 (by omega)
        replace h11 := F11.blkO h11 (by omega)
        refine wl_put rfl rfl rfl sz_54 h8 (by simp) (rfl) (fun w12 h8 F12 => ?_)
        replace hF := hF.thenDrew.thenO F12 (by first | exact .inr (by omega) | exact .inl rfl | exact .inl (by assumption) | assumption)
        replace hX := F12.blkO hX (by omega)
        replace hA := F12.blkO hA (by omega)
        replace h5 := F12.blkO h5 (by omega)
        replace h6 := F12.blkO h6 (by omega)
        replace h7 := F12.blkO h7 (by omega)
        replace h11 := F12.blkO h11 (by omega)
        refine wl_nil (x_then (hK12 _ _ ?_))
        clear hK12 K12
        refine c_ret (x_thenR ?_)
        refine bpm_ret (res_ccs Tryz.results288 rfl rfl rfl ag_119 ag_119 sc_54 h6 h7 h8 rfl rfl) ?_
        exact ⟨by unfold nxR tNext; rw [if_neg (by omega), hp]; rfl, hF⟩
      · try simp only [decide_eq_true_eq, decide_eq_false_iff_not, Bool.not_eq_true', Bool.not_eq_false', Bool.not_eq_eq_eq_not, Bool.not_true, Bool.not_false, beq_iff_eq, bne_iff_ne, ne_eq, beq_eq_false_iff_ne, bne_eq_false_iff_eq, gt_iff_lt, ge_iff_le, Int.not_lt, Int.not_le] at hc52
        obtain ⟨i, p, hp0, hp1, hp2⟩ := plc_pos hc52
        have hil := (List.getElem?_eq_some_iff.1 hp2).1
        rw [hp1]
        have hst : ∃ j, j ≤ m.R.ord.length ∧ ((i : Int) + 1 = (j : Int)) ∧ tNext m.R.ord k = some (live (m.R.ord.drop j)) := ⟨i + 1, by omega, by omega, by unfold tNext; rw [if_neg (by omega), hp0]; rfl⟩
        refine c_skip (x_then ?_)
        obtain ⟨j0, hj0, hj1, hj2⟩ := hst
        exact ⟨j0, _, hj0, hj1, hj2, h6, h7, h8, hF, kp _ ⟨rfl, rfl, rfl, rfl, rfl, trivial⟩⟩
    · try simp only [decide_eq_true_eq, decide_eq_false_iff_not, Bool.not_eq_true', Bool.not_eq_false', Bool.not_eq_eq_eq_not, Bool.not_true, Bool.not_false, beq_iff_eq, bne_iff_ne, ne_eq, beq_eq_false_iff_ne, bne_eq_false_iff_eq, gt_iff_lt, ge_iff_le, Int.not_lt, Int.not_le] at hc40
      have hst : ∃ j, j ≤ m.R.ord.length ∧ ((-1 : Int) + 1 = (j : Int)) ∧ tNext m.R.ord k = some (live (m.R.ord.drop j)) := ⟨0, by omega, by omega, by unfold tNext; rw [if_pos (by omega)]; rfl⟩
      refine c_skip (x_then ?_)
      obtain ⟨j0, hj0, hj1, hj2⟩ := hst
      exact ⟨j0, _, hj0, hj1, hj2, h6, h7, h8, hF, kp _ ⟨rfl, rfl, rfl, rfl, rfl, trivial⟩⟩
  have hz6 := hbb6
  have hzF := hF.size
  clear h5 h6 h7 h8 hA hX hF
  rintro a' u0 ⟨j0, z, hj0, hj1, hj2, h6, h7, h8, hF, e, rfl⟩
  refine c_seq (fun K13 hK13 => ?_)
  refine c_seq (fun K14 hK14 => ?_)
  refine c_reg ?_ -- region 12 table.go:146
  refine wl (ro_move rfl) ?_
  refine wl (ro_move rfl) ?_
  refine wl (ro_arith (r := (j0 : Int)) rfl rfl (congrArg some hj1) (Go.IntWalk.i64_in _ (by omega))) ?_
  refine wl_call rfl en_278 (places278 (fr := j0)) ?_
  rintro _ w13 ⟨⟨c1, c2, c3, rfl, hc1, hc2, hc3, z1, z2, z3⟩, F13⟩
  replace hF := hF.thenDrew.thenN F13
  replace h6 := F13.blkN h6
  replace h7 := F13.blkN h7
  replace h8 := F13.blkN h8
  refine wl_nil (x_then (hK14 _ _ ?_))
  clear hK14 K14
  refine c_block ?_
  have hzw := hF.size
  have hA := hF.blkN hA0
  refine ⟨wpIn_wide.1 (wpIn_rangeFunc_ownH (n := 3) (F := Fence.wide) rfl (by omega) (gf := 295) (lb := #[ptr c1, ptr c2, ptr c3]) (evO_eval rfl) trivial en_295
    (places_stops (g := go) (lo := lo) hc1 hc2 hc3 hA hl hI.ok hvo (fun i x hx => ⟨(hOx i x hx).1, hF.blkN (hOx i x hx).2.1, (hOx i x hx).2.2⟩) (by omega)) belowK_t (belowK_b (Nat.le_refl _)) (Go.RowKit.Below.refl _ _) (fun _ => rfl)
    (nxI w13.heap.size w b6 b7 b8) (nxX w b6 b7 b8) ?hI ?hIx ⟨⟨rfl, Nat.le_refl _⟩, hF, h6, h7, h8⟩ (nxA b6 b7 b8) ?hAx ?assign ?body ?done ?stop)⟩
  case hI => exact fun s X Y row hs hg hr => ⟨⟨hs.1.1, Nat.le_trans hs.1.2 hg.size⟩, own_fram hs.2.1 hg hr hzw, own_blk hs.2.2.1 hg hr, own_blk hs.2.2.2.1 hg hr, own_blk hs.2.2.2.2 hg hr⟩
  case hIx => exact fun c s X Y row ⟨r1, x, r2, r3, r4, r5, r6⟩ hg hr => ⟨r1, x, r2, own_fram r3 hg hr hzw, own_blk r4 hg hr, own_blk r5 hg hr, own_blk r6 hg hr⟩
  case hAx => exact fun x a' _ X Y row ⟨b, r1, r2⟩ hg hr => ⟨b, own_blk r1 hg hr, r2⟩
  case assign =>
    intro ly pre x W K hi hK
    rw [show encP x = #[i64c x.1, .agg (enc x.2).toArray] from rfl, fold2]
    refine i_reg (by decide) (fun ⟨_, _, q⟩ => q) ?_
    refine wl_new ze_263 (fun b u hb hB F1 => ?_)
    refine wl_puta rfl rfl (enc_one _) sz_263 rfl hB (by simp) rfl (fun u2 hB2 F2 => ?_)
    have F3 : Fram none' W u2 := ⟨F2.os.trans F1.os, F2.tape.trans F1.tape, F2.output.trans F1.output, Nat.le_trans F1.size F2.size, fun k hk _ => (F2.block k (by have := F1.size; omega) (fun q => by have : k = b := q; omega)).trans (F1.block k hk (fun h => h))⟩
    refine wl_nil (x_then (hK _ _ ?_ (F3.blw _ ?_) ⟨⟨hi.1.1, Nat.le_trans hi.1.2 F3.size⟩, hi.2.1.trans F3, F3.blkN hi.2.2.1, F3.blkN hi.2.2.2.1, F3.blkN hi.2.2.2.2⟩ ⟨b, hB2, kp _ ⟨rfl, rfl, rfl, rfl, trivial⟩⟩))
    · exact ⟨F3.size, fun k o _ hk ho => by rw [F3.block k (Array.getElem?_eq_some_iff.1 hk).1 (fun h => h)]; exact hk⟩
    · exact hi.1.2
  case body =>
    rintro ly pre x a' W hly _ ⟨⟨rfl, _⟩, hFi, r6, r7, r8⟩ ⟨b, hB, ei, rfl⟩ _
    have n6 : b6 ≠ b := Blk.ne_ty r6 hB (by decide)
    have n7 : b7 ≠ b := Blk.ne_ty r7 hB (by decide)
    have n8 : b8 ≠ b := Blk.ne_ty r8 hB (by decide)
    refine wpIn_block (wpIn_seq_k fun K hK => ?_)
    refine i_pi (S := fun _ => True) [(0, false), (1, false), (2, false), (3, false), (4, true), (5, true), (6, true)] (fun u => Blk u.heap b (enc x.2) 263) mixed (by kernel_rfl) rfl (by kernel_rfl) (by kernel_rfl) (fun ⟨_, _, q⟩ => q) (fun c a a' w _ q => q) hB ?_
    refine pi_ro rfl (fun w hS => ro_fieldAddr (k := 0) rfl fo_263_0) ?_
    refine pi_ro rfl (fun w hS => ro_loadAggB rfl ag_119 hS rfl rfl) ?_
    refine pi_ro rfl (fun w hS => ro_fieldAddr (k := 3) rfl fo_263_1) ?_
    refine pi_ro rfl (fun w hS => ro_loadAggB rfl ag_119 hS rfl rfl) ?_
    refine pi_putam rfl rfl rfl (pvc_one _) sz_119 rfl r6 (by simp) rfl (fun w1 hB1 F => F.blkO hB (Ne.symm n6)) (fun u1 s6 G6 => ?_)
    have s7 := G6.blkO r7 (by omega)
    have s8 := G6.blkO r8 (by omega)
    have sB := G6.blkO hB (Ne.symm n6)
    refine pi_putam rfl rfl rfl (pvc_one _) sz_119 rfl s7 (by simp) rfl (fun w1 hB1 F => F.blkO sB (Ne.symm n7)) (fun u2 s7 G7 => ?_)
    have s6 := G7.blkO s6 (by omega)
    have s8 := G7.blkO s8 (by omega)
    have sB := G7.blkO sB (Ne.symm n7)
    refine pi_putm rfl rfl rfl rfl sz_54 s8 (by simp) rfl (fun w1 hB1 F => F.blkO sB (Ne.symm n8)) (fun u3 s8 G8 => ?_)
    have s6 := G8.blkO s6 (by omega)
    have s7 := G8.blkO s7 (by omega)
    have G : Fram (fun c => c = b6 ∨ c = b7 ∨ c = b8) W u3 := (((Fram.drew _ W _).trans (G6.mono (fun c _ q => .inl q))).trans (G7.mono (fun c _ q => .inr (.inl q)))).trans (G8.mono (fun c _ q => .inr (.inr q)))
    refine pi_nil (x_then (hK _ _ (wpIn_ret ?_)))
    refine ⟨keeps3 r6 r7 r8 G, rfl, x, rfl, hFi.trans' G (fun c hc q => by rcases q with q | q | q <;> omega), s6, s7, s8⟩
  case stop =>
    rintro D c pre W hD hSp ⟨rfl, x, rfl, hF, h6, h7, h8⟩ hdf
    refine wpIn_ret ?_
    rw [fr_def]
    refine x_blkR (x_thenR ?_)
    have hDn : ∀ b l t, Blk W.heap b l t → b ≠ D := fun b l t hB q => by subst q; unfold Blk at hB; rw [hB] at hdf; cases hdf
    have hP : Fram (one D) W (W.putObj D (.deferred none)) := ⟨rfl, rfl, rfl, by simp, fun k hk hn => World.putObj_heap_other (fun q => hn q)⟩
    refine bpm_retD hdf (res_ccs Tryz.results288 rfl rfl rfl ag_119 ag_119 sc_54 (hP.blkO h6 (hDn _ _ _ h6)) (hP.blkO h7 (hDn _ _ _ h7)) (hP.blkO h8 (hDn _ _ _ h8)) rfl rfl) ⟨?_, hF.trans' hP (fun c hc q => by have : c = D := q; omega)⟩
    have hlv := (hSp x rfl).1
    unfold nxR
    rw [hj2, hlv]
    rfl
  rintro D xs W hD hS ⟨⟨rfl, _⟩, hF, h6, h7, h8⟩ hdf
  rw [fr_def]
  have hDn : ∀ b l t, Blk W.heap b l t → D ≠ b := fun b l t hB q => by subst q; unfold Blk at hB; rw [hB] at hdf; cases hdf
  have d6 := hDn _ _ _ h6
  have d7 := hDn _ _ _ h7
  have d8 := hDn _ _ _ h8
  have hDl := (Array.getElem?_eq_some_iff.1 hdf).1
  have hW : Fram (fun c => c = b6 ∨ c = b7 ∨ c = b8) W W := Fram.refl _ _
  have m6 : b6 = b6 ∨ b6 = b7 ∨ b6 = b8 := .inl rfl
  have m7 : b7 = b6 ∨ b7 = b7 ∨ b7 = b8 := .inr (.inl rfl)
  have m8 : b8 = b6 ∨ b8 = b7 ∨ b8 = b8 := .inr (.inr rfl)
  refine x_blk (x_then (hK13 _ _ ?_))
  clear hK13 K13
  refine forget [(6, _), (7, _), (8, _)] ⟨rfl, rfl, rfl, trivial⟩ (fun e => ?_)
  refine c_seq (fun K15 hK15 => ?_)
  refine c_reg ?_ -- region 15 table.go:149
  refine wl (ro_build rfl bld_119) ?_
  refine wl (ro_build rfl bld_119) ?_
  refine wl_puta rfl rfl ((pvc_one vNil)) sz_119 (rfl) h6 ((by simp)) (rfl) (fun w14 h6 F14 => ?_)
  replace hF := hF.thenDrew.thenO F14 (by first | exact .inr (by omega) | exact .inl rfl | exact .inl (by assumption) | assumption)
  replace h7 := F14.blkO h7 (by omega)
  replace h8 := F14.blkO h8 (by omega)
  replace hW := hW.thenDrew.thenO F14 (by first | exact .inr (by omega) | exact .inl rfl | exact .inl (by assumption) | assumption)
  refine wl_puta rfl rfl ((pvc_one vNil)) sz_119 (rfl) h7 ((by simp)) (rfl) (fun w15 h7 F15 => ?_)
  replace hF := hF.thenDrew.thenO F15 (by first | exact .inr (by omega) | exact .inl rfl | exact .inl (by assumption) | assumption)
  replace h6 := F15.blkO h6 (by omega)
  replace h8 := F15.blkO h8 (by omega)
  replace hW := hW.thenDrew.thenO F15 (by first | exact .inr (by omega) | exact .inl rfl | exact .inl (by assumption) | assumption)
  refine wl_put rfl rfl rfl sz_54 h8 ((by simp)) (rfl) (fun w16 h8 F16 => ?_)
  replace hF := hF.thenDrew.thenO F16 (by first | exact .inr (by omega) | exact .inl rfl | exact .inl (by assumption) | assumption)
  replace h6 := F16.blkO h6 (by omega)
  replace h7 := F16.blkO h7 (by omega)
  replace hW := hW.thenDrew.thenO F16 (by first | exact .inr (by omega) | exact .inl rfl | exact .inl (by assumption) | assumption)
  refine wl_nil (x_then (hK15 _ _ ?_))
  clear hK15 K15
  refine c_ret ?_
  have hdf2 := (hW.block D hDl (fun q => by rcases q with q | q | q <;> omega)).trans hdf
  refine bpm_retD hdf2 (res_ccs Tryz.results288 rfl rfl rfl ag_119 ag_119 sc_54 ((Fram.putO hdf2).blkO h6 (Ne.symm d6)) ((Fram.putO hdf2).blkO h7 (Ne.symm d7)) ((Fram.putO hdf2).blkO h8 (Ne.symm d8)) rfl rfl) ⟨?_, hF.trans' (Fram.putO hdf2) (fun c hc q => by have : c = D := q; omega)⟩
  have hlv := hS rfl
  unfold nxR
  rw [hj2, hlv]
  rfl

end Go.Proofs.Qxb6500568aGreatDoor
