import Derived.Test.Qxb6500568aGreatDoorDc
/- The real tables: all of them; Get, Len, Count, New. -/
namespace Go.Proofs.Qxb6500568aGreatDoor
open Ieee
set_option linter.unusedVariables false
set_option linter.unusedSimpArgs false

def rt0 : RT := ⟨[], [], fun _ => none, fun _ => none, fun _ => none, 0⟩
structure TBV (w : World) (ow : Nat → Nat) (nb xb : Nat) (L : List TM) (cnt : Nat) : Prop where
  x : ∃ V, Blk w.heap xb [ptr nb, V, i64c cnt] 75 ∧ OwT w ow 51 V 251 6 L.length (rws tmc L)
  xt : ow xb = 50
  cl : cnt ≤ L.length
  l12 : L.length ≤ 12
  tv : ∀ (h : Nat) t, L[h]? = some t → TV w ow (100 + 8 * h) t
  ti : ∀ (h : Nat) t, L[h]? = some t → TI t.R
  rest : ∀ (h : Nat) t, cnt ≤ h → L[h]? = some t → t.R = rt0
def absT (L : List TM) (cnt : Nat) : List Tb := (L.take cnt).map fun t => t.R.ord
/-- The real tables at xb. -/
def RTab (w : World) (ow : Nat → Nat) (nb xb : Nat) (T : List Tb) : Prop := ∃ L cnt, TBV w ow nb xb L cnt ∧ T = absT L cnt
def rtag (t : Nat) : Prop := t = 50 ∨ t = 51 ∨ (100 ≤ t ∧ t < 200)
theorem TBV.far {w w' : World} {ow ow' : Nat → Nat} {nb xb : Nat} {L : List TM} {cnt : Nat} {G : Nat → Prop} (h : TBV w ow nb xb L cnt) (f : Fram G w w') (hn : ∀ b, rtag (ow b) → b < w.heap.size → ¬ G b) (hE : Xt w ow ow') : TBV w' ow' nb xb L cnt := by
  obtain ⟨V, h1, h2⟩ := h.x
  refine ⟨⟨V, h1.fram f (hn xb (.inl h.xt) h1.lt), h2.far f (fun b hb hl => hn b (.inr (.inl hb)) hl) hE⟩, by rw [hE xb h1.lt]; exact h.xt, h.cl, h.l12, fun i t hi => ?_, h.ti, h.rest⟩
  have hl := (List.getElem?_eq_some_iff.1 hi).1
  have := h.l12
  exact (h.tv i t hi).far f (fun b q1 q2 q3 => hn b (.inr (.inr (by omega))) q3) hE
theorem TBV.farN {w w' : World} {ow : Nat → Nat} {nb xb : Nat} {L : List TM} {cnt : Nat} (h : TBV w ow nb xb L cnt) (f : Fram none' w w') : TBV w' ow nb xb L cnt := h.far f (fun _ _ _ h => h) (Xt.refl _ _)
theorem RTab.far {w w' : World} {ow ow' : Nat → Nat} {nb xb : Nat} {T : List Tb} {G : Nat → Prop} (h : RTab w ow nb xb T) (f : Fram G w w') (hn : ∀ b, rtag (ow b) → b < w.heap.size → ¬ G b) (hE : Xt w ow ow') : RTab w' ow' nb xb T := by
  obtain ⟨L, cnt, h1, h2⟩ := h; exact ⟨L, cnt, h1.far f hn hE, h2⟩
theorem RTab.farN {w w' : World} {ow : Nat → Nat} {nb xb : Nat} {T : List Tb} (h : RTab w ow nb xb T) (f : Fram none' w w') : RTab w' ow nb xb T := h.far f (fun _ _ _ h => h) (Xt.refl _ _)
theorem absT_get {L : List TM} {cnt h : Nat} {t : Tb} (hh : (absT L cnt)[h]? = some t) : h < cnt ∧ ∃ m, L[h]? = some m ∧ m.R.ord = t := by
  unfold absT at hh
  rw [List.getElem?_map, List.getElem?_take] at hh
  split at hh
  · rename_i hl
    cases hm : L[h]? with
    | none => rw [hm] at hh; cases hh
    | some m => rw [hm] at hh; exact ⟨hl, m, rfl, by simpa using hh⟩
  · cases hh
theorem absT_len {L : List TM} {cnt : Nat} (h : cnt ≤ L.length) : (absT L cnt).length = cnt := by unfold absT; rw [List.length_map, List.length_take]; omega
theorem TBV.row {w : World} {ow : Nat → Nat} {nb xb : Nat} {L : List TM} {cnt h : Nat} {m : TM} (hT : TBV w ow nb xb L cnt) (hh : L[h]? = some m) :
    ∃ ab cap l, Blk w.heap xb [ptr nb, .slice (some ⟨ab, 0, none⟩) L.length cap, i64c cnt] 75 ∧ Blk w.heap ab l 251 ∧ (l.drop (0 + h * 6)).take 6 = tmc m ∧ ow ab = 51 ∧ h < L.length ∧ L.length ≤ cap ∧ cap ≤ 9223372036854775807 ∧ l.length = cap * 6 ∧ l.take (L.length * 6) = rws tmc L := by
  obtain ⟨V, h1, h2⟩ := hT.x
  obtain ⟨g, cap, l, hV, hB, k1, k2, k3, k4, k5⟩ := h2.at tmc_len hh
  have hc := h2.cap hV
  subst hV
  exact ⟨g, cap, l, h1, hB, k5 h m hh, k4, (List.getElem?_eq_some_iff.1 hh).1, k1, hc, k2, k3⟩
theorem K1_nrm {k : PV} (hk : wfV k = true) (hN : W64 k.N) : K1 (nrmK k) := by
  have hT := nrmK_T k
  constructor
  · unfold nrmK; split
    · show (0 : Nat) < 18446744073709551616; decide
    · exact hN
  · intro h2 h3
    rw [hT] at h2 h3
    have e : nrmK k = k := by unfold nrmK; rw [if_neg (fun h => h2 h.1)]
    rw [e]
    unfold wfV at hk
    rw [if_neg h3] at hk
    split at hk
    · rename_i hs
      refine ⟨hs.2, ?_⟩
      split at hk
      · have : k.N = 0 := by simpa using hk
        omega
      · split at hk
        · have : k.N ≤ 1 := by simpa using hk
          omega
        · split at hk
          · simp only [Bool.and_eq_true, decide_eq_true_eq] at hk; omega
          · split at hk
            · simpa using hk
            · rename_i a b c d; exfalso; omega
    · cases hk
theorem ti_bds {t : RT} (h : TI t) : t.arr.length ≤ 32 ∧ (∀ p ∈ t.arr, p < 2147483648) := by
  refine ⟨h.alen, fun p hp => ?_⟩
  obtain ⟨i, hi⟩ := List.getElem?_of_mem hp
  obtain ⟨v, hv⟩ := h.arrI i p hi
  have := (List.getElem?_eq_some_iff.1 hv).1
  have := h.ok.len
  omega
/-- find, of a key. -/
theorem find144' {w : World} {ow : Nat → Nat} {ab o tag : Nat} {l : List Value} {t : TM} {k : PV} (hA : Blk w.heap ab l 251) (hl : (l.drop o).take 6 = tmc t) (hT : TV w ow tag t) (hI : TI t.R) (hk : wfV k = true) (hN : W64 k.N) :
    Ret Tryz.prog 144 [ptrAt ab o, pv (nrmK k), icv (whoK k)] w (fun r w' => r = icv (plc t.R.ord (nrmK k)) ∧ Fram none' w w') := by
  have hfo := find_ok hI hk hN
  refine (find144 hA hl hT (ti_bds hI) (K1_nrm hk hN) (fun p hp => ?_)).mono fun r w' ⟨h1, h2⟩ => ⟨?_, h2⟩
  · rw [hfo] at hp
    have := place_lt hp
    have := hI.ok.len
    omega
  · rw [h1, hfo]; rfl
set_option maxHeartbeats 4000000 in
theorem Get270 {w : World} {ow : Nat → Nat} {nb xb h : Nat} {T : List Tb} {t : Tb} {k : PV} (hM : RTab w ow nb xb T) (hh : T[h]? = some t) (hk : wfV k = true) (hN : W64 k.N) : Ret Tryz.prog 270 [ptr xb, i64c h, pv k] w (fun r w' => r = .tuple #[pv (tGet t k), icv 0] ∧ Fram none' w w') := by
  have hF : Fram none' w w := Fram.refl _ _
  obtain ⟨L, cnt, hL, rfl⟩ := hM
  obtain ⟨hhc, m, hm, rfl⟩ := absT_get hh
  have hI := hL.ti h m hm
  obtain ⟨ab, cap, l, hX, hA, hl, q1, q2, q3, q4, q5, q6⟩ := hL.row hm
  have hTv := hL.tv h m hm
  have hcl := hL.cl
  refine ret_of Tryz.func270 rfl Tryz.ntmps270 rfl ?_
  refine c_seq (fun K1 hK1 => ?_)
  refine c_reg ?_ -- region 0 table.go:73
  refine wl_box rfl rfl (fun b5 w1 hbb5 h5 F1 => ?_)
  have hbsb5 := Nat.le_trans hF.size hbb5
  have hnexbb5 : xb < b5 := Nat.lt_of_lt_of_le hX.lt hbb5
  have hneabb5 : ab < b5 := Nat.lt_of_lt_of_le hA.lt hbb5
  replace hF := hF.thenDrew.thenN F1
  replace hX := F1.blkN hX
  replace hA := F1.blkN hA
  refine wl_new (ze_119) (fun b6 w2 hbb6 h6 F2 => ?_)
  have hbsb6 := Nat.le_trans hF.size hbb6
  have hnexbb6 : xb < b6 := Nat.lt_of_lt_of_le hX.lt hbb6
  have hneabb6 : ab < b6 := Nat.lt_of_lt_of_le hA.lt hbb6
  have hneb5b6 : b5 < b6 := Nat.lt_of_lt_of_le h5.lt hbb6
  replace hF := hF.thenDrew.thenN F2
  replace hX := F2.blkN hX
  replace hA := F2.blkN hA
  replace h5 := F2.blkN h5
  refine wl (ro_assign rfl) ?_
  refine wl_nil (x_then (hK1 _ _ ?_))
  clear hK1 K1
  refine c_seq (fun K2 hK2 => ?_)
  refine c_seq (fun K3 hK3 => ?_)
  refine c_reg ?_ -- region 1 table.go:74
  refine wl (ro_move rfl) ?_
  refine wl (ro_cmp (r := false) rfl rfl (congrArg some (decide_eq_false (by omega)))) ?_
  refine wl (ro_move rfl) ?_
  refine wlg_yes rfl (ro_move rfl) ?_
  refine wlg_yes rfl (ro_move rfl) ?_
  refine wlg_yes rfl (ro_nilCheck rfl) ?_
  refine wlg_yes rfl (ro_fieldAddr (k := 2) rfl fo_75_2) ?_
  refine wlg_yes rfl (ro_loadB rfl sc_3 (by assumption) rfl) ?_
  refine wlg_yes rfl (ro_cmp (r := false) rfl rfl (congrArg some (decide_eq_false (by omega)))) ?_
  refine wl (ro_pick rfl rfl rfl) ?_
  refine wl_nil (x_then (hK3 _ _ ?_))
  clear hK3 K3
  refine wc_condF rfl ?_
  refine c_skip (x_then (hK2 _ _ ?_))
  clear hK2 K2
  refine c_seq (fun K4 hK4 => ?_)
  refine c_seq (fun K5 hK5 => ?_)
  refine c_reg ?_ -- region 3 table.go:77
  refine wl (ro_loadAggB rfl ag_119 (by assumption) rfl rfl) ?_
  refine wl_call rfl en_51 (WF51 hk hN) ?_
  rintro _ w3 ⟨rfl, F3⟩
  replace hF := hF.thenDrew.thenN F3
  replace hX := F3.blkN hX
  replace hA := F3.blkN hA
  replace h5 := F3.blkN h5
  replace h6 := F3.blkN h6
  refine wl (ro_not rfl) ?_
  refine wl_nil (x_then (hK5 _ _ ?_))
  clear hK5 K5
  refine wc_condF rfl ?_
  refine c_skip (x_then (hK4 _ _ ?_))
  clear hK4 K4
  refine forget [(0, _), (1, _), (5, _), (6, _)] ⟨rfl, rfl, rfl, rfl, trivial⟩ (fun e => ?_)
  refine c_seq (fun K6 hK6 => ?_)
  refine c_reg ?_ -- region 5 table.go:80
  refine wl (ro_move rfl) ?_
  refine wl (ro_nilCheck rfl) ?_
  refine wl (ro_fieldAddr (k := 1) rfl fo_75_1) ?_
  refine wl (ro_loadB rfl sc_73 (by assumption) rfl) ?_
  refine wl (ro_move rfl) ?_
  refine wl (ro_indexAddr (et := 251) (k := 6) rfl rfl se_73 rfl (by omega)) ?_
  refine wl (ro_assign rfl) ?_
  refine wl_nil (x_then (hK6 _ _ ?_))
  clear hK6 K6
  refine forget [(0, _), (5, _), (6, _), (8, _)] ⟨rfl, rfl, rfl, rfl, trivial⟩ (fun e => ?_)
  refine c_seq (fun K7 hK7 => ?_)
  refine c_reg ?_ -- region 6 table.go:81
  refine wl (ro_move rfl) ?_
  refine wl (ro_loadAggB rfl ag_119 (by assumption) rfl rfl) ?_
  refine wl_call rfl en_143 (one143 hX hN) ?_
  rintro _ w4 ⟨rfl, F4⟩
  replace hF := hF.thenDrew.thenN F4
  replace hX := F4.blkN hX
  replace hA := F4.blkN hA
  replace h5 := F4.blkN h5
  replace h6 := F4.blkN h6
  refine wl (ro_move rfl) ?_
  refine wl (ro_extract rfl rfl) ?_
  refine wl (ro_extract rfl rfl) ?_
  refine wl_puta rfl rfl ((pvc_one _)) sz_119 (rfl) h5 ((by simp)) (rfl) (fun w5 h5 F5 => ?_)
  replace hF := hF.thenDrew.thenO F5 (by first | exact .inr (by omega) | exact .inl rfl | exact .inl (by assumption) | assumption)
  replace hX := F5.blkO hX (by omega)
  replace hA := F5.blkO hA (by omega)
  replace h6 := F5.blkO h6 (by omega)
  refine wl (ro_assign rfl) ?_
  refine wl_nil (x_then (hK7 _ _ ?_))
  clear hK7 K7
  refine forget [(5, _), (6, _), (8, _), (9, _)] ⟨rfl, rfl, rfl, rfl, trivial⟩ (fun e => ?_)
  refine c_seq (fun K8 hK8 => ?_)
  refine c_reg ?_ -- region 7 table.go:82
  refine wl (ro_move rfl) ?_
  refine wl (ro_loadAggB rfl ag_119 (by assumption) rfl rfl) ?_
  refine wl (ro_move rfl) ?_
  refine wl_call rfl en_144 (find144' hA hl (hTv.farN hF) hI hk hN) ?_
  rintro _ w6 ⟨rfl, F6⟩
  replace hF := hF.thenDrew.thenN F6
  replace hX := F6.blkN hX
  replace hA := F6.blkN hA
  replace h5 := F6.blkN h5
  replace h6 := F6.blkN h6
  refine wl (ro_assign rfl) ?_
  refine wl_nil (x_then (hK8 _ _ ?_))
  clear hK8 K8
  refine c_seq (fun K9 hK9 => ?_)
  refine c_seq (fun K10 hK10 => ?_)
  refine c_reg ?_ -- region 8 table.go:83
  refine wl (ro_move rfl) ?_
  refine wl (ro_cmp rfl rfl rfl) ?_
  refine wl_nil (x_then (hK10 _ _ ?_))
  clear hK10 K10
  refine wc_cond rfl (fun hc43 => ?_) (fun hc43 => ?_)
  · try simp only [decide_eq_true_eq, decide_eq_false_iff_not, Bool.not_eq_true', Bool.not_eq_false', Bool.not_eq_eq_eq_not, Bool.not_true, Bool.not_false, beq_iff_eq, bne_iff_ne, ne_eq, beq_eq_false_iff_ne, bne_eq_false_iff_eq, gt_iff_lt, ge_iff_le, Int.not_lt, Int.not_le] at hc43
    have hp := plc_neg hc43
    refine c_seq (fun K11 hK11 => ?_)
    refine c_reg ?_ -- region 9 table.go:84
    refine wl (ro_build rfl bld_119) ?_
    refine wl_puta rfl rfl ((by (try exact vlc_cells _); all_goals simp [Value.oneCell', i64c, icv, u64c, u8c, ptr, S])) sz_119 (rfl) h6 ((by simp)) (rfl) (fun w7 h6 F7 => ?_)
    replace hF := hF.thenDrew.thenO F7 (by first | exact .inr (by omega) | exact .inl rfl | exact .inl (by assumption) | assumption)
    replace hX := F7.blkO hX (by omega)
    replace hA := F7.blkO hA (by omega)
    replace h5 := F7.blkO h5 (by omega)
    refine wl (ro_assign rfl) ?_
    refine wl_nil (x_then (hK11 _ _ ?_))
    clear hK11 K11
    refine c_ret (x_thenR ?_)
    refine bq_ret (res2 Tryz.results270 (rv_c rfl ag_119 (h6) (rfl)) (rv_t rfl)) ?_
    exact ⟨by unfold tGet look; rw [hp]; rfl, hF⟩
  · try simp only [decide_eq_true_eq, decide_eq_false_iff_not, Bool.not_eq_true', Bool.not_eq_false', Bool.not_eq_eq_eq_not, Bool.not_true, Bool.not_false, beq_iff_eq, bne_iff_ne, ne_eq, beq_eq_false_iff_ne, bne_eq_false_iff_eq, gt_iff_lt, ge_iff_le, Int.not_lt, Int.not_le] at hc43
    obtain ⟨i, p, hp0, hp1, hp2⟩ := plc_pos hc43
    obtain ⟨g, cap2, lo, hvo, hO, k1, k2, k3, k4, k5⟩ := hTv.o.at enc_len hp2
    have hOl := hO.lt
    replace hO := hF.blkN hO
    have e2 : (lo.drop (0 + i * 6 + 3)).take 3 = pvc p := by
      have := congrArg (fun x => (List.drop 3 x).take 3) (k5 i _ hp2)
      simp only [List.drop_take, List.drop_drop, List.take_take] at this
      simpa [enc, pvc] using this
    have hil := (List.getElem?_eq_some_iff.1 hp2).1
    refine c_skip (x_then (hK9 _ _ ?_))
    clear hK9 K9
    refine forget [(6, _), (8, _), (10, _)] ⟨rfl, rfl, rfl, trivial⟩ (fun e => ?_)
    refine c_seq (fun K12 hK12 => ?_)
    refine c_reg ?_ -- region 10 table.go:86
    refine wl (ro_move rfl) ?_
    refine wl (ro_nilCheck rfl) ?_
    refine wl (ro_fieldAddr (k := 0) rfl fo_251_0) ?_
    refine wl (ro_loadB rfl sc_246 (hA) ((row_cell3 (j := 0) hl (by show some m.vo = _; rw [hvo])))) ?_
    refine wl (ro_move rfl) ?_
    refine wl (ro_indexAddr (et := 263) (k := 6) rfl rfl se_246 (hp1) ((by omega))) ?_
    refine wl (ro_fieldAddr (k := 3) rfl fo_263_1) ?_
    refine wl (ro_loadAggB rfl ag_119 (hO) (rfl) (e2)) ?_
    refine wl_puta rfl rfl ((pvc_one _)) sz_119 (rfl) h6 ((by simp)) (rfl) (fun w8 h6 F8 => ?_)
    replace hF := hF.thenDrew.thenO F8 (by first | exact .inr (by omega) | exact .inl rfl | exact .inl (by assumption) | assumption)
    replace hX := F8.blkO hX (by omega)
    replace hA := F8.blkO hA (by omega)
    replace h5 := F8.blkO h5 (by omega)
    replace hO := F8.blkO hO (by omega)
    refine wl (ro_assign rfl) ?_
    refine wl_nil (x_then (hK12 _ _ ?_))
    clear hK12 K12
    refine c_ret ?_
    refine bq_ret (res2 Tryz.results270 (rv_c rfl ag_119 (h6) (rfl)) (rv_t rfl)) ?_
    refine ⟨?_, hF⟩
    unfold tGet look
    rw [hp0]
    simp only [Option.bind_some, hp2]
    rfl
theorem Count202 {w : World} {ow : Nat → Nat} {nb xb : Nat} {T : List Tb} (hM : RTab w ow nb xb T) : Ret Tryz.prog 202 [ptr xb] w (fun r w' => r = i64c T.length ∧ w' = w) := by
  obtain ⟨L, cnt, hL, rfl⟩ := hM
  obtain ⟨V, hX, _⟩ := hL.x
  refine ret_of Tryz.func202 rfl Tryz.ntmps202 rfl ?_
  refine c_seq (fun K1 hK1 => ?_)
  refine c_reg ?_ -- region 0 table.go:56
  refine wl (ro_assign rfl) ?_
  refine wl_nil (x_then (hK1 _ _ ?_))
  clear hK1 K1
  refine forget [(0, _)] ⟨rfl, trivial⟩ (fun e => ?_)
  refine c_seq (fun K2 hK2 => ?_)
  refine c_reg ?_ -- region 1 table.go:56
  refine wl (ro_move rfl) ?_
  refine wl (ro_nilCheck rfl) ?_
  refine wl (ro_fieldAddr (k := 2) rfl fo_75_2) ?_
  refine wl (ro_loadB rfl sc_3 (by assumption) rfl) ?_
  refine wl (ro_assign rfl) ?_
  refine wl_nil (x_then (hK2 _ _ ?_))
  clear hK2 K2
  refine c_ret ?_
  refine bp_ret Tryz.results202 rfl ?_
  exact ⟨by rw [absT_len hL.cl], rfl⟩
theorem New14 {w : World} {nb : Nat} : Ret Tryz.prog 14 [ptr nb] w (fun r w' => (∃ xb, r = ptr xb ∧ w.heap.size ≤ xb ∧ xb < w'.heap.size ∧ ∀ ow, ow xb = 50 → RTab w' ow nb xb []) ∧ Fram none' w w') := by
  have hF : Fram none' w w := Fram.refl _ _
  refine ret_of Tryz.func14 rfl Tryz.ntmps14 rfl ?_
  refine c_seq (fun K1 hK1 => ?_)
  refine c_reg ?_ -- region 0 table.go:39
  refine wl (ro_assign rfl) ?_
  refine wl_nil (x_then (hK1 _ _ ?_))
  clear hK1 K1
  refine forget [(0, _)] ⟨rfl, trivial⟩ (fun e => ?_)
  refine c_seq (fun K2 hK2 => ?_)
  refine c_reg ?_ -- region 1 table.go:39
  refine wl (ro_move rfl) ?_
  refine wl (ro_build rfl bld_75_0) ?_
  refine wl_box rfl rfl (fun b5 w1 hbb5 h5 F1 => ?_)
  have hbsb5 := Nat.le_trans hF.size hbb5
  replace hF := hF.thenDrew.thenN F1
  refine wl (ro_assign rfl) ?_
  refine wl_nil (x_then (hK2 _ _ ?_))
  clear hK2 K2
  refine c_ret ?_
  refine bp_ret Tryz.results14 rfl ?_
  exact ⟨⟨b5, rfl, hbb5, h5.lt, fun ow ho => ⟨[], 0, ⟨⟨_, h5, OwT.nil _ _ _ _ _⟩, ho, by simp, by simp, fun h t hh => by simp at hh, fun h t hh => by simp at hh, fun h t _ hh => by simp at hh⟩, rfl⟩⟩, hF⟩

end Go.Proofs.Qxb6500568aGreatDoor
