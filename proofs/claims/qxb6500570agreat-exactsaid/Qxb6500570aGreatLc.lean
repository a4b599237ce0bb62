import Derived.Test.Qxb6500570aGreatLb
/- Edits: the real copying of references. -/
namespace Go.Proofs.Qxb6500570aGreat
set_option linter.unusedVariables false
set_option linter.unusedSimpArgs false

structure RfAt (l : List Value) (o : Nat) (r : Rf) : Prop where
  c0 : l[o]? = some (icv r.c)
  c1 : l[o + 1]? = some (icv r.r)
  c2 : l[o + 2]? = some (.bool r.ac)
  c3 : l[o + 3]? = some (.bool r.ar)
theorem set_val {l : List Value} {o : Nat} {v : Value} (h : l[o]? = some v) : l.set o v = l := set_self h
theorem cy_cc {dc dr : Int} {r : Rf} : (cyR dc dr r).c = if r.ac = true then r.c else r.c + dc := rfl
theorem cy_rr {dc dr : Int} {r : Rf} : (cyR dc dr r).r = if r.ar = true then r.r else r.r + dr := rfl
set_option maxHeartbeats 2000000 in
theorem carry106 {w : World} {l : List Value} {nb o : Nat} {r : Rf} {dc dr : Int} (hN : Blk w.heap nb l 143) (hr : RfAt l o r) (hrk : RfOK r) (hd : -10 ≤ dc ∧ dc ≤ 10 ∧ -10 ≤ dr ∧ dr ≤ 10) :
    Ret Tryz.prog 106 [pAt nb o, icv dc, icv dr] w (fun v w' => v = .bool (okR (cyR dc dr r)) ∧ Blk w'.heap nb ((l.set o (icv (cyR dc dr r).c)).set (o + 1) (icv (cyR dc dr r).r)) 143 ∧ Fram (one nb) w w') := by
  have hF : Fram (one nb) w w := Fram.refl _ _
  have hm1 : one nb nb := rfl
  obtain ⟨k0, k1, k2, k3⟩ := hr
  obtain ⟨r1, r2, r3, r4⟩ := hrk
  have hl3 := (List.getElem?_eq_some_iff.1 k3).1
  refine ret_of Tryz.func106 rfl Tryz.ntmps106 rfl ?_
  refine c_seq (fun K1 hK1 => ?_)
  refine c_reg ?_ -- region 0 carry.go:14
  refine wl (ro_assign rfl) ?_
  refine wl_nil (x_then (hK1 _ _ ?_))
  clear hK1 K1
  refine c_mid (fun a' w' => Fram (one nb) w w' ∧ Blk w'.heap nb (l.set o (icv (cyR dc dr r).c)) 143 ∧ ∃ e, a' = Fr 59 (upds e [(0, pAt nb o), (2, icv dr)]) []) ?_ ?_
  · skip
    refine c_seq (fun K2 hK2 => ?_)
    refine c_reg ?_ -- region 1 carry.go:15
    refine wl (ro_move rfl) ?_
    refine wl (ro_nilCheck rfl) ?_
    refine wl (ro_fieldAddr (k := 2) rfl fo_141_2) ?_
    refine wl (ro_loadB rfl sc_4 (hN) ((by rw [show o + 2 = o + 2 from rfl]; exact k2))) ?_
    refine wl (ro_not rfl) ?_
    refine wl_nil (x_then (hK2 _ _ ?_))
    clear hK2 K2
    refine wc_cond rfl (fun hc11 => ?_) (fun hc11 => ?_)
    · try simp only [decide_eq_true_eq, decide_eq_false_iff_not, Bool.not_eq_true', Bool.not_eq_false', Bool.not_eq_eq_eq_not, Bool.not_true, Bool.not_false, beq_iff_eq, bne_iff_ne, ne_eq, beq_eq_false_iff_ne, bne_eq_false_iff_eq, gt_iff_lt, ge_iff_le, Int.not_lt, Int.not_le] at hc11
      refine c_reg ?_ -- region 2 carry.go:16
      refine wl (ro_move rfl) ?_
      refine wl (ro_move rfl) ?_
      refine wl (ro_nilCheck rfl) ?_
      refine wl (ro_fieldAddr (k := 0) rfl fo_141_0) ?_
      refine wl (ro_loadB rfl sc_3 (hN) ((by rw [Nat.add_zero]; exact k0))) ?_
      refine wl (ro_move rfl) ?_
      refine wl (ro_arith (r := r.c + dc) rfl rfl rfl (Go.IntWalk.i64_in _ (by omega))) ?_
      refine wl (ro_nilCheck rfl) ?_
      refine wl (ro_fieldAddr (k := 0) rfl fo_141_0) ?_
      refine wl_put rfl rfl rfl sz_3 hN ((by rw [Nat.add_zero]; omega)) ((by rw [Nat.add_zero])) (fun w1 hN F1 => ?_)
      replace hF := hF.thenDrew.thenO F1 (by first | exact .inr (by omega) | exact .inl rfl | exact .inl (by assumption))
      refine wl_nil (x_then ?_)
      exact ⟨hF, by rw [cy_cc, if_neg (by rw [hc11]; decide)]; exact hN, kp _ ⟨rfl, rfl, trivial⟩⟩
    · try simp only [decide_eq_true_eq, decide_eq_false_iff_not, Bool.not_eq_true', Bool.not_eq_false', Bool.not_eq_eq_eq_not, Bool.not_true, Bool.not_false, beq_iff_eq, bne_iff_ne, ne_eq, beq_eq_false_iff_ne, bne_eq_false_iff_eq, gt_iff_lt, ge_iff_le, Int.not_lt, Int.not_le] at hc11
      refine c_skip (x_then ?_)
      exact ⟨hF, by rw [cy_cc, if_pos hc11, set_val k0]; exact hN, kp _ ⟨rfl, rfl, trivial⟩⟩
  clear hF hN
  rintro a' u1 ⟨hF, hN, e, rfl⟩
  have g1 : (l.set o (icv (cyR dc dr r).c))[o + 1]? = some (icv r.r) := by rw [List.getElem?_set_ne (by omega)]; exact k1
  have g3 : (l.set o (icv (cyR dc dr r).c))[o + 3]? = some (.bool r.ar) := by rw [List.getElem?_set_ne (by omega)]; exact k3
  refine c_mid (fun a' w' => Fram (one nb) w w' ∧ Blk w'.heap nb ((l.set o (icv (cyR dc dr r).c)).set (o + 1) (icv (cyR dc dr r).r)) 143 ∧ ∃ e, a' = Fr 59 (upds e [(0, pAt nb o)]) []) ?_ ?_
  · skip
    refine c_seq (fun K3 hK3 => ?_)
    refine c_reg ?_ -- region 3 carry.go:18
    refine wl (ro_move rfl) ?_
    refine wl (ro_nilCheck rfl) ?_
    refine wl (ro_fieldAddr (k := 3) rfl fo_141_3) ?_
    refine wl (ro_loadB rfl sc_4 (hN) (g3)) ?_
    refine wl (ro_not rfl) ?_
    refine wl_nil (x_then (hK3 _ _ ?_))
    clear hK3 K3
    refine wc_cond rfl (fun hc25 => ?_) (fun hc25 => ?_)
    · try simp only [decide_eq_true_eq, decide_eq_false_iff_not, Bool.not_eq_true', Bool.not_eq_false', Bool.not_eq_eq_eq_not, Bool.not_true, Bool.not_false, beq_iff_eq, bne_iff_ne, ne_eq, beq_eq_false_iff_ne, bne_eq_false_iff_eq, gt_iff_lt, ge_iff_le, Int.not_lt, Int.not_le] at hc25
      refine c_reg ?_ -- region 4 carry.go:19
      refine wl (ro_move rfl) ?_
      refine wl (ro_move rfl) ?_
      refine wl (ro_nilCheck rfl) ?_
      refine wl (ro_fieldAddr (k := 1) rfl fo_141_1) ?_
      refine wl (ro_loadB rfl sc_3 (hN) (g1)) ?_
      refine wl (ro_move rfl) ?_
      refine wl (ro_arith (r := r.r + dr) rfl rfl rfl (Go.IntWalk.i64_in _ (by omega))) ?_
      refine wl (ro_nilCheck rfl) ?_
      refine wl (ro_fieldAddr (k := 1) rfl fo_141_1) ?_
      refine wl_put rfl rfl rfl sz_3 hN ((by rw [List.length_set]; omega)) (rfl) (fun w2 hN F2 => ?_)
      replace hF := hF.thenDrew.thenO F2 (by first | exact .inr (by omega) | exact .inl rfl | exact .inl (by assumption))
      refine wl_nil (x_then ?_)
      exact ⟨hF, by rw [cy_rr, if_neg (by rw [hc25]; decide)]; exact hN, kp _ ⟨rfl, trivial⟩⟩
    · try simp only [decide_eq_true_eq, decide_eq_false_iff_not, Bool.not_eq_true', Bool.not_eq_false', Bool.not_eq_eq_eq_not, Bool.not_true, Bool.not_false, beq_iff_eq, bne_iff_ne, ne_eq, beq_eq_false_iff_ne, bne_eq_false_iff_eq, gt_iff_lt, ge_iff_le, Int.not_lt, Int.not_le] at hc25
      refine c_skip (x_then ?_)
      exact ⟨hF, by rw [cy_rr, if_pos hc25, set_val g1]; exact hN, kp _ ⟨rfl, trivial⟩⟩
  clear hF hN
  rintro a' u2 ⟨hF, hN, e, rfl⟩
  have f0 : ((l.set o (icv (cyR dc dr r).c)).set (o + 1) (icv (cyR dc dr r).r))[o + 0]? = some (icv (cyR dc dr r).c) := by
    rw [List.getElem?_set_ne (by omega), Nat.add_zero, List.getElem?_set_self (by omega)]
  have f1 : ((l.set o (icv (cyR dc dr r).c)).set (o + 1) (icv (cyR dc dr r).r))[o + 1]? = some (icv (cyR dc dr r).r) := by
    rw [List.getElem?_set_self (by rw [List.length_set]; omega)]
  generalize (l.set o (icv (cyR dc dr r).c)).set (o + 1) (icv (cyR dc dr r).r) = l2 at hN f0 f1 ⊢
  generalize cyR dc dr r = r2 at f0 f1 ⊢
  refine c_seq (fun K4 hK4 => ?_)
  refine c_seq (fun K5 hK5 => ?_)
  refine c_reg ?_ -- region 5 carry.go:21
  refine wl (ro_move rfl) ?_
  refine wl (ro_nilCheck rfl) ?_
  refine wl (ro_fieldAddr (k := 0) rfl fo_141_0) ?_
  refine wl (ro_loadB rfl sc_3 (hN) (f0)) ?_
  refine wl (ro_cmp rfl rfl rfl) ?_
  refine wl_fork rfl (fun hg40 => ?_) (fun hg40 => ?_)
  · try simp only [decide_eq_true_eq, decide_eq_false_iff_not, Bool.not_eq_true', Bool.not_eq_false', Bool.not_eq_eq_eq_not, Bool.not_true, Bool.not_false, beq_iff_eq, bne_iff_ne, ne_eq, beq_eq_false_iff_ne, bne_eq_false_iff_eq, gt_iff_lt, ge_iff_le, Int.not_lt, Int.not_le] at hg40
    refine wlg_no rfl ?_
    refine wlg_no rfl ?_
    refine wlg_no rfl ?_
    refine wlg_no rfl ?_
    refine wlg_no rfl ?_
    refine wl (ro_pick rfl rfl rfl) ?_
    refine wl_nil (x_then (hK5 _ _ ?_))
    clear hK5 K5
    refine wc_condT rfl ?_
    refine c_seq (fun K6 hK6 => ?_)
    refine c_reg ?_ -- region 6 carry.go:22
    refine wl (ro_assign rfl) ?_
    refine wl_nil (x_then (hK6 _ _ ?_))
    clear hK6 K6
    refine c_ret (x_thenR ?_)
    refine bp_ret Tryz.results106 rfl ?_
    refine ⟨congrArg Value.bool ?_, hN, hF⟩
    rw [Bool.eq_iff_iff, okR_iff]
    unfold RfOK
    simp
    try omega
  · try simp only [decide_eq_true_eq, decide_eq_false_iff_not, Bool.not_eq_true', Bool.not_eq_false', Bool.not_eq_eq_eq_not, Bool.not_true, Bool.not_false, beq_iff_eq, bne_iff_ne, ne_eq, beq_eq_false_iff_ne, bne_eq_false_iff_eq, gt_iff_lt, ge_iff_le, Int.not_lt, Int.not_le] at hg40
    refine wlg_yes rfl (ro_move rfl) ?_
    refine wlg_yes rfl (ro_nilCheck rfl) ?_
    refine wlg_yes rfl (ro_fieldAddr (k := 0) rfl fo_141_0) ?_
    refine wlg_yes rfl (ro_loadB rfl sc_3 (hN) (f0)) ?_
    refine wlg_yes rfl (ro_cmp rfl rfl rfl) ?_
    refine wl (ro_pick rfl rfl rfl) ?_
    refine wl_nil (x_then (hK5 _ _ ?_))
    clear hK5 K5
    refine wc_cond rfl (fun hc46 => ?_) (fun hc46 => ?_)
    · try simp only [decide_eq_true_eq, decide_eq_false_iff_not, Bool.not_eq_true', Bool.not_eq_false', Bool.not_eq_eq_eq_not, Bool.not_true, Bool.not_false, beq_iff_eq, bne_iff_ne, ne_eq, beq_eq_false_iff_ne, bne_eq_false_iff_eq, gt_iff_lt, ge_iff_le, Int.not_lt, Int.not_le] at hc46
      refine c_seq (fun K7 hK7 => ?_)
      refine c_reg ?_ -- region 6 carry.go:22
      refine wl (ro_assign rfl) ?_
      refine wl_nil (x_then (hK7 _ _ ?_))
      clear hK7 K7
      refine c_ret (x_thenR ?_)
      refine bp_ret Tryz.results106 rfl ?_
      refine ⟨congrArg Value.bool ?_, hN, hF⟩
      rw [Bool.eq_iff_iff, okR_iff]
      unfold RfOK
      simp
      try omega
    · try simp only [decide_eq_true_eq, decide_eq_false_iff_not, Bool.not_eq_true', Bool.not_eq_false', Bool.not_eq_eq_eq_not, Bool.not_true, Bool.not_false, beq_iff_eq, bne_iff_ne, ne_eq, beq_eq_false_iff_ne, bne_eq_false_iff_eq, gt_iff_lt, ge_iff_le, Int.not_lt, Int.not_le] at hc46
      refine c_skip (x_then (hK4 _ _ ?_))
      clear hK4 K4
      refine forget [(0, _)] ⟨rfl, trivial⟩ (fun e => ?_)
      refine c_seq (fun K8 hK8 => ?_)
      refine c_reg ?_ -- region 7 carry.go:24
      refine wl (ro_move rfl) ?_
      refine wl (ro_nilCheck rfl) ?_
      refine wl (ro_fieldAddr (k := 1) rfl fo_141_1) ?_
      refine wl (ro_loadB rfl sc_3 (hN) (f1)) ?_
      refine wl (ro_cmp rfl rfl rfl) ?_
      refine wl_fork rfl (fun hg52 => ?_) (fun hg52 => ?_)
      · try simp only [decide_eq_true_eq, decide_eq_false_iff_not, Bool.not_eq_true', Bool.not_eq_false', Bool.not_eq_eq_eq_not, Bool.not_true, Bool.not_false, beq_iff_eq, bne_iff_ne, ne_eq, beq_eq_false_iff_ne, bne_eq_false_iff_eq, gt_iff_lt, ge_iff_le, Int.not_lt, Int.not_le] at hg52
        refine wlg_yes rfl (ro_move rfl) ?_
        refine wlg_yes rfl (ro_nilCheck rfl) ?_
        refine wlg_yes rfl (ro_fieldAddr (k := 1) rfl fo_141_1) ?_
        refine wlg_yes rfl (ro_loadB rfl sc_3 (hN) (f1)) ?_
        refine wlg_yes rfl (ro_cmp rfl rfl rfl) ?_
        refine wl (ro_pick rfl rfl rfl) ?_
        refine wl (ro_assign rfl) ?_
        refine wl_nil (x_then (hK8 _ _ ?_))
        clear hK8 K8
        refine c_ret ?_
        refine bp_ret Tryz.results106 rfl ?_
        refine ⟨congrArg Value.bool ?_, hN, hF⟩
        rw [Bool.eq_iff_iff, okR_iff]
        unfold RfOK
        simp
        try omega
      · try simp only [decide_eq_true_eq, decide_eq_false_iff_not, Bool.not_eq_true', Bool.not_eq_false', Bool.not_eq_eq_eq_not, Bool.not_true, Bool.not_false, beq_iff_eq, bne_iff_ne, ne_eq, beq_eq_false_iff_ne, bne_eq_false_iff_eq, gt_iff_lt, ge_iff_le, Int.not_lt, Int.not_le] at hg52
        refine wlg_no rfl ?_
        refine wlg_no rfl ?_
        refine wlg_no rfl ?_
        refine wlg_no rfl ?_
        refine wlg_no rfl ?_
        refine wl (ro_pick rfl rfl rfl) ?_
        refine wl (ro_assign rfl) ?_
        refine wl_nil (x_then (hK8 _ _ ?_))
        clear hK8 K8
        refine c_ret ?_
        refine bp_ret Tryz.results106 rfl ?_
        refine ⟨congrArg Value.bool ?_, hN, hF⟩
        rw [Bool.eq_iff_iff, okR_iff]
        unfold RfOK
        simp
        try omega
theorem nd_p {n : List Nd} {i : Nat} {x : Nd} (h : n[i]? = some x) : RfAt (rws ndc n) (i * 13 + 5) x.p :=
  ⟨rw_get ndc_len h (j := 5) rfl rfl, rw_get ndc_len h (j := 6) rfl rfl, rw_get ndc_len h (j := 7) rfl rfl, rw_get ndc_len h (j := 8) rfl rfl⟩
theorem nd_q {n : List Nd} {i : Nat} {x : Nd} (h : n[i]? = some x) : RfAt (rws ndc n) (i * 13 + 9) x.q :=
  ⟨rw_get ndc_len h (j := 9) rfl rfl, rw_get ndc_len h (j := 10) rfl rfl, rw_get ndc_len h (j := 11) rfl rfl, rw_get ndc_len h (j := 12) rfl rfl⟩
theorem set_p {n : List Nd} {i : Nat} {x : Nd} {dc dr : Int} (h : n[i]? = some x) : ((rws ndc n).set (i * 13 + 5) (icv (cyR dc dr x.p).c)).set (i * 13 + 5 + 1) (icv (cyR dc dr x.p).r) = rws ndc (n.set i (setP x (cyR dc dr x.p))) := by
  have hi := (List.getElem?_eq_some_iff.1 h).1
  rw [rw_put ndc_len (i := i) (j := 5) (x' := setP x { x.p with c := (cyR dc dr x.p).c }) h rfl (by omega) rfl]
  rw [rw_put ndc_len (i := i) (j := 6) (x := setP x { x.p with c := (cyR dc dr x.p).c }) (x' := setP x (cyR dc dr x.p)) (by rw [List.getElem?_set_self hi]) rfl (by omega) rfl, List.set_set]
theorem set_q {n : List Nd} {i : Nat} {x : Nd} {dc dr : Int} (h : n[i]? = some x) : ((rws ndc n).set (i * 13 + 9) (icv (cyR dc dr x.q).c)).set (i * 13 + 9 + 1) (icv (cyR dc dr x.q).r) = rws ndc (n.set i (setQ x (cyR dc dr x.q))) := by
  have hi := (List.getElem?_eq_some_iff.1 h).1
  rw [rw_put ndc_len (i := i) (j := 9) (x' := setQ x { x.q with c := (cyR dc dr x.q).c }) h rfl (by omega) rfl]
  rw [rw_put ndc_len (i := i) (j := 10) (x := setQ x { x.q with c := (cyR dc dr x.q).c }) (x' := setQ x (cyR dc dr x.q)) (by rw [List.getElem?_set_self hi]) rfl (by omega) rfl, List.set_set]
set_option maxHeartbeats 4000000 in
theorem carryAll81 {w : World} {dc dr : Int} {n : List Nd} {nb : Nat} (hn : n.length ≤ 24) (hA : AOK n) (hd : -10 ≤ dc ∧ dc ≤ 10 ∧ -10 ≤ dr ∧ dr ≤ 10) (hN : Blk w.heap nb (rws ndc n) 143) : Ret Tryz.prog 81 [sl nb n.length, icv dc, icv dr] w (fun _ w' => Blk w'.heap nb (rws ndc (n.map (cyN dc dr))) 143 ∧ Fram (one nb) w w') := by
  have hF : Fram (one nb) w w := Fram.refl _ _
  have hm1 : one nb nb := rfl
  generalize hg : cyN dc dr = g
  have hgx : ∀ x, cyN dc dr x = g x := fun x => by rw [hg]
  clear hg
  refine ret_of Tryz.func81 rfl Tryz.ntmps81 rfl ?_
  refine c_seq (fun K1 hK1 => ?_)
  refine c_reg ?_ -- region 0 carry.go:29
  refine wl (ro_assign rfl) ?_
  refine wl_nil (x_then (hK1 _ _ ?_))
  clear hK1 K1
  refine c_block ?_
  -- loop@r1: live slots [0, 1, 2, 6]
  refine c_loopG (fun q a' w' => ∃ i, q = n.length - i ∧ i ≤ n.length ∧ Blk w'.heap nb (rws ndc (mpI g n i)) 143 ∧ Fram (one nb) w w' ∧ ∃ e, a' = Fr 58 (upds e [(0, sl nb n.length), (1, icv dc), (2, icv dr), (6, i64c i)]) []) n.length ⟨0, rfl, by omega, by rw [mp_zero]; exact hN, hF, kp _ ⟨rfl, rfl, rfl, rfl, trivial⟩⟩ ?_
  clear hF hN
  rintro q a' u1 ⟨i, rfl, hi, hN, hF, e, rfl⟩
  refine c_seq (fun K2 hK2 => ?_)
  refine c_seq (fun K3 hK3 => ?_)
  refine c_reg ?_ -- region 1 carry.go:29
  refine wl (ro_move rfl) ?_
  refine wl (ro_move rfl) ?_
  refine wl (ro_lenL rfl se_78) ?_
  refine wl (ro_cmp (r := decide (i < n.length)) rfl rfl (congrArg some (decide_eq_decide.2 (by omega)))) ?_
  refine wl_nil (x_then (hK3 _ _ ?_))
  clear hK3 K3
  refine wc_cond rfl (fun hc13 => ?_) (fun hc13 => ?_)
  · try simp only [decide_eq_true_eq, decide_eq_false_iff_not, Bool.not_eq_true', Bool.not_eq_false', Bool.not_eq_eq_eq_not, Bool.not_true, Bool.not_false, beq_iff_eq, bne_iff_ne, ne_eq, beq_eq_false_iff_ne, bne_eq_false_iff_eq, gt_iff_lt, ge_iff_le, Int.not_lt, Int.not_le] at hc13
    obtain ⟨x, hx⟩ : ∃ x, n[i]? = some x := ⟨_, List.getElem?_eq_getElem hc13⟩
    have hx' := mp_get (g := g) hx
    have hil : i < (mpI g n i).length := by rw [mp_len]; exact hc13
    have hgx' := hgx x
    unfold cyN at hgx'
    obtain ⟨hxp, hxq, -⟩ := hA x (List.mem_of_getElem? hx)
    refine c_skip (x_then (hK2 _ _ ?_))
    clear hK2 K2
    refine forget [(0, _), (1, _), (2, _), (6, _)] ⟨rfl, rfl, rfl, rfl, trivial⟩ (fun e => ?_)
    refine c_seq (fun K4 hK4 => ?_)
    refine c_block ?_
    refine c_seq (fun K5 hK5 => ?_)
    refine c_reg ?_ -- region 3 carry.go:30
    refine wl (ro_move rfl) ?_
    refine wl (ro_move rfl) ?_
    refine wl (ro_indexAddr (et := 143) (k := 13) rfl rfl se_78 (rfl) ((by omega))) ?_
    refine wl (ro_assign rfl) ?_
    rw [Nat.zero_add]
    refine wl_nil (x_then (hK5 _ _ ?_))
    clear hK5 K5
    refine forget [(0, _), (1, _), (2, _), (6, _), (7, _)] ⟨rfl, rfl, rfl, rfl, rfl, trivial⟩ (fun e => ?_)
    refine c_seq (fun K6 hK6 => ?_)
    refine c_reg ?_ -- region 4 carry.go:31
    refine wl (ro_move rfl) ?_
    refine wl (ro_nilCheck rfl) ?_
    refine wl (ro_fieldAddr (k := 0) rfl fo_143_0) ?_
    refine wl (ro_loadB rfl sc_3 (hN) ((rw_get ndc_len hx' (j := 0) (by omega) rfl))) ?_
    refine wl (ro_cmp rfl rfl rfl) ?_
    refine wl_nil (x_then (hK6 _ _ ?_))
    clear hK6 K6
    refine wc_cond rfl (fun hc23 => ?_) (fun hc23 => ?_)
    · try simp only [decide_eq_true_eq, decide_eq_false_iff_not, Bool.not_eq_true', Bool.not_eq_false', Bool.not_eq_eq_eq_not, Bool.not_true, Bool.not_false, beq_iff_eq, bne_iff_ne, ne_eq, beq_eq_false_iff_ne, bne_eq_false_iff_eq, gt_iff_lt, ge_iff_le, Int.not_lt, Int.not_le] at hc23
      refine c_seq (fun K7 hK7 => ?_)
      refine c_reg ?_ -- region 5 carry.go:32
      refine wl (ro_move rfl) ?_
      refine wl (ro_nilCheck rfl) ?_
      refine wl (ro_fieldAddr (k := 5) rfl fo_143_5) ?_
      refine wl (ro_move rfl) ?_
      refine wl (ro_move rfl) ?_
      refine wl_call rfl en_106 (carry106 hN (nd_p hx') hxp hd) ?_
      rintro _ u2 ⟨rfl, hN2, G2⟩
      replace hF := hF.trans G2
      rw [set_p hx'] at hN2
      rw [if_pos hc23] at hgx'
      refine wl (ro_not rfl) ?_
      refine wl_nil (x_then (hK7 _ _ ?_))
      clear hK7 K7
      refine wc_cond rfl (fun hc30 => ?_) (fun hc30 => ?_)
      · try simp only [decide_eq_true_eq, decide_eq_false_iff_not, Bool.not_eq_true', Bool.not_eq_false', Bool.not_eq_eq_eq_not, Bool.not_true, Bool.not_false, beq_iff_eq, bne_iff_ne, ne_eq, beq_eq_false_iff_ne, bne_eq_false_iff_eq, gt_iff_lt, ge_iff_le, Int.not_lt, Int.not_le] at hc30
        refine c_reg ?_ -- region 6 carry.go:33
        refine wl (ro_move rfl) ?_
        refine wl_call rfl en_107 (kill107 hN2 (by rw [List.length_set]; exact hil)) ?_
        rintro _ u3 ⟨hN3, G3⟩
        replace hF := hF.trans G3
        rw [List.set_set] at hN3
        rw [if_neg (by rw [hc30]; decide)] at hgx'
        rw [mp_set hx hgx'] at hN3
        refine wl_nil (x_blk (x_then (hK4 _ _ ?_)))
        clear hK4 K4
        refine c_reg ?_ -- region 2 carry.go:29
        refine wl (ro_move rfl) ?_
        refine wl (ro_arith (r := ((i + 1 : Nat) : Int)) rfl rfl rfl (Go.IntWalk.i64_in _ (by omega))) ?_
        refine wl (ro_assign rfl) ?_
        refine wl_nil (x_then ?_)
        exact ⟨n.length - (i + 1), by omega, i + 1, rfl, by omega, hN3, hF, kp _ ⟨rfl, rfl, rfl, rfl, trivial⟩⟩
      · try simp only [decide_eq_true_eq, decide_eq_false_iff_not, Bool.not_eq_true', Bool.not_eq_false', Bool.not_eq_eq_eq_not, Bool.not_true, Bool.not_false, beq_iff_eq, bne_iff_ne, ne_eq, beq_eq_false_iff_ne, bne_eq_false_iff_eq, gt_iff_lt, ge_iff_le, Int.not_lt, Int.not_le] at hc30
        refine c_skip (x_blk (x_then (hK4 _ _ ?_)))
        clear hK4 K4
        refine c_reg ?_ -- region 2 carry.go:29
        refine wl (ro_move rfl) ?_
        refine wl (ro_arith (r := ((i + 1 : Nat) : Int)) rfl rfl rfl (Go.IntWalk.i64_in _ (by omega))) ?_
        refine wl (ro_assign rfl) ?_
        refine wl_nil (x_then ?_)
        rw [if_pos hc30] at hgx'
        rw [mp_set hx hgx'] at hN2
        exact ⟨n.length - (i + 1), by omega, i + 1, rfl, by omega, hN2, hF, kp _ ⟨rfl, rfl, rfl, rfl, trivial⟩⟩
    · try simp only [decide_eq_true_eq, decide_eq_false_iff_not, Bool.not_eq_true', Bool.not_eq_false', Bool.not_eq_eq_eq_not, Bool.not_true, Bool.not_false, beq_iff_eq, bne_iff_ne, ne_eq, beq_eq_false_iff_ne, bne_eq_false_iff_eq, gt_iff_lt, ge_iff_le, Int.not_lt, Int.not_le] at hc23
      refine c_seq (fun K8 hK8 => ?_)
      refine c_reg ?_ -- region 7 carry.go:35
      refine wl (ro_move rfl) ?_
      refine wl (ro_nilCheck rfl) ?_
      refine wl (ro_fieldAddr (k := 0) rfl fo_143_0) ?_
      refine wl (ro_loadB rfl sc_3 (hN) ((rw_get ndc_len hx' (j := 0) (by omega) rfl))) ?_
      refine wl (ro_cmp rfl rfl rfl) ?_
      refine wl_nil (x_then (hK8 _ _ ?_))
      clear hK8 K8
      refine wc_cond rfl (fun hc37 => ?_) (fun hc37 => ?_)
      · try simp only [decide_eq_true_eq, decide_eq_false_iff_not, Bool.not_eq_true', Bool.not_eq_false', Bool.not_eq_eq_eq_not, Bool.not_true, Bool.not_false, beq_iff_eq, bne_iff_ne, ne_eq, beq_eq_false_iff_ne, bne_eq_false_iff_eq, gt_iff_lt, ge_iff_le, Int.not_lt, Int.not_le] at hc37
        refine c_seq (fun K9 hK9 => ?_)
        refine c_reg ?_ -- region 8 carry.go:36
        refine wl (ro_move rfl) ?_
        refine wl (ro_nilCheck rfl) ?_
        refine wl (ro_fieldAddr (k := 5) rfl fo_143_5) ?_
        refine wl (ro_move rfl) ?_
        refine wl (ro_move rfl) ?_
        refine wl_call rfl en_106 (carry106 hN (nd_p hx') hxp hd) ?_
        rintro _ u2 ⟨rfl, hN2, G2⟩
        replace hF := hF.trans G2
        rw [set_p hx'] at hN2
        have hx2 : ((mpI g n i).set i (setP x (cyR dc dr x.p)))[i]? = some (setP x (cyR dc dr x.p)) := by rw [List.getElem?_set_self hil]
        rw [if_neg hc23, if_pos hc37] at hgx'
        refine wl (ro_assign rfl) ?_
        refine wl_nil (x_then (hK9 _ _ ?_))
        clear hK9 K9
        refine forget [(0, _), (1, _), (2, _), (6, _), (7, _), (8, _)] ⟨rfl, rfl, rfl, rfl, rfl, rfl, trivial⟩ (fun e => ?_)
        refine c_seq (fun K10 hK10 => ?_)
        refine c_reg ?_ -- region 9 carry.go:37
        refine wl (ro_move rfl) ?_
        refine wl (ro_nilCheck rfl) ?_
        refine wl (ro_fieldAddr (k := 9) rfl fo_143_6) ?_
        refine wl (ro_move rfl) ?_
        refine wl (ro_move rfl) ?_
        refine wl_call rfl en_106 (carry106 hN2 (nd_q hx2) hxq hd) ?_
        rintro _ u3 ⟨rfl, hN3, G3⟩
        replace hF := hF.trans G3
        rw [set_q hx2, List.set_set] at hN3
        refine wl (ro_assign rfl) ?_
        refine wl_nil (x_then (hK10 _ _ ?_))
        clear hK10 K10
        refine forget [(0, _), (1, _), (2, _), (6, _), (7, _), (8, _), (9, _)] ⟨rfl, rfl, rfl, rfl, rfl, rfl, rfl, trivial⟩ (fun e => ?_)
        refine c_seq (fun K11 hK11 => ?_)
        refine c_reg ?_ -- region 10 carry.go:38
        refine wl (ro_move rfl) ?_
        refine wl (ro_not rfl) ?_
        refine wl_fork rfl (fun hg52 => ?_) (fun hg52 => ?_)
        · try simp only [decide_eq_true_eq, decide_eq_false_iff_not, Bool.not_eq_true', Bool.not_eq_false', Bool.not_eq_eq_eq_not, Bool.not_true, Bool.not_false, beq_iff_eq, bne_iff_ne, ne_eq, beq_eq_false_iff_ne, bne_eq_false_iff_eq, gt_iff_lt, ge_iff_le, Int.not_lt, Int.not_le] at hg52
          refine wlg_no rfl ?_
          refine wlg_no rfl ?_
          refine wl (ro_pick rfl rfl rfl) ?_
          refine wl_nil (x_then (hK11 _ _ ?_))
          clear hK11 K11
          refine wc_condT rfl ?_
          refine c_reg ?_ -- region 11 carry.go:39
          refine wl (ro_move rfl) ?_
          refine wl_call rfl en_107 (kill107 hN3 (by rw [List.length_set]; exact hil)) ?_
          rintro _ u4 ⟨hN4, G4⟩
          replace hF := hF.trans G4
          rw [List.set_set] at hN4
          rw [if_neg (fun q => by rw [q.1] at hg52; cases hg52)] at hgx'
          rw [mp_set hx hgx'] at hN4
          refine wl_nil (x_blk (x_then (hK4 _ _ ?_)))
          clear hK4 K4
          refine c_reg ?_ -- region 2 carry.go:29
          refine wl (ro_move rfl) ?_
          refine wl (ro_arith (r := ((i + 1 : Nat) : Int)) rfl rfl rfl (Go.IntWalk.i64_in _ (by omega))) ?_
          refine wl (ro_assign rfl) ?_
          refine wl_nil (x_then ?_)
          exact ⟨n.length - (i + 1), by omega, i + 1, rfl, by omega, hN4, hF, kp _ ⟨rfl, rfl, rfl, rfl, trivial⟩⟩
        · try simp only [decide_eq_true_eq, decide_eq_false_iff_not, Bool.not_eq_true', Bool.not_eq_false', Bool.not_eq_eq_eq_not, Bool.not_true, Bool.not_false, beq_iff_eq, bne_iff_ne, ne_eq, beq_eq_false_iff_ne, bne_eq_false_iff_eq, gt_iff_lt, ge_iff_le, Int.not_lt, Int.not_le] at hg52
          refine wlg_yes rfl (ro_move rfl) ?_
          refine wlg_yes rfl (ro_not rfl) ?_
          refine wl (ro_pick rfl rfl rfl) ?_
          refine wl_nil (x_then (hK11 _ _ ?_))
          clear hK11 K11
          refine wc_cond rfl (fun hc55 => ?_) (fun hc55 => ?_)
          · try simp only [decide_eq_true_eq, decide_eq_false_iff_not, Bool.not_eq_true', Bool.not_eq_false', Bool.not_eq_eq_eq_not, Bool.not_true, Bool.not_false, beq_iff_eq, bne_iff_ne, ne_eq, beq_eq_false_iff_ne, bne_eq_false_iff_eq, gt_iff_lt, ge_iff_le, Int.not_lt, Int.not_le] at hc55
            refine c_reg ?_ -- region 11 carry.go:39
            refine wl (ro_move rfl) ?_
            refine wl_call rfl en_107 (kill107 hN3 (by rw [List.length_set]; exact hil)) ?_
            rintro _ u4 ⟨hN4, G4⟩
            replace hF := hF.trans G4
            rw [List.set_set] at hN4
            rw [if_neg (fun q => by rw [q.2] at hc55; cases hc55)] at hgx'
            rw [mp_set hx hgx'] at hN4
            refine wl_nil (x_blk (x_then (hK4 _ _ ?_)))
            clear hK4 K4
            refine c_reg ?_ -- region 2 carry.go:29
            refine wl (ro_move rfl) ?_
            refine wl (ro_arith (r := ((i + 1 : Nat) : Int)) rfl rfl rfl (Go.IntWalk.i64_in _ (by omega))) ?_
            refine wl (ro_assign rfl) ?_
            refine wl_nil (x_then ?_)
            exact ⟨n.length - (i + 1), by omega, i + 1, rfl, by omega, hN4, hF, kp _ ⟨rfl, rfl, rfl, rfl, trivial⟩⟩
          · try simp only [decide_eq_true_eq, decide_eq_false_iff_not, Bool.not_eq_true', Bool.not_eq_false', Bool.not_eq_eq_eq_not, Bool.not_true, Bool.not_false, beq_iff_eq, bne_iff_ne, ne_eq, beq_eq_false_iff_ne, bne_eq_false_iff_eq, gt_iff_lt, ge_iff_le, Int.not_lt, Int.not_le] at hc55
            refine c_skip (x_blk (x_then (hK4 _ _ ?_)))
            clear hK4 K4
            refine c_reg ?_ -- region 2 carry.go:29
            refine wl (ro_move rfl) ?_
            refine wl (ro_arith (r := ((i + 1 : Nat) : Int)) rfl rfl rfl (Go.IntWalk.i64_in _ (by omega))) ?_
            refine wl (ro_assign rfl) ?_
            refine wl_nil (x_then ?_)
            rw [if_pos ⟨hg52, hc55⟩] at hgx'
            rw [mp_set hx hgx'] at hN3
            exact ⟨n.length - (i + 1), by omega, i + 1, rfl, by omega, hN3, hF, kp _ ⟨rfl, rfl, rfl, rfl, trivial⟩⟩
      · try simp only [decide_eq_true_eq, decide_eq_false_iff_not, Bool.not_eq_true', Bool.not_eq_false', Bool.not_eq_eq_eq_not, Bool.not_true, Bool.not_false, beq_iff_eq, bne_iff_ne, ne_eq, beq_eq_false_iff_ne, bne_eq_false_iff_eq, gt_iff_lt, ge_iff_le, Int.not_lt, Int.not_le] at hc37
        refine c_skip (x_blk (x_then (hK4 _ _ ?_)))
        clear hK4 K4
        refine c_reg ?_ -- region 2 carry.go:29
        refine wl (ro_move rfl) ?_
        refine wl (ro_arith (r := ((i + 1 : Nat) : Int)) rfl rfl rfl (Go.IntWalk.i64_in _ (by omega))) ?_
        refine wl (ro_assign rfl) ?_
        refine wl_nil (x_then ?_)
        rw [if_neg hc23, if_neg hc37] at hgx'
        rw [mp_self hx hgx'.symm] at hN
        exact ⟨n.length - (i + 1), by omega, i + 1, rfl, by omega, hN, hF, kp _ ⟨rfl, rfl, rfl, rfl, trivial⟩⟩
  · try simp only [decide_eq_true_eq, decide_eq_false_iff_not, Bool.not_eq_true', Bool.not_eq_false', Bool.not_eq_eq_eq_not, Bool.not_true, Bool.not_false, beq_iff_eq, bne_iff_ne, ne_eq, beq_eq_false_iff_ne, bne_eq_false_iff_eq, gt_iff_lt, ge_iff_le, Int.not_lt, Int.not_le] at hc13
    refine c_exit (x_thenX (x_thenX (x_blkX ?_)))
    refine bp_end Tryz.results81 rfl ?_
    have : i = n.length := by omega
    subst this
    rw [mp_all] at hN
    exact ⟨hN, hF⟩

end Go.Proofs.Qxb6500570aGreat
