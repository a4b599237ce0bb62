import Derived.Test.Qxb6500568aGreatDoorQu
/- The law: Raw. -/
namespace Go.Proofs.Qxb6500568aGreatDoor
open Ieee
set_option linter.unusedVariables false
set_option linter.unusedSimpArgs false
set_option linter.unusedSectionVars false

def o9 (w : World) : Nat → Nat := fun b => if b < w.heap.size then 9 else 66
theorem o9_ho (w : World) : ∀ b, o9 w b = 9 ∨ o9 w b = 66 := fun b => by unfold o9; split; exact .inl rfl; exact .inr rfl
theorem o9_hd (w : World) : ∀ b, w.heap.size ≤ b → o9 w b = 66 := fun b h => if_neg (by omega)
theorem o9_lt {w : World} {b : Nat} (h : b < w.heap.size) : o9 w b = 9 := if_pos h
theorem tw_old {w : World} {oc ov : Nat → Nat} {db nb bb x : Nat} (h1 : oc x = 9) (h2 : ov x = 66) (hx : x < w.heap.size) (hd : w.heap.size ≤ db) (hn : w.heap.size ≤ nb) (hb : w.heap.size ≤ bb) : ¬ twS oc ov db nb bb x := by
  rintro (q | q | q | q | q)
  · rw [h1] at q; exact im9 q
  · rw [h2] at q; exact vt66 q
  · omega
  · omega
  · omega
theorem TowV.farN {cb sb db mb tb nb xb bb : Nat} {w w' : World} {oc ov : Nat → Nat} (h : TowV cb sb db mb tb nb xb bb w oc ov) (f : Fram none' w w') : TowV cb sb db mb tb nb xb bb w' oc ov := by
  obtain ⟨l, q1, q2⟩ := h.n2
  exact ⟨h.c.far f (fun _ _ _ q => q) (Xt.refl _ _), h.s.far f (fun _ _ _ q => q) (Xt.refl _ _), h.m.thruN f, f.blkN h.n1, ⟨l, f.blkN q1, q2⟩, h.tn, h.cn, f.blkN h.d, h.sep⟩
set_option maxHeartbeats 8000000 in
theorem Raw3 {w : World} {s : Str} {fuel : Int} (hG : GV w (o9 w)) (hfu : fuel < 9223372036854775808) : Ret Tryz.prog 3 [S s, icv fuel] w (fun r w' => r = .bool true ∧ Fram none' w w') := by
  have hF : Fram none' w w := Fram.refl _ _
  cases hp : prsV s with
  | inl x =>
    obtain ⟨e, p⟩ := x
    refine ret_of Tryz.func3 rfl Tryz.ntmps3 rfl ?_
    refine c_seq (fun K1 hK1 => ?_)
    refine c_reg ?_ -- region 0 law.go:88
    refine wl (ro_assign rfl) ?_
    refine wl_nil (x_then (hK1 _ _ ?_))
    clear hK1 K1
    refine c_seq (fun K2 hK2 => ?_)
    refine c_seq (fun K3 hK3 => ?_)
    refine c_reg ?_ -- region 1 law.go:89
    refine wl (ro_move rfl) ?_
    refine wl (ro_lenS rfl st_9) ?_
    refine wl (ro_cmp rfl rfl rfl) ?_
    refine wl_nil (x_then (hK3 _ _ ?_))
    clear hK3 K3
    refine wc_cond rfl (fun hc14 => ?_) (fun hc14 => ?_)
    · try simp only [decide_eq_true_eq, decide_eq_false_iff_not, Bool.not_eq_true', Bool.not_eq_false', Bool.not_eq_eq_eq_not, Bool.not_true, Bool.not_false, beq_iff_eq, bne_iff_ne, ne_eq, beq_eq_false_iff_ne, bne_eq_false_iff_eq, gt_iff_lt, ge_iff_le, Int.not_lt, Int.not_le] at hc14
      have h14 := hc14
      refine c_seq (fun K4 hK4 => ?_)
      refine c_reg ?_ -- region 2 law.go:90
      refine wl (ro_assign rfl) ?_
      refine wl_nil (x_then (hK4 _ _ ?_))
      clear hK4 K4
      refine c_ret (x_thenR ?_)
      refine bp_ret Tryz.results3 rfl ?_
      exact ⟨rfl, hF⟩
    · try simp only [decide_eq_true_eq, decide_eq_false_iff_not, Bool.not_eq_true', Bool.not_eq_false', Bool.not_eq_eq_eq_not, Bool.not_true, Bool.not_false, beq_iff_eq, bne_iff_ne, ne_eq, beq_eq_false_iff_ne, bne_eq_false_iff_eq, gt_iff_lt, ge_iff_le, Int.not_lt, Int.not_le] at hc14
      refine c_skip (x_then (hK2 _ _ ?_))
      clear hK2 K2
      refine forget [(0, _), (1, _)] ⟨rfl, rfl, trivial⟩ (fun e => ?_)
      refine c_seq (fun K5 hK5 => ?_)
      refine c_reg ?_ -- region 3 law.go:92
      refine wl_call rfl en_5 (New5 (ow := o9 w) (o9_ho w) (o9_hd w)) ?_
      rintro _ w1 ⟨cb, sb, db, mb, tb, nb, xb, bb, oc, ov, rfl, hT, hxo, hdd, hov, hl1, hl2, hl3, F1⟩
      have ld := hT.d.lt
      have ln := hT.n1.lt
      have lb : bb < w1.heap.size := by obtain ⟨l, q, -⟩ := hT.n2; exact q.lt
      have e1 := F1.size
      refine wl (ro_assign rfl) ?_
      refine wl_nil (x_then (hK5 _ _ ?_))
      clear hK5 K5
      refine forget [(0, _), (1, _), (5, _)] ⟨rfl, rfl, rfl, trivial⟩ (fun e => ?_)
      refine c_seq (fun K6 hK6 => ?_)
      refine c_reg ?_ -- region 4 law.go:93
      refine wl_call rfl en_6 (New6) ?_
      rintro _ w2 ⟨mc, nn, mt, ms, rfl, ⟨n1, n2, n3⟩, q1, q2, q3, F2⟩
      have e2 := F2.size
      have hno : ∀ x, w1.heap.size ≤ x → ¬ twS oc ov db nb bb x := by
        rintro x hx (q | q | q | q | q)
        · rw [(hdd x hx).1] at q; exact im66 q
        · rw [(hdd x hx).2] at q; exact vt66 q
        · omega
        · omega
        · omega
      have hold : ∀ x, x < w.heap.size → ¬ twS oc ov db nb bb x := fun x hx ↦ tw_old (by rw [hxo x hx]; exact o9_lt hx) (hov x hx) hx hl1 hl2 hl3
      have hG2 : GV w2 oc := (hG.far F1 (fun _ _ _ q ↦ q) hxo).farN F2
      refine wl (ro_assign rfl) ?_
      refine wl_nil (x_then (hK6 _ _ ?_))
      clear hK6 K6
      refine c_seq (fun K7 hK7 => ?_)
      refine c_seq (fun K8 hK8 => ?_)
      refine c_reg ?_ -- region 5 law.go:94
      refine wl (ro_move rfl) ?_
      refine wl (ro_move rfl) ?_
      refine wl (ro_move rfl) ?_
      refine wl (ro_move rfl) ?_
      refine wl_call rfl en_7 (ran7 (s := s) (MoV.mk q1 q2 q3) hfu (Run22 (hT.farN F2) hG2 (fun x hx ↦ (hdd x (by omega)).1) hfu) (hno mc n2) (hno ms n3) (hno mt n1)) ?_
      rintro _ w3 ⟨rfl, F3⟩
      have hF3 : Fram none' w w3 := (F1.trans F2).trans' F3 (fun x hx q ↦ by
        rcases q with q | q
        · exact absurd q (hold x hx)
        · omega)
      have e3 := F3.size
      have hG3 : GV w3 (o9 w3) := hG.far hF3 (fun _ _ _ q ↦ q) (fun x hx ↦ by rw [o9_lt (Nat.lt_of_lt_of_le hx hF3.size), o9_lt hx])
      refine wl (ro_not rfl) ?_
      refine wl_nil (x_then (hK8 _ _ ?_))
      clear hK8 K8
      refine wc_condF rfl ?_
      refine c_skip (x_then (hK7 _ _ ?_))
      clear hK7 K7
      refine forget [(0, _), (1, _)] ⟨rfl, rfl, trivial⟩ (fun e => ?_)
      refine c_seq (fun K9 hK9 => ?_)
      refine c_reg ?_ -- region 7 law.go:97
      refine wl_call rfl en_5 (New5 (ow := o9 w3) (o9_ho w3) (o9_hd w3)) ?_
      rintro _ w4 ⟨cc, sc, dc, mcc, tc, ncc, xc, bc, od, ou, rfl, hU, hyo, hde, hou, hm1, hm2, hm3, F4⟩
      have e4 := F4.size
      refine wl (ro_assign rfl) ?_
      refine wl_nil (x_then (hK9 _ _ ?_))
      clear hK9 K9
      refine forget [(0, _), (1, _), (7, _)] ⟨rfl, rfl, rfl, trivial⟩ (fun e => ?_)
      refine c_seq (fun K10 hK10 => ?_)
      refine c_reg ?_ -- region 8 law.go:98
      refine wl (ro_move rfl) ?_
      refine wl (ro_move rfl) ?_
      refine wl_call rfl en_8 (imaged8 (s := s) hU.c hU.s (hG3.far F4 (fun _ _ _ q ↦ q) hyo) (fun t k A q ↦ by rw [hp] at q; cases q) (fun t k q ↦ by rw [hp] at q; cases q)) ?_
      rintro r5 w5 ⟨hr5, F5⟩
      obtain rfl : r5 = .tuple #[S [], .bool false, .bool true] := by
        rcases hr5 with ⟨_, _, _, q⟩ | ⟨t, k, q, _⟩
        · exact q
        · rw [hp] at q; cases q
      replace hF := (hF3.trans F4).trans' F5 (fun x hx q ↦ by
        have q : imT (od x) := q
        rw [hyo x (by have := hF3.size; omega), o9_lt (by have := hF3.size; omega)] at q
        exact absurd q im9)
      refine wl (ro_move rfl) ?_
      refine wl (ro_extract rfl rfl) ?_
      refine wl (ro_extract rfl rfl) ?_
      refine wl (ro_extract rfl rfl) ?_
      refine wl (ro_assign rfl) ?_
      refine wl (ro_assign rfl) ?_
      refine wl (ro_assign rfl) ?_
      refine wl_nil (x_then (hK10 _ _ ?_))
      clear hK10 K10
      refine c_seq (fun K11 hK11 => ?_)
      refine c_seq (fun K12 hK12 => ?_)
      refine c_reg ?_ -- region 9 law.go:99
      refine wl (ro_move rfl) ?_
      refine wl (ro_not rfl) ?_
      refine wl (ro_move rfl) ?_
      refine wlg_yes rfl (ro_move rfl) ?_
      refine wlg_yes rfl (ro_not rfl) ?_
      refine wl (ro_pick rfl rfl rfl) ?_
      refine wl_nil (x_then (hK12 _ _ ?_))
      clear hK12 K12
      refine wc_condT rfl ?_
      refine c_seq (fun K13 hK13 => ?_)
      refine c_reg ?_ -- region 10 law.go:100
      refine wl (ro_move rfl) ?_
      refine wl (ro_assign rfl) ?_
      refine wl_nil (x_then (hK13 _ _ ?_))
      clear hK13 K13
      refine c_ret (x_thenR ?_)
      refine bp_ret Tryz.results3 rfl ?_
      exact ⟨rfl, hF⟩
  | inr x =>
    obtain ⟨t, k⟩ := x
    refine ret_of Tryz.func3 rfl Tryz.ntmps3 rfl ?_
    refine c_seq (fun K1 hK1 => ?_)
    refine c_reg ?_ -- region 0 law.go:88
    refine wl (ro_assign rfl) ?_
    refine wl_nil (x_then (hK1 _ _ ?_))
    clear hK1 K1
    refine c_seq (fun K2 hK2 => ?_)
    refine c_seq (fun K3 hK3 => ?_)
    refine c_reg ?_ -- region 1 law.go:89
    refine wl (ro_move rfl) ?_
    refine wl (ro_lenS rfl st_9) ?_
    refine wl (ro_cmp rfl rfl rfl) ?_
    refine wl_nil (x_then (hK3 _ _ ?_))
    clear hK3 K3
    refine wc_cond rfl (fun hc14 => ?_) (fun hc14 => ?_)
    · try simp only [decide_eq_true_eq, decide_eq_false_iff_not, Bool.not_eq_true', Bool.not_eq_false', Bool.not_eq_eq_eq_not, Bool.not_true, Bool.not_false, beq_iff_eq, bne_iff_ne, ne_eq, beq_eq_false_iff_ne, bne_eq_false_iff_eq, gt_iff_lt, ge_iff_le, Int.not_lt, Int.not_le] at hc14
      have h14 := hc14
      refine c_seq (fun K4 hK4 => ?_)
      refine c_reg ?_ -- region 2 law.go:90
      refine wl (ro_assign rfl) ?_
      refine wl_nil (x_then (hK4 _ _ ?_))
      clear hK4 K4
      refine c_ret (x_thenR ?_)
      refine bp_ret Tryz.results3 rfl ?_
      exact ⟨rfl, hF⟩
    · try simp only [decide_eq_true_eq, decide_eq_false_iff_not, Bool.not_eq_true', Bool.not_eq_false', Bool.not_eq_eq_eq_not, Bool.not_true, Bool.not_false, beq_iff_eq, bne_iff_ne, ne_eq, beq_eq_false_iff_ne, bne_eq_false_iff_eq, gt_iff_lt, ge_iff_le, Int.not_lt, Int.not_le] at hc14
      refine c_skip (x_then (hK2 _ _ ?_))
      clear hK2 K2
      refine forget [(0, _), (1, _)] ⟨rfl, rfl, trivial⟩ (fun e => ?_)
      refine c_seq (fun K5 hK5 => ?_)
      refine c_reg ?_ -- region 3 law.go:92
      refine wl_call rfl en_5 (New5 (ow := o9 w) (o9_ho w) (o9_hd w)) ?_
      rintro _ w1 ⟨cb, sb, db, mb, tb, nb, xb, bb, oc, ov, rfl, hT, hxo, hdd, hov, hl1, hl2, hl3, F1⟩
      have ld := hT.d.lt
      have ln := hT.n1.lt
      have lb : bb < w1.heap.size := by obtain ⟨l, q, -⟩ := hT.n2; exact q.lt
      have e1 := F1.size
      refine wl (ro_assign rfl) ?_
      refine wl_nil (x_then (hK5 _ _ ?_))
      clear hK5 K5
      refine forget [(0, _), (1, _), (5, _)] ⟨rfl, rfl, rfl, trivial⟩ (fun e => ?_)
      refine c_seq (fun K6 hK6 => ?_)
      refine c_reg ?_ -- region 4 law.go:93
      refine wl_call rfl en_6 (New6) ?_
      rintro _ w2 ⟨mc, nn, mt, ms, rfl, ⟨n1, n2, n3⟩, q1, q2, q3, F2⟩
      have e2 := F2.size
      have hno : ∀ x, w1.heap.size ≤ x → ¬ twS oc ov db nb bb x := by
        rintro x hx (q | q | q | q | q)
        · rw [(hdd x hx).1] at q; exact im66 q
        · rw [(hdd x hx).2] at q; exact vt66 q
        · omega
        · omega
        · omega
      have hold : ∀ x, x < w.heap.size → ¬ twS oc ov db nb bb x := fun x hx ↦ tw_old (by rw [hxo x hx]; exact o9_lt hx) (hov x hx) hx hl1 hl2 hl3
      have hG2 : GV w2 oc := (hG.far F1 (fun _ _ _ q ↦ q) hxo).farN F2
      refine wl (ro_assign rfl) ?_
      refine wl_nil (x_then (hK6 _ _ ?_))
      clear hK6 K6
      refine c_seq (fun K7 hK7 => ?_)
      refine c_seq (fun K8 hK8 => ?_)
      refine c_reg ?_ -- region 5 law.go:94
      refine wl (ro_move rfl) ?_
      refine wl (ro_move rfl) ?_
      refine wl (ro_move rfl) ?_
      refine wl (ro_move rfl) ?_
      refine wl_call rfl en_7 (ran7 (s := s) (MoV.mk q1 q2 q3) hfu (Run22 (hT.farN F2) hG2 (fun x hx ↦ (hdd x (by omega)).1) hfu) (hno mc n2) (hno ms n3) (hno mt n1)) ?_
      rintro _ w3 ⟨rfl, F3⟩
      have hF3 : Fram none' w w3 := (F1.trans F2).trans' F3 (fun x hx q ↦ by
        rcases q with q | q
        · exact absurd q (hold x hx)
        · omega)
      have e3 := F3.size
      have hG3 : GV w3 (o9 w3) := hG.far hF3 (fun _ _ _ q ↦ q) (fun x hx ↦ by rw [o9_lt (Nat.lt_of_lt_of_le hx hF3.size), o9_lt hx])
      refine wl (ro_not rfl) ?_
      refine wl_nil (x_then (hK8 _ _ ?_))
      clear hK8 K8
      refine wc_condF rfl ?_
      refine c_skip (x_then (hK7 _ _ ?_))
      clear hK7 K7
      refine forget [(0, _), (1, _)] ⟨rfl, rfl, trivial⟩ (fun e => ?_)
      refine c_seq (fun K9 hK9 => ?_)
      refine c_reg ?_ -- region 7 law.go:97
      refine wl_call rfl en_5 (New5 (ow := o9 w3) (o9_ho w3) (o9_hd w3)) ?_
      rintro _ w4 ⟨cc, sc, dc, mcc, tc, ncc, xc, bc, od, ou, rfl, hU, hyo, hde, hou, hm1, hm2, hm3, F4⟩
      have e4 := F4.size
      refine wl (ro_assign rfl) ?_
      refine wl_nil (x_then (hK9 _ _ ?_))
      clear hK9 K9
      refine forget [(0, _), (1, _), (7, _)] ⟨rfl, rfl, rfl, trivial⟩ (fun e => ?_)
      refine c_seq (fun K10 hK10 => ?_)
      refine c_reg ?_ -- region 8 law.go:98
      refine wl (ro_move rfl) ?_
      refine wl (ro_move rfl) ?_
      refine wl_call rfl en_8 (imaged8 (s := s) hU.c hU.s (hG3.far F4 (fun _ _ _ q ↦ q) hyo) (fun t k A q hA ↦ ians_T q hA) (fun t k q ↦ by unfold img; exact List.cons_ne_nil _ _)) ?_
      rintro r5 w5 ⟨hr5, F5⟩
      obtain rfl : r5 = .tuple #[S (img (progF t (k + 1))), .bool true, .bool true] := by
        rcases hr5 with ⟨_, _, q, _⟩ | ⟨t', k', q, q2⟩
        · rw [hp] at q; cases q
        · rw [hp] at q; cases q; exact q2
      replace hF := (hF3.trans F4).trans' F5 (fun x hx q ↦ by
        have q : imT (od x) := q
        rw [hyo x (by have := hF3.size; omega), o9_lt (by have := hF3.size; omega)] at q
        exact absurd q im9)
      refine wl (ro_move rfl) ?_
      refine wl (ro_extract rfl rfl) ?_
      refine wl (ro_extract rfl rfl) ?_
      refine wl (ro_extract rfl rfl) ?_
      refine wl (ro_assign rfl) ?_
      refine wl (ro_assign rfl) ?_
      refine wl (ro_assign rfl) ?_
      refine wl_nil (x_then (hK10 _ _ ?_))
      clear hK10 K10
      refine c_seq (fun K11 hK11 => ?_)
      refine c_seq (fun K12 hK12 => ?_)
      refine c_reg ?_ -- region 9 law.go:99
      refine wl (ro_move rfl) ?_
      refine wl (ro_not rfl) ?_
      refine wl (ro_move rfl) ?_
      refine wlg_yes rfl (ro_move rfl) ?_
      refine wlg_yes rfl (ro_not rfl) ?_
      refine wl (ro_pick rfl rfl rfl) ?_
      refine wl_nil (x_then (hK12 _ _ ?_))
      clear hK12 K12
      refine wc_condF rfl ?_
      refine c_skip (x_then (hK11 _ _ ?_))
      clear hK11 K11
      refine forget [(0, _), (1, _), (8, _)] ⟨rfl, rfl, rfl, trivial⟩ (fun e => ?_)
      refine c_seq (fun K13 hK13 => ?_)
      refine c_reg ?_ -- region 11 law.go:102
      refine wl_call rfl en_9 (New9) ?_
      rintro _ w6 ⟨d2, m2, t2, n2', x2, b2, ov2, rfl, hV2, hN1, ⟨lN, hN2, hN3⟩, ⟨k1, k2, k3⟩, hC2, ho2, l1, l2, l3, F6⟩
      refine wl (ro_assign rfl) ?_
      refine wl_nil (x_then (hK13 _ _ ?_))
      clear hK13 K13
      refine forget [(0, _), (1, _), (8, _), (11, _)] ⟨rfl, rfl, rfl, rfl, trivial⟩ (fun e => ?_)
      refine c_seq (fun K14 hK14 => ?_)
      refine c_reg ?_ -- region 12 law.go:103
      refine wl (ro_move rfl) ?_
      refine wl (ro_move rfl) ?_
      refine wl (ro_move rfl) ?_
      refine wl (ro_move rfl) ?_
      refine wl_call rfl en_10 (executed10 (s := s) hfu (drv25 hV2 hN1 hN2 hN3 k1 k2 hC2 k3 hp hfu)) ?_
      rintro _ w7 ⟨rfl, F7⟩
      have e6 := hF.size
      replace hF := (hF.trans F6).trans' F7 (fun x hx q ↦ by
        rcases q with q | q | q | q
        · have q : vtT (ov2 x) := q
          rw [ho2 x (by omega)] at q
          exact absurd q vt66
        · omega
        · omega
        · omega)
      refine wl (ro_assign rfl) ?_
      refine wl_nil (x_then (hK14 _ _ ?_))
      clear hK14 K14
      refine c_ret ?_
      refine bp_ret Tryz.results3 rfl ?_
      exact ⟨rfl, hF⟩
end Go.Proofs.Qxb6500568aGreatDoor
