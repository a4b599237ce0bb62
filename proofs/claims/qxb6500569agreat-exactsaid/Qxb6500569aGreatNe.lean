import Derived.Test.Qxb6500569aGreatNd
/- The model's compile. -/
namespace Go.Proofs.Qxb6500569aGreat
set_option linter.unusedVariables false
set_option linter.unusedSimpArgs false

def bodyS (r : Option PR4) : Option PR4 := r.bind (fun r => if r.rest = [] ∧ r.n ≤ 3 ∧ r.vs.length ≤ 6 then some r else none)

/-- The code of a text, if it is one. -/
def compS (text : List UInt8) (query : Bool) : Option (List UInt8) :=
  if query then (bodyS (PG text [])).map (fun r => 63 :: UInt8.ofNat (48 + r.n) :: r.code)
  else (Px 1 text []).bind (fun h => if 6 < h.vs.length then none else if h.rest = [] then some (58 :: 49 :: h.code)
    else if pk h.rest = 58 ∧ pk h.rest.tail = 45 then (bodyS (PG h.rest.tail.tail h.vs)).map (fun r => 58 :: UInt8.ofNat (48 + (r.n + 1)) :: (h.code ++ r.code)) else none)

def compV (o : Option (List UInt8)) : Value := match o with | some c => .tuple #[S c, .bool true] | none => .tuple #[S [], .bool false]

theorem bodyS_bad {t vs : List UInt8} (h : BadG t vs) : bodyS (PG t vs) = none := by
  unfold bodyS
  cases hq : PG t vs with
  | none => rfl
  | some q =>
    have := h q hq
    simp only [Option.bind_some]
    rw [if_neg (by omega)]

theorem d01234 (k : Nat) (h : k ≤ 4) : ([48, 49, 50, 51, 52] : List UInt8)[k]? = some (UInt8.ofNat (48 + k)) := by
  match k, h with | 0, _ | 1, _ | 2, _ | 3, _ | 4, _ => rfl

set_option maxHeartbeats 800000 in
theorem compile53q {w : World} {text : List UInt8} (ht : text.length ≤ 40) : Ret Tryz.prog 53 [S text, .bool true] w (fun r w' => r = compV (compS text true) ∧ Fram none' w w') := by
  refine ret_of Tryz.func53 rfl Tryz.ntmps53 rfl ?_
  refine c_seq (fun K1 hK1 => ?_)
  refine c_reg ?_ -- region 0 progm.go:103
  refine wl (ro_assign rfl) ?_
  refine wl (ro_assign rfl) ?_
  refine wl_nil (x_then (hK1 _ _ ?_))
  clear hK1 K1
  refine forget [(0, _), (1, _)] ⟨rfl, rfl, trivial⟩ (fun e => ?_)
  refine c_seq (fun K2 hK2 => ?_)
  refine c_reg ?_ -- region 1 progm.go:104
  refine wl (ro_move rfl) ?_
  refine wl (ro_build rfl bld_167_0) ?_
  refine wle (eo_box rfl rfl) ?_
  have h1 : RdAt (w.alloc (.cells [S text, i64c 0, S [], .bool false].toArray 167)) w.heap.size text 0 [] false := Blk.new w _ _
  have F1 := Fram.alloc none' w (.cells [S text, i64c 0, S [], .bool false].toArray 167)
  refine gen2 (A := fun w1 => RdAt w1 w.heap.size text 0 [] false) (B := fun w1 => Fram none' w w1) (C := fun w1 => WL _ _ _ _ _ w1) h1 F1 ?_
  clear h1 F1
  intro w1 h1 F1
  refine wl (ro_assign rfl) ?_
  refine wl_nil (x_then (hK2 _ _ ?_))
  clear hK2 K2
  refine forget [(0, _), (1, _), (6, _)] ⟨rfl, rfl, rfl, trivial⟩ (fun e => ?_)
  refine c_seq (fun K3 hK3 => ?_)
  refine c_reg ?_ -- region 2 progm.go:105
  refine wl (ro_assign rfl) ?_
  refine wl_nil (x_then (hK3 _ _ ?_))
  clear hK3 K3
  refine c_seq (fun K4 hK4 => ?_)
  refine c_seq (fun K5 hK5 => ?_)
  refine c_reg ?_ -- region 3 progm.go:106
  refine wl (ro_move rfl) ?_
  refine wl (ro_not rfl) ?_
  refine wl_nil (x_then (hK5 _ _ ?_))
  clear hK5 K5
  refine wc_condF rfl ?_
  refine c_skip (x_then (hK4 _ _ ?_))
  clear hK4 K4
  refine forget [(0, _), (1, _), (6, _), (7, _)] ⟨rfl, rfl, rfl, rfl, trivial⟩ (fun e => ?_)
  refine c_seq (fun K6 hK6 => ?_)
  refine c_reg ?_ -- region 13 progm.go:120
  refine wl (ro_move rfl) ?_
  refine wl_call rfl en_97 (goals97 (by omega) h1 (by omega) (by simp) (by simp)) ?_
  rintro _ w2 ⟨out, n, p', vs', bad', rfl, h2, F2, d1, d2, d3, d4, d5, d6⟩
  have F3 : Fram none' w w2 := F1.trans' F2 (fun k hk h => by omega)
  have d6 := d6 rfl
  simp only [List.drop_zero] at d6
  unfold RdAt at h2
  refine wl (ro_move rfl) ?_
  refine wl (ro_extract rfl rfl) ?_
  refine wl (ro_extract rfl rfl) ?_
  refine wl (ro_assign rfl) ?_
  refine wl (ro_assign rfl) ?_
  refine wl_nil (x_then (hK6 _ _ ?_))
  clear hK6 K6
  refine c_seq (fun K7 hK7 => ?_)
  refine c_seq (fun K8 hK8 => ?_)
  rcases (show bad' = true ∨ (bad' = false ∧ p' ≠ text.length) ∨ (bad' = false ∧ p' = text.length) by { cases bad' with | true => exact .inl rfl | false => by_cases g : p' = text.length; exact .inr (.inr ⟨rfl, g⟩); exact .inr (.inl ⟨rfl, g⟩) }) with hb | ⟨hb, hpl⟩ | ⟨hb, hpl⟩
  · skip
    subst hb
    refine c_reg ?_ -- region 14 progm.go:121
    refine wl (ro_move rfl) ?_
    refine wl (ro_nilCheck rfl) ?_
    refine wl (ro_fieldAddr (k := 3) rfl fo_167_3) ?_
    refine wl (ro_loadB rfl sc_4 (h2) (rfl)) ?_
    refine wl (ro_move rfl) ?_
    refine wlg_no rfl ?_
    refine wlg_no rfl ?_
    refine wlg_no rfl ?_
    refine wlg_no rfl ?_
    refine wlg_no rfl ?_
    refine wlg_no rfl ?_
    refine wlg_no rfl ?_
    refine wl (ro_pick rfl rfl rfl) ?_
    refine wl (ro_move rfl) ?_
    refine wlg_no rfl ?_
    refine wlg_no rfl ?_
    refine wl (ro_pick rfl rfl rfl) ?_
    refine wl_nil (x_then (hK8 _ _ ?_))
    clear hK8 K8
    refine wc_condT rfl ?_
    refine c_seq (fun K9 hK9 => ?_)
    refine c_reg ?_ -- region 15 progm.go:122
    refine wl (ro_assign rfl) ?_
    refine wl (ro_assign rfl) ?_
    refine wl_nil (x_then (hK9 _ _ ?_))
    clear hK9 K9
    refine c_ret (x_thenR ?_)
    refine bp_ret Tryz.results53 rfl ?_
    refine ⟨?_, F3⟩
    rcases d6 with ⟨_, hB⟩ | ⟨h, _⟩
    · show _ = compV ((bodyS (PG text [])).map _)
      rw [bodyS_bad hB]; rfl
    · cases h
  · skip
    subst hb
    refine c_reg ?_ -- region 14 progm.go:121
    refine wl (ro_move rfl) ?_
    refine wl (ro_nilCheck rfl) ?_
    refine wl (ro_fieldAddr (k := 3) rfl fo_167_3) ?_
    refine wl (ro_loadB rfl sc_4 (h2) (rfl)) ?_
    refine wl (ro_move rfl) ?_
    refine wlg_yes rfl (ro_move rfl) ?_
    refine wlg_yes rfl (ro_nilCheck rfl) ?_
    refine wlg_yes rfl (ro_fieldAddr (k := 1) rfl fo_167_1) ?_
    refine wlg_yes rfl (ro_loadB rfl sc_3 (h2) (rfl)) ?_
    refine wlg_yes rfl (ro_move rfl) ?_
    refine wlg_yes rfl (ro_lenS rfl st_9) ?_
    refine wlg_yes rfl (ro_cmp (r := true) rfl rfl (by simp; omega)) ?_
    refine wl (ro_pick rfl rfl rfl) ?_
    refine wl (ro_move rfl) ?_
    refine wlg_no rfl ?_
    refine wlg_no rfl ?_
    refine wl (ro_pick rfl rfl rfl) ?_
    refine wl_nil (x_then (hK8 _ _ ?_))
    clear hK8 K8
    refine wc_condT rfl ?_
    refine c_seq (fun K10 hK10 => ?_)
    refine c_reg ?_ -- region 15 progm.go:122
    refine wl (ro_assign rfl) ?_
    refine wl (ro_assign rfl) ?_
    refine wl_nil (x_then (hK10 _ _ ?_))
    clear hK10 K10
    refine c_ret (x_thenR ?_)
    refine bp_ret Tryz.results53 rfl ?_
    refine ⟨?_, F3⟩
    rcases d6 with ⟨h, _⟩ | ⟨_, q, e1, e2, e3, e4, e5, e6, e7⟩
    · cases h
    · show _ = compV ((bodyS (PG text [])).map _)
      have hne : q.rest ≠ [] := by rw [← e5]; intro hx; have := congrArg List.length hx; simp at this; omega
      rw [e1]
      simp only [bodyS, Option.bind_some]
      rw [if_neg (fun hx => hne hx.1)]; rfl
  · skip
    subst hb
    refine c_reg ?_ -- region 14 progm.go:121
    refine wl (ro_move rfl) ?_
    refine wl (ro_nilCheck rfl) ?_
    refine wl (ro_fieldAddr (k := 3) rfl fo_167_3) ?_
    refine wl (ro_loadB rfl sc_4 (h2) (rfl)) ?_
    refine wl (ro_move rfl) ?_
    refine wlg_yes rfl (ro_move rfl) ?_
    refine wlg_yes rfl (ro_nilCheck rfl) ?_
    refine wlg_yes rfl (ro_fieldAddr (k := 1) rfl fo_167_1) ?_
    refine wlg_yes rfl (ro_loadB rfl sc_3 (h2) (rfl)) ?_
    refine wlg_yes rfl (ro_move rfl) ?_
    refine wlg_yes rfl (ro_lenS rfl st_9) ?_
    refine wlg_yes rfl (ro_cmp (r := false) rfl rfl (by simp; omega)) ?_
    refine wl (ro_pick rfl rfl rfl) ?_
    refine wl (ro_move rfl) ?_
    refine wlg_yes rfl (ro_move rfl) ?_
    refine wlg_yes rfl (ro_cmp rfl rfl rfl) ?_
    refine wl (ro_pick rfl rfl rfl) ?_
    refine wl_nil (x_then (hK8 _ _ ?_))
    clear hK8 K8
    refine wc_cond rfl (fun hc74 => ?_) (fun hc74 => ?_)
    · try simp only [decide_eq_true_eq, decide_eq_false_iff_not, Bool.not_eq_true', Bool.not_eq_false', Bool.not_eq_eq_eq_not, Bool.not_true, Bool.not_false, beq_iff_eq, bne_iff_ne, ne_eq, beq_eq_false_iff_ne, bne_eq_false_iff_eq, gt_iff_lt, ge_iff_le, Int.not_lt, Int.not_le] at hc74
      have hn3 : 3 < n := by omega
      refine c_seq (fun K11 hK11 => ?_)
      refine c_reg ?_ -- region 15 progm.go:122
      refine wl (ro_assign rfl) ?_
      refine wl (ro_assign rfl) ?_
      refine wl_nil (x_then (hK11 _ _ ?_))
      clear hK11 K11
      refine c_ret (x_thenR ?_)
      refine bp_ret Tryz.results53 rfl ?_
      refine ⟨?_, F3⟩
      rcases d6 with ⟨h, _⟩ | ⟨_, q, e1, e2, e3, e4, e5, e6, e7⟩
      · cases h
      · show _ = compV ((bodyS (PG text [])).map _)
        rw [e1]
        simp only [bodyS, Option.bind_some]
        rw [if_neg (fun hx => by omega)]; rfl
    · try simp only [decide_eq_true_eq, decide_eq_false_iff_not, Bool.not_eq_true', Bool.not_eq_false', Bool.not_eq_eq_eq_not, Bool.not_true, Bool.not_false, beq_iff_eq, bne_iff_ne, ne_eq, beq_eq_false_iff_ne, bne_eq_false_iff_eq, gt_iff_lt, ge_iff_le, Int.not_lt, Int.not_le] at hc74
      have hn3 : n ≤ 3 := by omega
      refine c_skip (x_then (hK7 _ _ ?_))
      clear hK7 K7
      refine c_seq (fun K12 hK12 => ?_)
      refine c_seq (fun K13 hK13 => ?_)
      refine c_reg ?_ -- region 16 progm.go:124
      refine wl (ro_move rfl) ?_
      refine wl_nil (x_then (hK13 _ _ ?_))
      clear hK13 K13
      refine wc_condT rfl ?_
      refine c_seq (fun K14 hK14 => ?_)
      refine c_reg ?_ -- region 17 progm.go:125
      refine wl (ro_move rfl) ?_
      refine wl (ro_move rfl) ?_
      refine wl (ro_arith rfl rfl rfl (Go.IntWalk.i64_in _ (by omega))) ?_
      refine wl ((show RO _ _ _ _ _ (S [UInt8.ofNat (48 + n)]) from take1 (d0123 n hn3) ▸ ro_sliceSLH (s := [48, 49, 50, 51]) (l := n) (h := n + 1) rfl rfl rfl st_9 rfl (by omega) (by omega) (by simp; omega))) ?_
      refine wl (ro_catS rfl rfl (by simp)) ?_
      refine wl (ro_move rfl) ?_
      refine wl (ro_catS rfl rfl (by simp; omega)) ?_
      refine wl (ro_assign rfl) ?_
      refine wl (ro_assign rfl) ?_
      refine wl_nil (x_then (hK14 _ _ ?_))
      clear hK14 K14
      refine c_ret (x_thenR ?_)
      refine bp_ret Tryz.results53 rfl ?_
      refine ⟨?_, F3⟩
      rcases d6 with ⟨h, _⟩ | ⟨_, q, e1, e2, e3, e4, e5, e6, e7⟩
      · cases h
      · show _ = compV ((bodyS (PG text [])).map _)
        have hr : q.rest = [] := by rw [← e5, hpl]; simp
        rw [e1]
        simp only [bodyS, Option.bind_some]
        rw [if_pos ⟨hr, by omega, e2⟩, e3, e4]; rfl

set_option maxHeartbeats 1600000 in
theorem compile53c {w : World} {text : List UInt8} (ht : text.length ≤ 40) : Ret Tryz.prog 53 [S text, .bool false] w (fun r w' => r = compV (compS text false) ∧ Fram none' w w') := by
  have hcS : compS text false = (Px 1 text []).bind (fun h => if 6 < h.vs.length then none else if h.rest = [] then some (58 :: 49 :: h.code) else if pk h.rest = 58 ∧ pk h.rest.tail = 45 then (bodyS (PG h.rest.tail.tail h.vs)).map (fun r => 58 :: UInt8.ofNat (48 + (r.n + 1)) :: (h.code ++ r.code)) else none) := rfl
  refine ret_of Tryz.func53 rfl Tryz.ntmps53 rfl ?_
  refine c_seq (fun K1 hK1 => ?_)
  refine c_reg ?_ -- region 0 progm.go:103
  refine wl (ro_assign rfl) ?_
  refine wl (ro_assign rfl) ?_
  refine wl_nil (x_then (hK1 _ _ ?_))
  clear hK1 K1
  refine forget [(0, _), (1, _)] ⟨rfl, rfl, trivial⟩ (fun e => ?_)
  refine c_seq (fun K2 hK2 => ?_)
  refine c_reg ?_ -- region 1 progm.go:104
  refine wl (ro_move rfl) ?_
  refine wl (ro_build rfl bld_167_0) ?_
  refine wle (eo_box rfl rfl) ?_
  have h1 : RdAt (w.alloc (.cells [S text, i64c 0, S [], .bool false].toArray 167)) w.heap.size text 0 [] false := Blk.new w _ _
  have F1 := Fram.alloc none' w (.cells [S text, i64c 0, S [], .bool false].toArray 167)
  refine gen2 (A := fun w1 => RdAt w1 w.heap.size text 0 [] false) (B := fun w1 => Fram none' w w1) (C := fun w1 => WL _ _ _ _ _ w1) h1 F1 ?_
  clear h1 F1
  intro w1 h1 F1
  refine wl (ro_assign rfl) ?_
  refine wl_nil (x_then (hK2 _ _ ?_))
  clear hK2 K2
  refine forget [(0, _), (1, _), (6, _)] ⟨rfl, rfl, rfl, trivial⟩ (fun e => ?_)
  refine c_seq (fun K3 hK3 => ?_)
  refine c_reg ?_ -- region 2 progm.go:105
  refine wl (ro_assign rfl) ?_
  refine wl_nil (x_then (hK3 _ _ ?_))
  clear hK3 K3
  refine c_seq (fun K4 hK4 => ?_)
  refine c_seq (fun K5 hK5 => ?_)
  refine c_reg ?_ -- region 3 progm.go:106
  refine wl (ro_move rfl) ?_
  refine wl (ro_not rfl) ?_
  refine wl_nil (x_then (hK5 _ _ ?_))
  clear hK5 K5
  refine wc_condT rfl ?_
  refine c_seq (fun K6 hK6 => ?_)
  refine c_reg ?_ -- region 4 progm.go:107
  refine wl (ro_move rfl) ?_
  refine wl_call rfl en_95 (term95 (by omega) 100 (by omega) 0 [] false true w1 h1 (by omega) (by simp) (by simp) (by simp; omega)) ?_
  rintro _ w2 ⟨hd, p1, vs1, bad1, rfl, h2, F2, d1, d2, d3, d4, d5, d6⟩
  have F3 : Fram none' w w2 := F1.trans' F2 (fun k hk h => by omega)
  have d6 := d6 rfl
  simp only [List.drop_zero] at d6
  have hp1 : p1 ≤ 200 := by omega
  have hvl : vs1.length ≤ 200 := by simp at d4; omega
  unfold RdAt at h2
  refine wl (ro_assign rfl) ?_
  refine wl_nil (x_then (hK6 _ _ ?_))
  clear hK6 K6
  refine c_seq (fun K7 hK7 => ?_)
  refine c_seq (fun K8 hK8 => ?_)
  rcases (show bad1 = true ∨ bad1 = false by cases bad1 with | true => exact .inl rfl | false => exact .inr rfl) with hb1 | hb1
  · skip
    subst hb1
    have hN : compS text false = none := by
      rcases d6 with ⟨_, hB⟩ | ⟨h, _⟩
      · rw [hcS]
        cases hq : Px 1 text [] with
        | none => rfl
        | some q => simp only [Option.bind_some]; rw [if_pos (hB q hq)]
      · cases h
    refine c_reg ?_ -- region 5 progm.go:108
    refine wl (ro_move rfl) ?_
    refine wl (ro_nilCheck rfl) ?_
    refine wl (ro_fieldAddr (k := 3) rfl fo_167_3) ?_
    refine wl (ro_loadB rfl sc_4 (h2) (rfl)) ?_
    refine wl (ro_not rfl) ?_
    refine wl (ro_move rfl) ?_
    refine wlg_no rfl ?_
    refine wlg_no rfl ?_
    refine wlg_no rfl ?_
    refine wlg_no rfl ?_
    refine wlg_no rfl ?_
    refine wlg_no rfl ?_
    refine wlg_no rfl ?_
    refine wl (ro_pick rfl rfl rfl) ?_
    refine wl_nil (x_then (hK8 _ _ ?_))
    clear hK8 K8
    refine wc_condF rfl ?_
    refine c_skip (x_then (hK7 _ _ ?_))
    clear hK7 K7
    refine c_seq (fun K9 hK9 => ?_)
    refine c_seq (fun K10 hK10 => ?_)
    refine c_reg ?_ -- region 7 progm.go:111
    refine wl (ro_move rfl) ?_
    refine wl_call rfl en_96 (peek96 h2 (by omega) (by omega)) ?_
    rintro _ w3 ⟨rfl, F4⟩
    have h3 := Blk.fram h2 F4 (fun h => h)
    have F5 : Fram none' w w3 := F3.trans F4
    refine wl (ro_cmp (r := decide (pk (text.drop p1) ≠ 58)) rfl rfl (congrArg some (by have := beqb (pk (text.drop p1)) 58; simp [bne] at this ⊢; rw [this]))) ?_
    refine wl_nil (x_then (hK10 _ _ ?_))
    clear hK10 K10
    refine wc_cond rfl (fun hc35 => ?_) (fun hc35 => ?_)
    · try simp only [decide_eq_true_eq, decide_eq_false_iff_not, Bool.not_eq_true', Bool.not_eq_false', Bool.not_eq_eq_eq_not, Bool.not_true, Bool.not_false, beq_iff_eq, bne_iff_ne, ne_eq, beq_eq_false_iff_ne, bne_eq_false_iff_eq, gt_iff_lt, ge_iff_le, Int.not_lt, Int.not_le] at hc35
      have h58 : pk (text.drop p1) ≠ 58 := by simpa using hc35
      refine c_seq (fun K11 hK11 => ?_)
      refine c_reg ?_ -- region 8 progm.go:112
      refine wl (ro_assign rfl) ?_
      refine wl (ro_assign rfl) ?_
      refine wl_nil (x_then (hK11 _ _ ?_))
      clear hK11 K11
      refine c_ret (x_thenR (x_thenR ?_))
      refine bp_ret Tryz.results53 rfl ?_
      exact ⟨by rw [hN]; rfl, F5⟩
    · try simp only [decide_eq_true_eq, decide_eq_false_iff_not, Bool.not_eq_true', Bool.not_eq_false', Bool.not_eq_eq_eq_not, Bool.not_true, Bool.not_false, beq_iff_eq, bne_iff_ne, ne_eq, beq_eq_false_iff_ne, bne_eq_false_iff_eq, gt_iff_lt, ge_iff_le, Int.not_lt, Int.not_le] at hc35
      have h58 : pk (text.drop p1) = 58 := by simpa using hc35
      refine c_skip (x_then (hK9 _ _ ?_))
      clear hK9 K9
      refine forget [(0, _), (1, _), (6, _), (7, _)] ⟨rfl, rfl, rfl, rfl, trivial⟩ (fun e => ?_)
      refine c_seq (fun K12 hK12 => ?_)
      refine c_reg ?_ -- region 9 progm.go:114
      refine wl (ro_move rfl) ?_
      refine wl (ro_nilCheck rfl) ?_
      refine wl (ro_fieldAddr (k := 1) rfl fo_167_1) ?_
      refine wl (ro_loadB rfl sc_3 (h3) (rfl)) ?_
      refine wl (ro_arith rfl rfl rfl (Go.IntWalk.i64_in _ (by omega))) ?_
      refine wl (ro_nilCheck rfl) ?_
      refine wl (ro_fieldAddr (k := 1) rfl fo_167_1) ?_
      refine wls (so_storeB rfl rfl rfl sz_3 (h3) (by simp)) ?_
      have h4 := Blk.set h3 [S text, i64c (p1 + 1), S vs1, .bool true]
      have F6 : Fram none' w _ := F5.thenSet (b := w.heap.size) (cs := [S text, i64c (p1 + 1), S vs1, .bool true].toArray) (.inr (Nat.le_refl _))
      refine wl_nil (x_then (hK12 _ _ ?_))
      clear hK12 K12
      refine c_seq (fun K13 hK13 => ?_)
      refine c_seq (fun K14 hK14 => ?_)
      refine c_reg ?_ -- region 10 progm.go:115
      refine wl (ro_move rfl) ?_
      refine wl_call rfl en_96 (peek96 h4 (by omega) (by omega)) ?_
      rintro _ w5 ⟨rfl, F7⟩
      have h5 := Blk.fram h4 F7 (fun h => h)
      have F8 : Fram none' w w5 := F6.trans F7
      refine wl (ro_cmp (r := decide (pk (text.drop (p1 + 1)) ≠ 45)) rfl rfl (congrArg some (by have := beqb (pk (text.drop (p1 + 1))) 45; simp [bne] at this ⊢; rw [this]))) ?_
      refine wl_nil (x_then (hK14 _ _ ?_))
      clear hK14 K14
      refine wc_cond rfl (fun hc45 => ?_) (fun hc45 => ?_)
      · try simp only [decide_eq_true_eq, decide_eq_false_iff_not, Bool.not_eq_true', Bool.not_eq_false', Bool.not_eq_eq_eq_not, Bool.not_true, Bool.not_false, beq_iff_eq, bne_iff_ne, ne_eq, beq_eq_false_iff_ne, bne_eq_false_iff_eq, gt_iff_lt, ge_iff_le, Int.not_lt, Int.not_le] at hc45
        have h45 : pk (text.drop (p1 + 1)) ≠ 45 := by simpa using hc45
        refine c_seq (fun K15 hK15 => ?_)
        refine c_reg ?_ -- region 11 progm.go:116
        refine wl (ro_assign rfl) ?_
        refine wl (ro_assign rfl) ?_
        refine wl_nil (x_then (hK15 _ _ ?_))
        clear hK15 K15
        refine c_ret (x_thenR (x_thenR ?_))
        refine bp_ret Tryz.results53 rfl ?_
        exact ⟨by rw [hN]; rfl, F8⟩
      · try simp only [decide_eq_true_eq, decide_eq_false_iff_not, Bool.not_eq_true', Bool.not_eq_false', Bool.not_eq_eq_eq_not, Bool.not_true, Bool.not_false, beq_iff_eq, bne_iff_ne, ne_eq, beq_eq_false_iff_ne, bne_eq_false_iff_eq, gt_iff_lt, ge_iff_le, Int.not_lt, Int.not_le] at hc45
        have h45 : pk (text.drop (p1 + 1)) = 45 := by simpa using hc45
        refine c_skip (x_then (hK13 _ _ ?_))
        clear hK13 K13
        refine c_reg ?_ -- region 12 progm.go:118
        refine wl (ro_move rfl) ?_
        refine wl (ro_nilCheck rfl) ?_
        refine wl (ro_fieldAddr (k := 1) rfl fo_167_1) ?_
        refine wl (ro_loadB rfl sc_3 (h5) (rfl)) ?_
        refine wl (ro_arith rfl rfl rfl (Go.IntWalk.i64_in _ (by omega))) ?_
        refine wl (ro_nilCheck rfl) ?_
        refine wl (ro_fieldAddr (k := 1) rfl fo_167_1) ?_
        refine wls (so_storeB rfl rfl rfl sz_3 (h5) (by simp)) ?_
        have h6 := Blk.set h5 [S text, i64c (p1 + 1 + 1), S vs1, .bool true]
        have F9 : Fram none' w _ := F8.thenSet (b := w.heap.size) (cs := [S text, i64c (p1 + 1 + 1), S vs1, .bool true].toArray) (.inr (Nat.le_refl _))
        refine gen2 (A := fun w1 => RdAt w1 w.heap.size text (p1 + 1 + 1) vs1 true) (B := fun w1 => Fram none' w w1) (C := fun w1 => WL _ _ _ _ _ w1) h6 F9 ?_
        clear h6 F9 F8 F7 h5 h4 F6
        intro w6 h6 F9
        have hv66 : true = false → vs1.length ≤ 6 := fun h => by cases h
        refine wl_nil (x_then (hK4 _ _ ?_))
        clear hK4 K4
        refine forget [(0, _), (1, _), (6, _), (7, _)] ⟨rfl, rfl, rfl, rfl, trivial⟩ (fun e => ?_)
        refine c_seq (fun K16 hK16 => ?_)
        refine c_reg ?_ -- region 13 progm.go:120
        refine wl (ro_move rfl) ?_
        refine wl_call rfl en_97 (goals97 (by omega) h6 (by omega) (by omega) hv66) ?_
        rintro _ w7 ⟨out, n, p', vs', bad', rfl, h7, F10, g1, g2, g3, g4, g5, g6⟩
        have F11 : Fram none' w w7 := F9.trans' F10 (fun k hk h => by omega)
        unfold RdAt at h7
        refine wl (ro_move rfl) ?_
        refine wl (ro_extract rfl rfl) ?_
        refine wl (ro_extract rfl rfl) ?_
        refine wl (ro_assign rfl) ?_
        refine wl (ro_assign rfl) ?_
        refine wl_nil (x_then (hK16 _ _ ?_))
        clear hK16 K16
        refine c_seq (fun K17 hK17 => ?_)
        refine c_seq (fun K18 hK18 => ?_)
        obtain rfl : bad' = true := g5 rfl
        · skip
          refine c_reg ?_ -- region 14 progm.go:121
          refine wl (ro_move rfl) ?_
          refine wl (ro_nilCheck rfl) ?_
          refine wl (ro_fieldAddr (k := 3) rfl fo_167_3) ?_
          refine wl (ro_loadB rfl sc_4 (h7) (rfl)) ?_
          refine wl (ro_move rfl) ?_
          refine wlg_no rfl ?_
          refine wlg_no rfl ?_
          refine wlg_no rfl ?_
          refine wlg_no rfl ?_
          refine wlg_no rfl ?_
          refine wlg_no rfl ?_
          refine wlg_no rfl ?_
          refine wl (ro_pick rfl rfl rfl) ?_
          refine wl (ro_move rfl) ?_
          refine wlg_no rfl ?_
          refine wlg_no rfl ?_
          refine wl (ro_pick rfl rfl rfl) ?_
          refine wl_nil (x_then (hK18 _ _ ?_))
          clear hK18 K18
          refine wc_condT rfl ?_
          refine c_seq (fun K19 hK19 => ?_)
          refine c_reg ?_ -- region 15 progm.go:122
          refine wl (ro_assign rfl) ?_
          refine wl (ro_assign rfl) ?_
          refine wl_nil (x_then (hK19 _ _ ?_))
          clear hK19 K19
          refine c_ret (x_thenR ?_)
          refine bp_ret Tryz.results53 rfl ?_
          exact ⟨by rw [hN]; rfl, F11⟩
  · skip
    subst hb1
    obtain ⟨q, e1, e2, e3, e4, e5, e6⟩ : ∃ q, Px 1 text [] = some q ∧ q.vs.length ≤ 6 ∧ hd = q.code ∧ text.drop p1 = q.rest ∧ vs1 = q.vs ∧ p1 ≤ text.length := by
      rcases d6 with ⟨h, _⟩ | ⟨_, h⟩
      · cases h
      · exact h
    rw [e1] at hcS
    simp only [Option.bind_some] at hcS
    rw [if_neg (by omega), ← e3, ← e4, ← e5, drop1, drop1] at hcS
    refine c_reg ?_ -- region 5 progm.go:108
    refine wl (ro_move rfl) ?_
    refine wl (ro_nilCheck rfl) ?_
    refine wl (ro_fieldAddr (k := 3) rfl fo_167_3) ?_
    refine wl (ro_loadB rfl sc_4 (h2) (rfl)) ?_
    refine wl (ro_not rfl) ?_
    refine wl (ro_move rfl) ?_
    refine wlg_yes rfl (ro_move rfl) ?_
    refine wlg_yes rfl (ro_nilCheck rfl) ?_
    refine wlg_yes rfl (ro_fieldAddr (k := 1) rfl fo_167_1) ?_
    refine wlg_yes rfl (ro_loadB rfl sc_3 (h2) (rfl)) ?_
    refine wlg_yes rfl (ro_move rfl) ?_
    refine wlg_yes rfl (ro_lenS rfl st_9) ?_
    refine wlg_yes rfl (ro_cmp (r := decide (p1 = text.length)) rfl rfl (congrArg some (beqc _ _))) ?_
    refine wl (ro_pick rfl rfl rfl) ?_
    refine wl_nil (x_then (hK8 _ _ ?_))
    clear hK8 K8
    refine wc_cond rfl (fun hc30 => ?_) (fun hc30 => ?_)
    · try simp only [decide_eq_true_eq, decide_eq_false_iff_not, Bool.not_eq_true', Bool.not_eq_false', Bool.not_eq_eq_eq_not, Bool.not_true, Bool.not_false, beq_iff_eq, bne_iff_ne, ne_eq, beq_eq_false_iff_ne, bne_eq_false_iff_eq, gt_iff_lt, ge_iff_le, Int.not_lt, Int.not_le] at hc30
      have hpl : p1 = text.length := by simpa using hc30
      rw [if_pos (by rw [hpl]; simp)] at hcS
      refine c_seq (fun K20 hK20 => ?_)
      refine c_reg ?_ -- region 6 progm.go:109
      refine wl (ro_move rfl) ?_
      refine wl (ro_catS rfl rfl (by simp at d3 ⊢; omega)) ?_
      refine wl (ro_assign rfl) ?_
      refine wl (ro_assign rfl) ?_
      refine wl_nil (x_then (hK20 _ _ ?_))
      clear hK20 K20
      refine c_ret (x_thenR (x_thenR ?_))
      refine bp_ret Tryz.results53 rfl ?_
      exact ⟨by rw [hcS]; rfl, F3⟩
    · try simp only [decide_eq_true_eq, decide_eq_false_iff_not, Bool.not_eq_true', Bool.not_eq_false', Bool.not_eq_eq_eq_not, Bool.not_true, Bool.not_false, beq_iff_eq, bne_iff_ne, ne_eq, beq_eq_false_iff_ne, bne_eq_false_iff_eq, gt_iff_lt, ge_iff_le, Int.not_lt, Int.not_le] at hc30
      have hpl : ¬ p1 = text.length := by simpa using hc30
      rw [if_neg (by intro hx; have := congrArg List.length hx; simp at this; omega)] at hcS
      refine c_skip (x_then (hK7 _ _ ?_))
      clear hK7 K7
      refine c_seq (fun K21 hK21 => ?_)
      refine c_seq (fun K22 hK22 => ?_)
      refine c_reg ?_ -- region 7 progm.go:111
      refine wl (ro_move rfl) ?_
      refine wl_call rfl en_96 (peek96 h2 (by omega) (by omega)) ?_
      rintro _ w3 ⟨rfl, F4⟩
      have h3 := Blk.fram h2 F4 (fun h => h)
      have F5 : Fram none' w w3 := F3.trans F4
      refine wl (ro_cmp (r := decide (pk (text.drop p1) ≠ 58)) rfl rfl (congrArg some (by have := beqb (pk (text.drop p1)) 58; simp [bne] at this ⊢; rw [this]))) ?_
      refine wl_nil (x_then (hK22 _ _ ?_))
      clear hK22 K22
      refine wc_cond rfl (fun hc35 => ?_) (fun hc35 => ?_)
      · try simp only [decide_eq_true_eq, decide_eq_false_iff_not, Bool.not_eq_true', Bool.not_eq_false', Bool.not_eq_eq_eq_not, Bool.not_true, Bool.not_false, beq_iff_eq, bne_iff_ne, ne_eq, beq_eq_false_iff_ne, bne_eq_false_iff_eq, gt_iff_lt, ge_iff_le, Int.not_lt, Int.not_le] at hc35
        have h58 : pk (text.drop p1) ≠ 58 := by simpa using hc35
        refine c_seq (fun K23 hK23 => ?_)
        refine c_reg ?_ -- region 8 progm.go:112
        refine wl (ro_assign rfl) ?_
        refine wl (ro_assign rfl) ?_
        refine wl_nil (x_then (hK23 _ _ ?_))
        clear hK23 K23
        refine c_ret (x_thenR (x_thenR ?_))
        refine bp_ret Tryz.results53 rfl ?_
        rw [if_neg (fun hx => h58 hx.1)] at hcS
        exact ⟨by rw [hcS]; rfl, F5⟩
      · try simp only [decide_eq_true_eq, decide_eq_false_iff_not, Bool.not_eq_true', Bool.not_eq_false', Bool.not_eq_eq_eq_not, Bool.not_true, Bool.not_false, beq_iff_eq, bne_iff_ne, ne_eq, beq_eq_false_iff_ne, bne_eq_false_iff_eq, gt_iff_lt, ge_iff_le, Int.not_lt, Int.not_le] at hc35
        have h58 : pk (text.drop p1) = 58 := by simpa using hc35
        refine c_skip (x_then (hK21 _ _ ?_))
        clear hK21 K21
        refine forget [(0, _), (1, _), (6, _), (7, _)] ⟨rfl, rfl, rfl, rfl, trivial⟩ (fun e => ?_)
        refine c_seq (fun K24 hK24 => ?_)
        refine c_reg ?_ -- region 9 progm.go:114
        refine wl (ro_move rfl) ?_
        refine wl (ro_nilCheck rfl) ?_
        refine wl (ro_fieldAddr (k := 1) rfl fo_167_1) ?_
        refine wl (ro_loadB rfl sc_3 (h3) (rfl)) ?_
        refine wl (ro_arith rfl rfl rfl (Go.IntWalk.i64_in _ (by omega))) ?_
        refine wl (ro_nilCheck rfl) ?_
        refine wl (ro_fieldAddr (k := 1) rfl fo_167_1) ?_
        refine wls (so_storeB rfl rfl rfl sz_3 (h3) (by simp)) ?_
        have h4 := Blk.set h3 [S text, i64c (p1 + 1), S vs1, .bool false]
        have F6 : Fram none' w _ := F5.thenSet (b := w.heap.size) (cs := [S text, i64c (p1 + 1), S vs1, .bool false].toArray) (.inr (Nat.le_refl _))
        refine wl_nil (x_then (hK24 _ _ ?_))
        clear hK24 K24
        refine c_seq (fun K25 hK25 => ?_)
        refine c_seq (fun K26 hK26 => ?_)
        refine c_reg ?_ -- region 10 progm.go:115
        refine wl (ro_move rfl) ?_
        refine wl_call rfl en_96 (peek96 h4 (by omega) (by omega)) ?_
        rintro _ w5 ⟨rfl, F7⟩
        have h5 := Blk.fram h4 F7 (fun h => h)
        have F8 : Fram none' w w5 := F6.trans F7
        refine wl (ro_cmp (r := decide (pk (text.drop (p1 + 1)) ≠ 45)) rfl rfl (congrArg some (by have := beqb (pk (text.drop (p1 + 1))) 45; simp [bne] at this ⊢; rw [this]))) ?_
        refine wl_nil (x_then (hK26 _ _ ?_))
        clear hK26 K26
        refine wc_cond rfl (fun hc45 => ?_) (fun hc45 => ?_)
        · try simp only [decide_eq_true_eq, decide_eq_false_iff_not, Bool.not_eq_true', Bool.not_eq_false', Bool.not_eq_eq_eq_not, Bool.not_true, Bool.not_false, beq_iff_eq, bne_iff_ne, ne_eq, beq_eq_false_iff_ne, bne_eq_false_iff_eq, gt_iff_lt, ge_iff_le, Int.not_lt, Int.not_le] at hc45
          have h45 : pk (text.drop (p1 + 1)) ≠ 45 := by simpa using hc45
          refine c_seq (fun K27 hK27 => ?_)
          refine c_reg ?_ -- region 11 progm.go:116
          refine wl (ro_assign rfl) ?_
          refine wl (ro_assign rfl) ?_
          refine wl_nil (x_then (hK27 _ _ ?_))
          clear hK27 K27
          refine c_ret (x_thenR (x_thenR ?_))
          refine bp_ret Tryz.results53 rfl ?_
          rw [if_neg (fun hx => h45 hx.2)] at hcS
          exact ⟨by rw [hcS]; rfl, F8⟩
        · try simp only [decide_eq_true_eq, decide_eq_false_iff_not, Bool.not_eq_true', Bool.not_eq_false', Bool.not_eq_eq_eq_not, Bool.not_true, Bool.not_false, beq_iff_eq, bne_iff_ne, ne_eq, beq_eq_false_iff_ne, bne_eq_false_iff_eq, gt_iff_lt, ge_iff_le, Int.not_lt, Int.not_le] at hc45
          have h45 : pk (text.drop (p1 + 1)) = 45 := by simpa using hc45
          refine c_skip (x_then (hK25 _ _ ?_))
          clear hK25 K25
          refine c_reg ?_ -- region 12 progm.go:118
          refine wl (ro_move rfl) ?_
          refine wl (ro_nilCheck rfl) ?_
          refine wl (ro_fieldAddr (k := 1) rfl fo_167_1) ?_
          refine wl (ro_loadB rfl sc_3 (h5) (rfl)) ?_
          refine wl (ro_arith rfl rfl rfl (Go.IntWalk.i64_in _ (by omega))) ?_
          refine wl (ro_nilCheck rfl) ?_
          refine wl (ro_fieldAddr (k := 1) rfl fo_167_1) ?_
          refine wls (so_storeB rfl rfl rfl sz_3 (h5) (by simp)) ?_
          have h6 := Blk.set h5 [S text, i64c (p1 + 1 + 1), S vs1, .bool false]
          have F9 : Fram none' w _ := F8.thenSet (b := w.heap.size) (cs := [S text, i64c (p1 + 1 + 1), S vs1, .bool false].toArray) (.inr (Nat.le_refl _))
          refine gen2 (A := fun w1 => RdAt w1 w.heap.size text (p1 + 1 + 1) vs1 false) (B := fun w1 => Fram none' w w1) (C := fun w1 => WL _ _ _ _ _ w1) h6 F9 ?_
          clear h6 F9 F8 F7 h5 h4 F6
          intro w6 h6 F9
          have hv66 : false = false → vs1.length ≤ 6 := fun h => by rw [e5]; exact e2
          rw [if_pos ⟨h58, h45⟩] at hcS
          refine wl_nil (x_then (hK4 _ _ ?_))
          clear hK4 K4
          refine forget [(0, _), (1, _), (6, _), (7, _)] ⟨rfl, rfl, rfl, rfl, trivial⟩ (fun e => ?_)
          refine c_seq (fun K28 hK28 => ?_)
          refine c_reg ?_ -- region 13 progm.go:120
          refine wl (ro_move rfl) ?_
          refine wl_call rfl en_97 (goals97 (by omega) h6 (by omega) (by omega) hv66) ?_
          rintro _ w7 ⟨out, n, p', vs', bad', rfl, h7, F10, g1, g2, g3, g4, g5, g6⟩
          have F11 : Fram none' w w7 := F9.trans' F10 (fun k hk h => by omega)
          unfold RdAt at h7
          refine wl (ro_move rfl) ?_
          refine wl (ro_extract rfl rfl) ?_
          refine wl (ro_extract rfl rfl) ?_
          refine wl (ro_assign rfl) ?_
          refine wl (ro_assign rfl) ?_
          refine wl_nil (x_then (hK28 _ _ ?_))
          clear hK28 K28
          refine c_seq (fun K29 hK29 => ?_)
          refine c_seq (fun K30 hK30 => ?_)
          have g6 := g6 rfl
          rcases (show bad' = true ∨ (bad' = false ∧ p' ≠ text.length) ∨ (bad' = false ∧ p' = text.length) by { cases bad' with | true => exact .inl rfl | false => by_cases g : p' = text.length; exact .inr (.inr ⟨rfl, g⟩); exact .inr (.inl ⟨rfl, g⟩) }) with hb | ⟨hb, hpl⟩ | ⟨hb, hpl⟩
          · skip
            subst hb
            refine c_reg ?_ -- region 14 progm.go:121
            refine wl (ro_move rfl) ?_
            refine wl (ro_nilCheck rfl) ?_
            refine wl (ro_fieldAddr (k := 3) rfl fo_167_3) ?_
            refine wl (ro_loadB rfl sc_4 (h7) (rfl)) ?_
            refine wl (ro_move rfl) ?_
            refine wlg_no rfl ?_
            refine wlg_no rfl ?_
            refine wlg_no rfl ?_
            refine wlg_no rfl ?_
            refine wlg_no rfl ?_
            refine wlg_no rfl ?_
            refine wlg_no rfl ?_
            refine wl (ro_pick rfl rfl rfl) ?_
            refine wl (ro_move rfl) ?_
            refine wlg_no rfl ?_
            refine wlg_no rfl ?_
            refine wl (ro_pick rfl rfl rfl) ?_
            refine wl_nil (x_then (hK30 _ _ ?_))
            clear hK30 K30
            refine wc_condT rfl ?_
            refine c_seq (fun K31 hK31 => ?_)
            refine c_reg ?_ -- region 15 progm.go:122
            refine wl (ro_assign rfl) ?_
            refine wl (ro_assign rfl) ?_
            refine wl_nil (x_then (hK31 _ _ ?_))
            clear hK31 K31
            refine c_ret (x_thenR ?_)
            refine bp_ret Tryz.results53 rfl ?_
            refine ⟨?_, F11⟩
            rcases g6 with ⟨_, hB⟩ | ⟨h, _⟩
            · rw [hcS, bodyS_bad hB]; rfl
            · cases h
          · skip
            subst hb
            refine c_reg ?_ -- region 14 progm.go:121
            refine wl (ro_move rfl) ?_
            refine wl (ro_nilCheck rfl) ?_
            refine wl (ro_fieldAddr (k := 3) rfl fo_167_3) ?_
            refine wl (ro_loadB rfl sc_4 (h7) (rfl)) ?_
            refine wl (ro_move rfl) ?_
            refine wlg_yes rfl (ro_move rfl) ?_
            refine wlg_yes rfl (ro_nilCheck rfl) ?_
            refine wlg_yes rfl (ro_fieldAddr (k := 1) rfl fo_167_1) ?_
            refine wlg_yes rfl (ro_loadB rfl sc_3 (h7) (rfl)) ?_
            refine wlg_yes rfl (ro_move rfl) ?_
            refine wlg_yes rfl (ro_lenS rfl st_9) ?_
            refine wlg_yes rfl (ro_cmp (r := true) rfl rfl (by simp; omega)) ?_
            refine wl (ro_pick rfl rfl rfl) ?_
            refine wl (ro_move rfl) ?_
            refine wlg_no rfl ?_
            refine wlg_no rfl ?_
            refine wl (ro_pick rfl rfl rfl) ?_
            refine wl_nil (x_then (hK30 _ _ ?_))
            clear hK30 K30
            refine wc_condT rfl ?_
            refine c_seq (fun K32 hK32 => ?_)
            refine c_reg ?_ -- region 15 progm.go:122
            refine wl (ro_assign rfl) ?_
            refine wl (ro_assign rfl) ?_
            refine wl_nil (x_then (hK32 _ _ ?_))
            clear hK32 K32
            refine c_ret (x_thenR ?_)
            refine bp_ret Tryz.results53 rfl ?_
            refine ⟨?_, F11⟩
            rcases g6 with ⟨h, _⟩ | ⟨_, q2, k1, k2, k3, k4, k5, k6, k7⟩
            · cases h
            · have hne : q2.rest ≠ [] := by rw [← k5]; intro hx; have := congrArg List.length hx; simp at this; omega
              rw [hcS, k1]
              simp only [bodyS, Option.bind_some]
              rw [if_neg (fun hx => hne hx.1)]; rfl
          · skip
            subst hb
            refine c_reg ?_ -- region 14 progm.go:121
            refine wl (ro_move rfl) ?_
            refine wl (ro_nilCheck rfl) ?_
            refine wl (ro_fieldAddr (k := 3) rfl fo_167_3) ?_
            refine wl (ro_loadB rfl sc_4 (h7) (rfl)) ?_
            refine wl (ro_move rfl) ?_
            refine wlg_yes rfl (ro_move rfl) ?_
            refine wlg_yes rfl (ro_nilCheck rfl) ?_
            refine wlg_yes rfl (ro_fieldAddr (k := 1) rfl fo_167_1) ?_
            refine wlg_yes rfl (ro_loadB rfl sc_3 (h7) (rfl)) ?_
            refine wlg_yes rfl (ro_move rfl) ?_
            refine wlg_yes rfl (ro_lenS rfl st_9) ?_
            refine wlg_yes rfl (ro_cmp (r := false) rfl rfl (by simp; omega)) ?_
            refine wl (ro_pick rfl rfl rfl) ?_
            refine wl (ro_move rfl) ?_
            refine wlg_yes rfl (ro_move rfl) ?_
            refine wlg_yes rfl (ro_cmp rfl rfl rfl) ?_
            refine wl (ro_pick rfl rfl rfl) ?_
            refine wl_nil (x_then (hK30 _ _ ?_))
            clear hK30 K30
            refine wc_cond rfl (fun hc74 => ?_) (fun hc74 => ?_)
            · try simp only [decide_eq_true_eq, decide_eq_false_iff_not, Bool.not_eq_true', Bool.not_eq_false', Bool.not_eq_eq_eq_not, Bool.not_true, Bool.not_false, beq_iff_eq, bne_iff_ne, ne_eq, beq_eq_false_iff_ne, bne_eq_false_iff_eq, gt_iff_lt, ge_iff_le, Int.not_lt, Int.not_le] at hc74
              have hn3 : 3 < n := by omega
              refine c_seq (fun K33 hK33 => ?_)
              refine c_reg ?_ -- region 15 progm.go:122
              refine wl (ro_assign rfl) ?_
              refine wl (ro_assign rfl) ?_
              refine wl_nil (x_then (hK33 _ _ ?_))
              clear hK33 K33
              refine c_ret (x_thenR ?_)
              refine bp_ret Tryz.results53 rfl ?_
              refine ⟨?_, F11⟩
              rcases g6 with ⟨h, _⟩ | ⟨_, q2, k1, k2, k3, k4, k5, k6, k7⟩
              · cases h
              · rw [hcS, k1]
                simp only [bodyS, Option.bind_some]
                rw [if_neg (fun hx => by omega)]; rfl
            · try simp only [decide_eq_true_eq, decide_eq_false_iff_not, Bool.not_eq_true', Bool.not_eq_false', Bool.not_eq_eq_eq_not, Bool.not_true, Bool.not_false, beq_iff_eq, bne_iff_ne, ne_eq, beq_eq_false_iff_ne, bne_eq_false_iff_eq, gt_iff_lt, ge_iff_le, Int.not_lt, Int.not_le] at hc74
              have hn3 : n ≤ 3 := by omega
              refine c_skip (x_then (hK29 _ _ ?_))
              clear hK29 K29
              refine c_seq (fun K34 hK34 => ?_)
              refine c_seq (fun K35 hK35 => ?_)
              refine c_reg ?_ -- region 16 progm.go:124
              refine wl (ro_move rfl) ?_
              refine wl_nil (x_then (hK35 _ _ ?_))
              clear hK35 K35
              refine wc_condF rfl ?_
              refine c_skip (x_then (hK34 _ _ ?_))
              clear hK34 K34
              refine forget [(7, _), (8, _), (9, _)] ⟨rfl, rfl, rfl, trivial⟩ (fun e => ?_)
              refine c_seq (fun K36 hK36 => ?_)
              refine c_reg ?_ -- region 18 progm.go:127
              refine wl (ro_move rfl) ?_
              refine wl (ro_arith rfl rfl rfl (Go.IntWalk.i64_in _ (by omega))) ?_
              refine wl (ro_move rfl) ?_
              refine wl (ro_arith rfl rfl rfl (Go.IntWalk.i64_in _ (by omega))) ?_
              refine wl ((show RO _ _ _ _ _ (S [UInt8.ofNat (48 + (n + 1))]) from take1 (d01234 (n + 1) (by omega)) ▸ ro_sliceSLH (s := [48, 49, 50, 51, 52]) (l := n + 1) (h := n + 1 + 1) rfl rfl rfl st_9 (by omega) (by omega) (by omega) (by simp; omega))) ?_
              refine wl (ro_catS rfl rfl (by simp)) ?_
              refine wl (ro_move rfl) ?_
              refine wl (ro_catS rfl rfl (by simp at d3 ⊢; omega)) ?_
              refine wl (ro_move rfl) ?_
              refine wl (ro_catS rfl rfl (by simp at d3 ⊢; omega)) ?_
              refine wl (ro_assign rfl) ?_
              refine wl (ro_assign rfl) ?_
              refine wl_nil (x_then (hK36 _ _ ?_))
              clear hK36 K36
              refine c_ret ?_
              refine bp_ret Tryz.results53 rfl ?_
              refine ⟨?_, F11⟩
              rcases g6 with ⟨h, _⟩ | ⟨_, q2, k1, k2, k3, k4, k5, k6, k7⟩
              · cases h
              · have hr : q2.rest = [] := by rw [← k5, hpl]; simp
                rw [hcS, k1]
                simp only [bodyS, Option.bind_some]
                rw [if_pos ⟨hr, by omega, k2⟩, k3, k4]; rfl

end Go.Proofs.Qxb6500569aGreat
