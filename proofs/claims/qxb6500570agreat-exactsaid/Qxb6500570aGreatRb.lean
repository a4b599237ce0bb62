import Derived.Test.Qxb6500570aGreatRa
/- The law: Raw. -/
namespace Go.Proofs.Qxb6500570aGreat
set_option linter.unusedVariables false
set_option linter.unusedSimpArgs false

theorem nil_snoc {α : Type} (l : List α) : l = [] ∨ ∃ p A, l = p ++ [A] := by
  rcases List.eq_nil_or_concat l with h | ⟨p, A, h⟩
  · exact .inl h
  · exact .inr ⟨p, A, by rw [h, List.concat_eq_append]⟩
theorem bne_self (a : Int) : (a != a) = false := by simp
set_option maxHeartbeats 16000000 in
theorem Raw3 {w : World} {save raw : Tx} {c kind at' dst : Int} (hs : save.length ≤ 9223372036854775807) (hr : raw.length ≤ 9223372036854775807) :
    Ret Tryz.prog 3 [S save, icv c, S raw, icv kind, icv at', icv dst] w (fun v w' => v = .bool true ∧ Fram none' w w') := by
  have hF : Fram none' w w := Fram.refl _ _
  refine ret_of Tryz.func3 rfl Tryz.ntmps3 rfl ?_
  refine c_seq (fun K1 hK1 => ?_)
  refine c_reg ?_ -- region 0 law.go:78
  refine wl (ro_assign rfl) ?_
  refine wl_nil (x_then (hK1 _ _ ?_))
  clear hK1 K1
  refine c_seq (fun K2 hK2 => ?_)
  refine c_seq (fun K3 hK3 => ?_)
  refine c_reg ?_ -- region 1 law.go:79
  refine wl (ro_move rfl) ?_
  refine wl (ro_lenS rfl st_9) ?_
  refine wl (ro_cmp (r := decide (1073741824 < save.length)) rfl rfl (congrArg some (decide_eq_decide.2 (by show ((save.length : Nat) : Int) > 1073741824 ↔ _; omega)))) ?_
  refine wl_fork rfl (fun hg24 => ?_) (fun hg24 => ?_)
  · try simp only [decide_eq_true_eq, decide_eq_false_iff_not, Bool.not_eq_true', Bool.not_eq_false', Bool.not_eq_eq_eq_not, Bool.not_true, Bool.not_false, beq_iff_eq, bne_iff_ne, ne_eq, beq_eq_false_iff_ne, bne_eq_false_iff_eq, gt_iff_lt, ge_iff_le, Int.not_lt, Int.not_le] at hg24
    refine wlg_no rfl ?_
    refine wlg_no rfl ?_
    refine wlg_no rfl ?_
    refine wl (ro_pick rfl rfl rfl) ?_
    refine wl_nil (x_then (hK3 _ _ ?_))
    clear hK3 K3
    refine wc_condT rfl ?_
    refine c_seq (fun K4 hK4 => ?_)
    refine c_reg ?_ -- region 2 law.go:80
    refine wl (ro_assign rfl) ?_
    refine wl_nil (x_then (hK4 _ _ ?_))
    clear hK4 K4
    refine c_ret (x_thenR ?_)
    refine bp_ret Tryz.results3 rfl ?_
    exact ⟨rfl, hF⟩
  · try simp only [decide_eq_true_eq, decide_eq_false_iff_not, Bool.not_eq_true', Bool.not_eq_false', Bool.not_eq_eq_eq_not, Bool.not_true, Bool.not_false, beq_iff_eq, bne_iff_ne, ne_eq, beq_eq_false_iff_ne, bne_eq_false_iff_eq, gt_iff_lt, ge_iff_le, Int.not_lt, Int.not_le] at hg24
    refine wlg_yes rfl (ro_move rfl) ?_
    refine wlg_yes rfl (ro_lenS rfl st_9) ?_
    refine wlg_yes rfl (ro_cmp (r := decide (1073741824 < raw.length)) rfl rfl (congrArg some (decide_eq_decide.2 (by show ((raw.length : Nat) : Int) > 1073741824 ↔ _; omega)))) ?_
    refine wl (ro_pick rfl rfl rfl) ?_
    refine wl_nil (x_then (hK3 _ _ ?_))
    clear hK3 K3
    refine wc_cond rfl (fun hc28 => ?_) (fun hc28 => ?_)
    · try simp only [decide_eq_true_eq, decide_eq_false_iff_not, Bool.not_eq_true', Bool.not_eq_false', Bool.not_eq_eq_eq_not, Bool.not_true, Bool.not_false, beq_iff_eq, bne_iff_ne, ne_eq, beq_eq_false_iff_ne, bne_eq_false_iff_eq, gt_iff_lt, ge_iff_le, Int.not_lt, Int.not_le] at hc28
      refine c_seq (fun K5 hK5 => ?_)
      refine c_reg ?_ -- region 2 law.go:80
      refine wl (ro_assign rfl) ?_
      refine wl_nil (x_then (hK5 _ _ ?_))
      clear hK5 K5
      refine c_ret (x_thenR ?_)
      refine bp_ret Tryz.results3 rfl ?_
      exact ⟨rfl, hF⟩
    · try simp only [decide_eq_true_eq, decide_eq_false_iff_not, Bool.not_eq_true', Bool.not_eq_false', Bool.not_eq_eq_eq_not, Bool.not_true, Bool.not_false, beq_iff_eq, bne_iff_ne, ne_eq, beq_eq_false_iff_ne, bne_eq_false_iff_eq, gt_iff_lt, ge_iff_le, Int.not_lt, Int.not_le] at hc28
      refine c_skip (x_then (hK2 _ _ ?_))
      clear hK2 K2
      refine forget [(0, _), (1, _), (2, _), (3, _), (4, _), (5, _)] ⟨rfl, rfl, rfl, rfl, rfl, rfl, trivial⟩ (fun e => ?_)
      refine c_seq (fun K6 hK6 => ?_)
      refine c_reg ?_ -- region 3 law.go:82
      refine wl_call rfl en_5 (tower5) ?_
      rintro _ u1 ⟨⟨X, rfl, hx, hX⟩, G1⟩
      replace hF := hF.transG G1 (by intro k hk h; simp only [none'] at h ⊢ <;> omega)
      have hsz1 := G1.size
      refine wl (ro_assign rfl) ?_
      refine wl_nil (x_then (hK6 _ _ ?_))
      clear hK6 K6
      refine forget [(0, _), (1, _), (2, _), (3, _), (4, _), (5, _), (13, _)] ⟨rfl, rfl, rfl, rfl, rfl, rfl, rfl, trivial⟩ (fun e => ?_)
      refine c_seq (fun K7 hK7 => ?_)
      refine c_reg ?_ -- region 4 law.go:83
      refine wl_call rfl en_6 (New6 (O := fun _ ↦ True)) ?_
      rintro _ u2 ⟨⟨Y, sb, rfl, hb, hsb, hY⟩, G2⟩
      replace hF := hF.transG G2 (by intro k hk h; simp only [none'] at h ⊢ <;> omega)
      replace hX := hX.farN hx G2
      have hsz2 := G2.size
      have hl : u1.heap.size ≤ u1.heap.size := Nat.le_refl _
      generalize hh1 : u1.heap.size = h1 at *
      generalize hh2 : u2.heap.size = h2 at *
      refine wl (ro_assign rfl) ?_
      refine wl_nil (x_then (hK7 _ _ ?_))
      clear hK7 K7
      refine forget [(0, _), (1, _), (2, _), (3, _), (4, _), (5, _), (13, _), (14, _)] ⟨rfl, rfl, rfl, rfl, rfl, rfl, rfl, rfl, trivial⟩ (fun e => ?_)
      refine c_seq (fun K8 hK8 => ?_)
      refine c_reg ?_ -- region 5 law.go:84
      refine wl (ro_move rfl) ?_
      refine wl (ro_move rfl) ?_
      refine wl_call rfl en_7 (Load7 hx (by omega) hX) ?_
      rintro _ u3 ⟨rfl, hX3, G3⟩
      have hn3 := hX.n6
      replace hF := hF.trans' G3 (fun k hk he => by have := he.1; omega)
      replace hY := hY.real hb hl G3
      have hsz3 := G3.size
      refine wl (ro_assign rfl) ?_
      refine wl_nil (x_then (hK8 _ _ ?_))
      clear hK8 K8
      refine forget [(0, _), (1, _), (2, _), (3, _), (4, _), (5, _), (13, _), (14, _), (15, _)] ⟨rfl, rfl, rfl, rfl, rfl, rfl, rfl, rfl, rfl, trivial⟩ (fun e => ?_)
      refine c_seq (fun K9 hK9 => ?_)
      refine c_reg ?_ -- region 6 law.go:85
      refine wl (ro_move rfl) ?_
      refine wl (ro_move rfl) ?_
      refine wl_call rfl en_8 (Load8 hb hY) ?_
      rintro _ u4 ⟨rfl, ⟨V1_3, V2_3, sb_3, hY3, _, _, _⟩, G4⟩
      replace hF := hF.trans' G4 (fun k hk he => by have := BkV.out hb hY he; omega)
      clear hX
      have hX := BaV.model hx hb hl hX3 hY G4
      clear hX3 hY
      have hY := hY3
      have hsz4 := G4.size
      refine wl (ro_assign rfl) ?_
      refine wl_nil (x_then (hK9 _ _ ?_))
      clear hK9 K9
      refine c_seq (fun K10 hK10 => ?_)
      refine c_seq (fun K11 hK11 => ?_)
      refine c_reg ?_ -- region 7 law.go:86
      refine wl (ro_move rfl) ?_
      refine wl (ro_move rfl) ?_
      refine wl (ro_cmp (r := false) rfl rfl (congrArg some (bne_self _))) ?_
      refine wl (ro_move rfl) ?_
      refine wlg_yes rfl (ro_move rfl) ?_
      refine wlg_yes rfl (ro_move rfl) ?_
      refine wlg_call rfl rfl en_9 (sheet9 hx hb hX hY) ?_
      rintro _ u5 ⟨rfl, G5⟩
      replace hF := hF.transG G5 (by intro k hk h; simp only [none'] at h ⊢ <;> omega)
      replace hX := hX.farN hx G5
      replace hY := hY.farN hb G5
      have hsz5 := G5.size
      refine wlg_yes rfl (ro_not rfl) ?_
      refine wl (ro_pick rfl rfl rfl) ?_
      refine wl_nil (x_then (hK11 _ _ ?_))
      clear hK11 K11
      refine wc_condF rfl ?_
      refine c_skip (x_then (hK10 _ _ ?_))
      clear hK10 K10
      refine forget [(1, _), (2, _), (3, _), (4, _), (5, _), (13, _), (14, _)] ⟨rfl, rfl, rfl, rfl, rfl, rfl, rfl, trivial⟩ (fun e => ?_)
      refine c_seq (fun K12 hK12 => ?_)
      refine c_reg ?_ -- region 9 law.go:89
      refine wl (ro_move rfl) ?_
      refine wl (ro_move rfl) ?_
      refine wl (ro_move rfl) ?_
      refine wl_call rfl en_10 (Set10 hx (by omega) hX) ?_
      rintro _ u6 ⟨rfl, hX6, G6⟩
      have hn6 := hX.n6
      replace hF := hF.trans' G6 (fun k hk he => by have := he.1; omega)
      replace hY := hY.real hb hl G6
      have hsz6 := G6.size
      refine wl (ro_assign rfl) ?_
      refine wl_nil (x_then (hK12 _ _ ?_))
      clear hK12 K12
      refine forget [(1, _), (2, _), (3, _), (4, _), (5, _), (13, _), (14, _), (15, _)] ⟨rfl, rfl, rfl, rfl, rfl, rfl, rfl, rfl, trivial⟩ (fun e => ?_)
      refine c_seq (fun K13 hK13 => ?_)
      refine c_reg ?_ -- region 10 law.go:90
      refine wl (ro_move rfl) ?_
      refine wl (ro_move rfl) ?_
      refine wl (ro_move rfl) ?_
      refine wl_call rfl en_11 (Set11 hb hY (by omega)) ?_
      rintro _ u7 ⟨rfl, ⟨V1_6, V2_6, sb_6, hY6, _, _, _⟩, G7⟩
      replace hF := hF.trans' G7 (fun k hk he => by have := BkV.out hb hY he; omega)
      clear hX
      have hX := BaV.model hx hb hl hX6 hY G7
      clear hX6 hY
      have hY := hY6
      have hsz7 := G7.size
      refine wl (ro_assign rfl) ?_
      refine wl_nil (x_then (hK13 _ _ ?_))
      clear hK13 K13
      refine c_seq (fun K14 hK14 => ?_)
      refine c_seq (fun K15 hK15 => ?_)
      refine c_reg ?_ -- region 11 law.go:91
      refine wl (ro_move rfl) ?_
      refine wl (ro_move rfl) ?_
      refine wl (ro_cmp (r := false) rfl rfl (congrArg some (bne_self _))) ?_
      refine wl (ro_move rfl) ?_
      refine wlg_yes rfl (ro_move rfl) ?_
      refine wlg_yes rfl (ro_move rfl) ?_
      refine wlg_call rfl rfl en_9 (sheet9 hx hb hX hY) ?_
      rintro _ u8 ⟨rfl, G8⟩
      replace hF := hF.transG G8 (by intro k hk h; simp only [none'] at h ⊢ <;> omega)
      replace hX := hX.farN hx G8
      replace hY := hY.farN hb G8
      have hsz8 := G8.size
      refine wlg_yes rfl (ro_not rfl) ?_
      refine wl (ro_pick rfl rfl rfl) ?_
      refine wl_nil (x_then (hK15 _ _ ?_))
      clear hK15 K15
      refine wc_condF rfl ?_
      refine c_skip (x_then (hK14 _ _ ?_))
      clear hK14 K14
      refine forget [(1, _), (3, _), (4, _), (5, _), (13, _), (14, _)] ⟨rfl, rfl, rfl, rfl, rfl, rfl, trivial⟩ (fun e => ?_)
      refine c_seq (fun K16 hK16 => ?_)
      refine c_reg ?_ -- region 13 law.go:94
      refine wl (ro_move rfl) ?_
      refine wl (ro_move rfl) ?_
      refine wl (ro_move rfl) ?_
      refine wl_call rfl en_12 (Edit12 hx (by omega) hX) ?_
      rintro _ u9 ⟨rfl, hX9, G9⟩
      have hn9 := hX.n6
      replace hF := hF.trans' G9 (fun k hk he => by have := he.1; omega)
      replace hY := hY.real hb hl G9
      have hsz9 := G9.size
      refine wl (ro_assign rfl) ?_
      refine wl_nil (x_then (hK16 _ _ ?_))
      clear hK16 K16
      refine forget [(1, _), (3, _), (4, _), (5, _), (13, _), (14, _), (15, _)] ⟨rfl, rfl, rfl, rfl, rfl, rfl, rfl, trivial⟩ (fun e => ?_)
      refine c_seq (fun K17 hK17 => ?_)
      refine c_reg ?_ -- region 14 law.go:95
      refine wl (ro_move rfl) ?_
      refine wl (ro_move rfl) ?_
      refine wl (ro_move rfl) ?_
      refine wl_call rfl en_13 (Edit13 hb hY (by omega)) ?_
      rintro _ u10 ⟨rfl, ⟨V1_9, V2_9, sb_9, hY9, _, _, _⟩, G10⟩
      replace hF := hF.trans' G10 (fun k hk he => by have := BkV.out hb hY he; omega)
      clear hX
      have hX := BaV.model hx hb hl hX9 hY G10
      clear hX9 hY
      have hY := hY9
      have hsz10 := G10.size
      refine wl (ro_assign rfl) ?_
      refine wl_nil (x_then (hK17 _ _ ?_))
      clear hK17 K17
      refine c_seq (fun K18 hK18 => ?_)
      refine c_seq (fun K19 hK19 => ?_)
      refine c_reg ?_ -- region 15 law.go:96
      refine wl (ro_move rfl) ?_
      refine wl (ro_move rfl) ?_
      refine wl (ro_cmp (r := false) rfl rfl (congrArg some (bne_self _))) ?_
      refine wl (ro_move rfl) ?_
      refine wlg_yes rfl (ro_move rfl) ?_
      refine wlg_yes rfl (ro_move rfl) ?_
      refine wlg_call rfl rfl en_9 (sheet9 hx hb hX hY) ?_
      rintro _ u11 ⟨rfl, G11⟩
      replace hF := hF.transG G11 (by intro k hk h; simp only [none'] at h ⊢ <;> omega)
      replace hX := hX.farN hx G11
      replace hY := hY.farN hb G11
      have hsz11 := G11.size
      refine wlg_yes rfl (ro_not rfl) ?_
      refine wl (ro_pick rfl rfl rfl) ?_
      refine wl_nil (x_then (hK19 _ _ ?_))
      clear hK19 K19
      refine wc_condF rfl ?_
      refine c_skip (x_then (hK18 _ _ ?_))
      clear hK18 K18
      refine forget [(1, _), (5, _), (13, _), (14, _)] ⟨rfl, rfl, rfl, rfl, trivial⟩ (fun e => ?_)
      refine c_seq (fun K20 hK20 => ?_)
      refine c_reg ?_ -- region 17 law.go:99
      refine wl (ro_move rfl) ?_
      refine wl (ro_move rfl) ?_
      refine wl (ro_move rfl) ?_
      refine wl_call rfl en_14 (Copy14 hx (by omega) hX) ?_
      rintro _ u12 ⟨rfl, hX12, G12⟩
      have hn12 := hX.n6
      replace hF := hF.trans' G12 (fun k hk he => by have := he.1; omega)
      replace hY := hY.real hb hl G12
      have hsz12 := G12.size
      refine wl (ro_assign rfl) ?_
      refine wl_nil (x_then (hK20 _ _ ?_))
      clear hK20 K20
      refine forget [(1, _), (5, _), (13, _), (14, _), (15, _)] ⟨rfl, rfl, rfl, rfl, rfl, trivial⟩ (fun e => ?_)
      refine c_seq (fun K21 hK21 => ?_)
      refine c_reg ?_ -- region 18 law.go:100
      refine wl (ro_move rfl) ?_
      refine wl (ro_move rfl) ?_
      refine wl (ro_move rfl) ?_
      refine wl_call rfl en_15 (Copy15 hb hY (by omega)) ?_
      rintro _ u13 ⟨rfl, ⟨V1_12, V2_12, sb_12, hY12, _, _, _⟩, G13⟩
      replace hF := hF.trans' G13 (fun k hk he => by have := BkV.out hb hY he; omega)
      clear hX
      have hX := BaV.model hx hb hl hX12 hY G13
      clear hX12 hY
      have hY := hY12
      have hsz13 := G13.size
      refine wl (ro_assign rfl) ?_
      refine wl_nil (x_then (hK21 _ _ ?_))
      clear hK21 K21
      refine c_seq (fun K22 hK22 => ?_)
      refine c_seq (fun K23 hK23 => ?_)
      refine c_reg ?_ -- region 19 law.go:101
      refine wl (ro_move rfl) ?_
      refine wl (ro_move rfl) ?_
      refine wl (ro_cmp (r := false) rfl rfl (congrArg some (bne_self _))) ?_
      refine wl (ro_move rfl) ?_
      refine wlg_yes rfl (ro_move rfl) ?_
      refine wlg_yes rfl (ro_move rfl) ?_
      refine wlg_call rfl rfl en_9 (sheet9 hx hb hX hY) ?_
      rintro _ u14 ⟨rfl, G14⟩
      replace hF := hF.transG G14 (by intro k hk h; simp only [none'] at h ⊢ <;> omega)
      replace hX := hX.farN hx G14
      replace hY := hY.farN hb G14
      have hsz14 := G14.size
      refine wlg_yes rfl (ro_not rfl) ?_
      refine wl (ro_pick rfl rfl rfl) ?_
      refine wl_nil (x_then (hK23 _ _ ?_))
      clear hK23 K23
      refine wc_condF rfl ?_
      refine c_skip (x_then (hK22 _ _ ?_))
      clear hK22 K22
      refine c_seq (fun K24 hK24 => ?_)
      refine c_seq (fun K25 hK25 => ?_)
      refine c_reg ?_ -- region 21 law.go:104
      refine wl (ro_assign rfl) ?_
      refine wl_nil (x_then (hK25 _ _ ?_))
      clear hK25 K25
      refine c_block ?_
      -- loop@r22: live slots [13, 14, 17]
      refine c_loopG (fun m a' w' => ∃ (i : Nat) (T : List Tx) (past next : List (List Tx)) (V1 V2 : Value) (sb : Nat) (O : Nat → Prop), m = 4 - i ∧ i ≤ 4 ∧ BaV w' X T past next ∧ BkV w' Y O h1 h2 T past next V1 V2 sb ∧ h2 ≤ w'.heap.size ∧ Fram none' w w' ∧ ∃ e, a' = Fr 134 (upds e [(13, ptr X.k), (14, ptr Y.k), (17, i64c i)]) []) 4 ⟨0, _, _, _, _, _, _, _, rfl, by omega, hX, hY, by omega, hF, kp _ ⟨rfl, rfl, rfl, trivial⟩⟩ ?_
      clear hF hX hY
      rintro m a' v1 ⟨i, T, past, next, V1, V2, sb, O, rfl, hi4, hX, hY, hvz, hF, e, rfl⟩
      have hn6 := hX.n6
      refine c_seq (fun K26 hK26 => ?_)
      refine c_seq (fun K27 hK27 => ?_)
      refine c_reg ?_ -- region 22 law.go:104
      refine wl (ro_move rfl) ?_
      refine wl (ro_cmp (r := decide (i < 4)) rfl rfl (congrArg some (decide_eq_decide.2 (by omega)))) ?_
      refine wl_nil (x_then (hK27 _ _ ?_))
      clear hK27 K27
      refine wc_cond rfl (fun hc98 => ?_) (fun hc98 => ?_)
      · try simp only [decide_eq_true_eq, decide_eq_false_iff_not, Bool.not_eq_true', Bool.not_eq_false', Bool.not_eq_eq_eq_not, Bool.not_true, Bool.not_false, beq_iff_eq, bne_iff_ne, ne_eq, beq_eq_false_iff_ne, bne_eq_false_iff_eq, gt_iff_lt, ge_iff_le, Int.not_lt, Int.not_le] at hc98
        refine c_skip (x_then (hK26 _ _ ?_))
        clear hK26 K26
        refine forget [(13, _), (14, _), (17, _)] ⟨rfl, rfl, rfl, trivial⟩ (fun e => ?_)
        refine c_seq (fun K28 hK28 => ?_)
        refine c_block ?_
        refine c_seq (fun K29 hK29 => ?_)
        rcases nil_snoc past with rfl | ⟨p0, A, rfl⟩
        · skip
          refine c_reg ?_ -- region 24 law.go:105
          refine wl (ro_move rfl) ?_
          refine wl_call rfl en_16 (Undo16N hX) ?_
          rintro _ x1 ⟨rfl, hw0⟩
          rw [hw0]
          clear hw0 x1
          refine wl (ro_assign rfl) ?_
          refine wl_nil (x_then (hK29 _ _ ?_))
          clear hK29 K29
          refine forget [(13, _), (14, _), (15, _), (17, _)] ⟨rfl, rfl, rfl, rfl, trivial⟩ (fun e => ?_)
          refine c_seq (fun K30 hK30 => ?_)
          refine c_reg ?_ -- region 25 law.go:106
          refine wl (ro_move rfl) ?_
          refine wl_call rfl en_17 (Undo17N hY) ?_
          rintro _ x1 ⟨rfl, hw0⟩
          rw [hw0]
          clear hw0 x1
          refine wl (ro_assign rfl) ?_
          refine wl_nil (x_then (hK30 _ _ ?_))
          clear hK30 K30
          refine forget [(13, _), (14, _), (15, _), (16, _), (17, _)] ⟨rfl, rfl, rfl, rfl, rfl, trivial⟩ (fun e => ?_)
          refine c_seq (fun K31 hK31 => ?_)
          refine c_reg ?_ -- region 26 law.go:107
          refine wl (ro_move rfl) ?_
          refine wl (ro_move rfl) ?_
          refine wl (ro_cmp (r := false) rfl rfl (congrArg some (bne_self _))) ?_
          refine wl_nil (x_then (hK31 _ _ ?_))
          clear hK31 K31
          refine wc_condF rfl ?_
          refine c_skip (x_blk (x_then (hK28 _ _ ?_)))
          clear hK28 K28
          refine c_reg ?_ -- region 23 law.go:104
          refine wl (ro_move rfl) ?_
          refine wl (ro_arith (r := ((i + 1 : Nat) : Int)) rfl rfl rfl (Go.IntWalk.i64_in _ (by omega))) ?_
          refine wl (ro_assign rfl) ?_
          refine wl_nil (x_then ?_)
          exact ⟨4 - (i + 1), by omega, i + 1, _, _, _, _, _, _, _, rfl, by omega, hX, hY, hvz, hF, kp _ ⟨rfl, rfl, rfl, trivial⟩⟩
        · skip
          replace hn6 : p0.length + 1 + next.length ≤ 6 := by (have := hn6; simp only [List.length_append, List.length_singleton] at this; omega)
          refine c_reg ?_ -- region 24 law.go:105
          refine wl (ro_move rfl) ?_
          refine wl_call rfl en_16 (Undo16 hx (by omega) hX) ?_
          rintro _ x1 ⟨rfl, hX2, Ga1⟩
          replace hF := hF.trans' Ga1 (fun k hk he => by have := he.1; omega)
          replace hY := hY.real hb hl Ga1
          have hsa1 := Ga1.size
          refine wl (ro_assign rfl) ?_
          refine wl_nil (x_then (hK29 _ _ ?_))
          clear hK29 K29
          refine forget [(13, _), (14, _), (15, _), (17, _)] ⟨rfl, rfl, rfl, rfl, trivial⟩ (fun e => ?_)
          refine c_seq (fun K32 hK32 => ?_)
          refine c_reg ?_ -- region 25 law.go:106
          refine wl (ro_move rfl) ?_
          refine wl_call rfl en_17 (Undo17 hb hY (by omega)) ?_
          rintro _ y1 ⟨rfl, ⟨V1', V2', sb', hY2, _, _, _⟩, Gb1⟩
          replace hF := hF.trans' Gb1 (fun k hk he => by have := BkV.out hb hY he; omega)
          have hX3 := BaV.model hx hb hl hX2 hY Gb1
          have hsb1 := Gb1.size
          refine wl (ro_assign rfl) ?_
          refine wl_nil (x_then (hK32 _ _ ?_))
          clear hK32 K32
          refine forget [(13, _), (14, _), (15, _), (16, _), (17, _)] ⟨rfl, rfl, rfl, rfl, rfl, trivial⟩ (fun e => ?_)
          refine c_seq (fun K33 hK33 => ?_)
          refine c_reg ?_ -- region 26 law.go:107
          refine wl (ro_move rfl) ?_
          refine wl (ro_move rfl) ?_
          refine wl (ro_cmp (r := false) rfl rfl (congrArg some (bne_self _))) ?_
          refine wl_nil (x_then (hK33 _ _ ?_))
          clear hK33 K33
          refine wc_condF rfl ?_
          refine c_skip (x_blk (x_then (hK28 _ _ ?_)))
          clear hK28 K28
          refine c_reg ?_ -- region 23 law.go:104
          refine wl (ro_move rfl) ?_
          refine wl (ro_arith (r := ((i + 1 : Nat) : Int)) rfl rfl rfl (Go.IntWalk.i64_in _ (by omega))) ?_
          refine wl (ro_assign rfl) ?_
          refine wl_nil (x_then ?_)
          exact ⟨4 - (i + 1), by omega, i + 1, _, _, _, _, _, _, _, rfl, by omega, hX3, hY2, by omega, hF, kp _ ⟨rfl, rfl, rfl, trivial⟩⟩
      · try simp only [decide_eq_true_eq, decide_eq_false_iff_not, Bool.not_eq_true', Bool.not_eq_false', Bool.not_eq_eq_eq_not, Bool.not_true, Bool.not_false, beq_iff_eq, bne_iff_ne, ne_eq, beq_eq_false_iff_ne, bne_eq_false_iff_eq, gt_iff_lt, ge_iff_le, Int.not_lt, Int.not_le] at hc98
        refine c_exit (x_thenX (x_thenX (x_blkX (x_then (hK24 _ _ ?_)))))
        clear hK26 K26 hK24 K24
        refine c_seq (fun K34 hK34 => ?_)
        refine c_seq (fun K35 hK35 => ?_)
        refine c_reg ?_ -- region 28 law.go:111
        refine wl (ro_move rfl) ?_
        refine wl (ro_move rfl) ?_
        refine wl_call rfl en_9 (sheet9 hx hb hX hY) ?_
        rintro _ u30 ⟨rfl, G30⟩
        replace hF := hF.transG G30 (by intro k hk h; simp only [none'] at h ⊢ <;> omega)
        replace hX := hX.farN hx G30
        replace hY := hY.farN hb G30
        have hsz30 := G30.size
        refine wl (ro_not rfl) ?_
        refine wl_nil (x_then (hK35 _ _ ?_))
        clear hK35 K35
        refine wc_condF rfl ?_
        refine c_skip (x_then (hK34 _ _ ?_))
        clear hK34 K34
        refine c_seq (fun K36 hK36 => ?_)
        refine c_seq (fun K37 hK37 => ?_)
        refine c_reg ?_ -- region 30 law.go:114
        refine wl (ro_assign rfl) ?_
        refine wl_nil (x_then (hK37 _ _ ?_))
        clear hK37 K37
        refine c_block ?_
        -- loop@r31: live slots [13, 14, 18]
        refine c_loopG (fun m a' w' => ∃ (i : Nat) (T : List Tx) (past next : List (List Tx)) (V1 V2 : Value) (sb : Nat) (O : Nat → Prop), m = 4 - i ∧ i ≤ 4 ∧ BaV w' X T past next ∧ BkV w' Y O h1 h2 T past next V1 V2 sb ∧ h2 ≤ w'.heap.size ∧ Fram none' w w' ∧ ∃ e, a' = Fr 134 (upds e [(13, ptr X.k), (14, ptr Y.k), (18, i64c i)]) []) 4 ⟨0, _, _, _, _, _, _, _, rfl, by omega, hX, hY, by omega, hF, kp _ ⟨rfl, rfl, rfl, trivial⟩⟩ ?_
        clear hF hX hY
        rintro m a' v2 ⟨i, T, past, next, V1, V2, sb, O, rfl, hi4, hX, hY, hvz, hF, e, rfl⟩
        have hn6 := hX.n6
        refine c_seq (fun K38 hK38 => ?_)
        refine c_seq (fun K39 hK39 => ?_)
        refine c_reg ?_ -- region 31 law.go:114
        refine wl (ro_move rfl) ?_
        refine wl (ro_cmp (r := decide (i < 4)) rfl rfl (congrArg some (decide_eq_decide.2 (by omega)))) ?_
        refine wl_nil (x_then (hK39 _ _ ?_))
        clear hK39 K39
        refine wc_cond rfl (fun hc113 => ?_) (fun hc113 => ?_)
        · try simp only [decide_eq_true_eq, decide_eq_false_iff_not, Bool.not_eq_true', Bool.not_eq_false', Bool.not_eq_eq_eq_not, Bool.not_true, Bool.not_false, beq_iff_eq, bne_iff_ne, ne_eq, beq_eq_false_iff_ne, bne_eq_false_iff_eq, gt_iff_lt, ge_iff_le, Int.not_lt, Int.not_le] at hc113
          refine c_skip (x_then (hK38 _ _ ?_))
          clear hK38 K38
          refine forget [(13, _), (14, _), (18, _)] ⟨rfl, rfl, rfl, trivial⟩ (fun e => ?_)
          refine c_seq (fun K40 hK40 => ?_)
          refine c_block ?_
          refine c_seq (fun K41 hK41 => ?_)
          rcases nil_snoc next with rfl | ⟨p0, A, rfl⟩
          · skip
            refine c_reg ?_ -- region 33 law.go:115
            refine wl (ro_move rfl) ?_
            refine wl_call rfl en_18 (Redo18N hX) ?_
            rintro _ x2 ⟨rfl, hw0⟩
            rw [hw0]
            clear hw0 x2
            refine wl (ro_assign rfl) ?_
            refine wl_nil (x_then (hK41 _ _ ?_))
            clear hK41 K41
            refine forget [(13, _), (14, _), (15, _), (18, _)] ⟨rfl, rfl, rfl, rfl, trivial⟩ (fun e => ?_)
            refine c_seq (fun K42 hK42 => ?_)
            refine c_reg ?_ -- region 34 law.go:116
            refine wl (ro_move rfl) ?_
            refine wl_call rfl en_19 (Redo19N hY) ?_
            rintro _ x2 ⟨rfl, hw0⟩
            rw [hw0]
            clear hw0 x2
            refine wl (ro_assign rfl) ?_
            refine wl_nil (x_then (hK42 _ _ ?_))
            clear hK42 K42
            refine forget [(13, _), (14, _), (15, _), (16, _), (18, _)] ⟨rfl, rfl, rfl, rfl, rfl, trivial⟩ (fun e => ?_)
            refine c_seq (fun K43 hK43 => ?_)
            refine c_reg ?_ -- region 35 law.go:117
            refine wl (ro_move rfl) ?_
            refine wl (ro_move rfl) ?_
            refine wl (ro_cmp (r := false) rfl rfl (congrArg some (bne_self _))) ?_
            refine wl_nil (x_then (hK43 _ _ ?_))
            clear hK43 K43
            refine wc_condF rfl ?_
            refine c_skip (x_blk (x_then (hK40 _ _ ?_)))
            clear hK40 K40
            refine c_reg ?_ -- region 32 law.go:114
            refine wl (ro_move rfl) ?_
            refine wl (ro_arith (r := ((i + 1 : Nat) : Int)) rfl rfl rfl (Go.IntWalk.i64_in _ (by omega))) ?_
            refine wl (ro_assign rfl) ?_
            refine wl_nil (x_then ?_)
            exact ⟨4 - (i + 1), by omega, i + 1, _, _, _, _, _, _, _, rfl, by omega, hX, hY, hvz, hF, kp _ ⟨rfl, rfl, rfl, trivial⟩⟩
          · skip
            replace hn6 : p0.length + 1 + past.length ≤ 6 := by (have := hn6; simp only [List.length_append, List.length_singleton] at this; omega)
            refine c_reg ?_ -- region 33 law.go:115
            refine wl (ro_move rfl) ?_
            refine wl_call rfl en_18 (Redo18 hx (by omega) hX) ?_
            rintro _ x2 ⟨rfl, hX2, Ga2⟩
            replace hF := hF.trans' Ga2 (fun k hk he => by have := he.1; omega)
            replace hY := hY.real hb hl Ga2
            have hsa2 := Ga2.size
            refine wl (ro_assign rfl) ?_
            refine wl_nil (x_then (hK41 _ _ ?_))
            clear hK41 K41
            refine forget [(13, _), (14, _), (15, _), (18, _)] ⟨rfl, rfl, rfl, rfl, trivial⟩ (fun e => ?_)
            refine c_seq (fun K44 hK44 => ?_)
            refine c_reg ?_ -- region 34 law.go:116
            refine wl (ro_move rfl) ?_
            refine wl_call rfl en_19 (Redo19 hb hY (by omega)) ?_
            rintro _ y2 ⟨rfl, ⟨V1', V2', sb', hY2, _, _, _⟩, Gb2⟩
            replace hF := hF.trans' Gb2 (fun k hk he => by have := BkV.out hb hY he; omega)
            have hX3 := BaV.model hx hb hl hX2 hY Gb2
            have hsb2 := Gb2.size
            refine wl (ro_assign rfl) ?_
            refine wl_nil (x_then (hK44 _ _ ?_))
            clear hK44 K44
            refine forget [(13, _), (14, _), (15, _), (16, _), (18, _)] ⟨rfl, rfl, rfl, rfl, rfl, trivial⟩ (fun e => ?_)
            refine c_seq (fun K45 hK45 => ?_)
            refine c_reg ?_ -- region 35 law.go:117
            refine wl (ro_move rfl) ?_
            refine wl (ro_move rfl) ?_
            refine wl (ro_cmp (r := false) rfl rfl (congrArg some (bne_self _))) ?_
            refine wl_nil (x_then (hK45 _ _ ?_))
            clear hK45 K45
            refine wc_condF rfl ?_
            refine c_skip (x_blk (x_then (hK40 _ _ ?_)))
            clear hK40 K40
            refine c_reg ?_ -- region 32 law.go:114
            refine wl (ro_move rfl) ?_
            refine wl (ro_arith (r := ((i + 1 : Nat) : Int)) rfl rfl rfl (Go.IntWalk.i64_in _ (by omega))) ?_
            refine wl (ro_assign rfl) ?_
            refine wl_nil (x_then ?_)
            exact ⟨4 - (i + 1), by omega, i + 1, _, _, _, _, _, _, _, rfl, by omega, hX3, hY2, by omega, hF, kp _ ⟨rfl, rfl, rfl, trivial⟩⟩
        · try simp only [decide_eq_true_eq, decide_eq_false_iff_not, Bool.not_eq_true', Bool.not_eq_false', Bool.not_eq_eq_eq_not, Bool.not_true, Bool.not_false, beq_iff_eq, bne_iff_ne, ne_eq, beq_eq_false_iff_ne, bne_eq_false_iff_eq, gt_iff_lt, ge_iff_le, Int.not_lt, Int.not_le] at hc113
          refine c_exit (x_thenX (x_thenX (x_blkX (x_then (hK36 _ _ ?_)))))
          clear hK38 K38 hK36 K36
          refine c_seq (fun K46 hK46 => ?_)
          refine c_seq (fun K47 hK47 => ?_)
          refine c_reg ?_ -- region 37 law.go:121
          refine wl (ro_move rfl) ?_
          refine wl (ro_move rfl) ?_
          refine wl_call rfl en_9 (sheet9 hx hb hX hY) ?_
          rintro _ u31 ⟨rfl, G31⟩
          replace hF := hF.transG G31 (by intro k hk h; simp only [none'] at h ⊢ <;> omega)
          replace hX := hX.farN hx G31
          replace hY := hY.farN hb G31
          have hsz31 := G31.size
          refine wl (ro_not rfl) ?_
          refine wl_nil (x_then (hK47 _ _ ?_))
          clear hK47 K47
          refine wc_condF rfl ?_
          refine c_skip (x_then (hK46 _ _ ?_))
          clear hK46 K46
          refine forget [(13, _), (14, _)] ⟨rfl, rfl, trivial⟩ (fun e => ?_)
          refine c_seq (fun K48 hK48 => ?_)
          refine c_reg ?_ -- region 39 law.go:124
          refine wl (ro_move rfl) ?_
          refine wl (ro_move rfl) ?_
          refine wl_call rfl en_20 (saved20 hx (by omega) hb hl hX hY) ?_
          rintro _ u32 ⟨rfl, hX4, G32⟩
          replace hF := hF.trans' G32 (fun k hk he => by have := he.1; omega)
          refine wl (ro_move rfl) ?_
          refine wl (ro_extract rfl rfl) ?_
          refine wl (ro_extract rfl rfl) ?_
          refine wl (ro_assign rfl) ?_
          refine wl (ro_assign rfl) ?_
          refine wl_nil (x_then (hK48 _ _ ?_))
          clear hK48 K48
          refine forget [(20, _)] ⟨rfl, trivial⟩ (fun e => ?_)
          refine c_seq (fun K49 hK49 => ?_)
          refine c_reg ?_ -- region 40 law.go:125
          refine wl (ro_move rfl) ?_
          refine wl (ro_assign rfl) ?_
          refine wl_nil (x_then (hK49 _ _ ?_))
          clear hK49 K49
          refine c_ret ?_
          refine bp_ret Tryz.results3 rfl ?_
          exact ⟨rfl, hF⟩

end Go.Proofs.Qxb6500570aGreat
