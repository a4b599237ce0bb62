import Derived.Test.Qxb6500570aGreatOe
import Derived.Test.Qxb6500570aGreatMh
/- The law: cell, sheet, saved. -/
namespace Go.Proofs.Qxb6500570aGreat
set_option linter.unusedVariables false
set_option linter.unusedSimpArgs false

theorem BaV.n6 {w : World} {X : BB} {T : List Tx} {past next : List (List Tx)} (h : BaV w X T past next) : past.length + next.length ≤ 6 := by
  obtain ⟨b, P, M, W, O, SL, h⟩ := h
  exact h.n6
theorem BaV.farN {w w' : World} {lo hi : Nat} {X : BB} {T : List Tx} {past next : List (List Tx)} (hb : BaB lo hi X) (h : BaV w X T past next) (F : Fram none' w w') : BaV w' X T past next := h.far hb F (fun _ _ _ q => q)
theorem BkV.farN {w w' : World} {lo hi : Nat} {Y : MK} {O : Nat → Prop} {T : List Tx} {past next : List (List Tx)} {V1 V2 : Value} {sb : Nat} (hb : MkB lo hi Y) (h : BkV w Y O lo hi T past next V1 V2 sb) (F : Fram none' w w') : BkV w' Y O lo hi T past next V1 V2 sb :=
  h.far hb F (fun _ _ _ q => q) (fun _ _ q => q) (fun _ _ q => q) (fun q => q) (fun _ _ _ _ _ q => q)
theorem BkV.slo {w : World} {lo hi : Nat} {Y : MK} {O : Nat → Prop} {T : List Tx} {past next : List (List Tx)} {V1 V2 : Value} {sb : Nat} (hb : MkB lo hi Y) (h : BkV w Y O lo hi T past next V1 V2 sb) : lo ≤ sb := by
  obtain ⟨SL, xs, ys, h⟩ := h
  have hs := h.hv.hs
  have h0 := hb.loh
  have hm := hb.nb.mb
  have h1 := hb.nb.lf
  have h2 := hb.nb.fm
  unfold MaB at hm
  omega
/-- What the real book writes leaves the model's. -/
theorem BkV.real {w w' : World} {l1 h1 lo hi : Nat} {Y : MK} {O : Nat → Prop} {T : List Tx} {past next : List (List Tx)} {V1 V2 : Value} {sb : Nat} (hb : MkB lo hi Y) (hl : h1 ≤ lo) (h : BkV w Y O lo hi T past next V1 V2 sb) (F : Fram (rng l1 h1) w w') : BkV w' Y O lo hi T past next V1 V2 sb := by
  have hs := h.slo hb
  have h0 := hb.loh
  have hk := hb.hk
  have hk2 := hb.kh
  obtain ⟨SL, xs, ys, h⟩ := h
  have q1 := h.b1
  have q2 := h.b2
  exact ⟨SL, xs, ys, h.far hb F (fun b z1 z2 q => by have := q.2; omega) (fun b z q => by have := q1 b z; have := q.2; omega) (fun b z q => by have := q2 b z; have := q.2; omega) (fun q => by have := q.2; omega) (fun b S z _ _ q => by have := q.2; omega)⟩
/-- What the model's book writes leaves the real one. -/
theorem BaV.model {w w' u : World} {l1 h1 lo hi : Nat} {X : BB} {Y : MK} {O : Nat → Prop} {T T' : List Tx} {past next past' next' : List (List Tx)} {V1 V2 : Value} {sb : Nat} (hx : BaB l1 h1 X) (hb : MkB lo hi Y) (hl : h1 ≤ lo) (hX : BaV w X T past next) (h : BkV u Y O lo hi T' past' next' V1 V2 sb) (F : Fram (MkS lo hi V1 V2) w w') : BaV w' X T past next := by
  have h0 := hb.loh
  have hk := hb.hk
  have hk2 := hb.kh
  obtain ⟨SL, xs, ys, h⟩ := h
  have q1 := h.b1
  have q2 := h.b2
  refine hX.far hx F (fun b z1 z2 q => ?_)
  rcases q with q | q | q
  · omega
  · have := q1 b q; omega
  · have := q2 b q; omega
theorem BkV.out {w : World} {lo hi b : Nat} {Y : MK} {O : Nat → Prop} {T : List Tx} {past next : List (List Tx)} {V1 V2 : Value} {sb : Nat} (hb : MkB lo hi Y) (h : BkV w Y O lo hi T past next V1 V2 sb) (q : MkS lo hi V1 V2 b) : lo ≤ b := by
  have h0 := hb.loh
  have hk := hb.hk
  have hk2 := hb.kh
  obtain ⟨SL, xs, ys, h⟩ := h
  have q1 := h.b1
  have q2 := h.b2
  rcases q with q | q | q
  · exact q.1
  · have := q1 b q; omega
  · have := q2 b q; omega
set_option maxHeartbeats 4000000 in
theorem cell37 {w : World} {l1 h1 lo hi : Nat} {X : BB} {Y : MK} {O : Nat → Prop} {T : List Tx} {past next : List (List Tx)} {V1 V2 : Value} {sb : Nat} {c : Int} (hx : BaB l1 h1 X) (hb : MkB lo hi Y) (hX : BaV w X T past next) (hY : BkV w Y O lo hi T past next V1 V2 sb) :
    Ret Tryz.prog 37 [ptr X.k, ptr Y.k, icv c] w (fun v w' => v = .bool true ∧ Fram none' w w') := by
  have hF : Fram none' w w := Fram.refl _ _
  obtain ⟨SL, xs, ys, h⟩ := hY
  obtain ⟨M, hM⟩ := h.hv.mv.sh
  refine ret_of Tryz.func37 rfl Tryz.ntmps37 rfl ?_
  refine c_seq (fun K1 hK1 => ?_)
  refine c_reg ?_ -- region 0 law.go:56
  refine wl (ro_assign rfl) ?_
  refine wl_nil (x_then (hK1 _ _ ?_))
  clear hK1 K1
  refine forget [(0, _), (1, _), (2, _)] ⟨rfl, rfl, rfl, trivial⟩ (fun e => ?_)
  refine c_seq (fun K2 hK2 => ?_)
  refine c_reg ?_ -- region 1 law.go:57
  refine wl (ro_move rfl) ?_
  refine wl (ro_move rfl) ?_
  refine wl_call rfl en_61 (Raw61 hX) ?_
  rintro _ u0 ⟨rfl, hw0⟩
  rw [hw0]
  clear hw0 u0
  refine wl (ro_assign rfl) ?_
  refine wl_nil (x_then (hK2 _ _ ?_))
  clear hK2 K2
  refine forget [(0, _), (1, _), (2, _), (7, _)] ⟨rfl, rfl, rfl, rfl, trivial⟩ (fun e => ?_)
  refine c_seq (fun K3 hK3 => ?_)
  refine c_reg ?_ -- region 2 law.go:58
  refine wl (ro_move rfl) ?_
  refine wl (ro_move rfl) ?_
  refine wl_call rfl en_62 (Raw62 h.hK h.hv) ?_
  rintro _ u0 ⟨rfl, hw0⟩
  rw [hw0]
  clear hw0 u0
  refine wl (ro_assign rfl) ?_
  refine wl_nil (x_then (hK3 _ _ ?_))
  clear hK3 K3
  refine c_seq (fun K4 hK4 => ?_)
  refine c_seq (fun K5 hK5 => ?_)
  refine c_reg ?_ -- region 3 law.go:59
  refine wl (ro_move rfl) ?_
  refine wl (ro_move rfl) ?_
  refine wl (ro_eqS (l := getS T c) (m := getS T c) (r := false) rfl rfl (congrArg some (by simp))) ?_
  refine wl_nil (x_then (hK5 _ _ ?_))
  clear hK5 K5
  refine wc_condF rfl ?_
  refine c_skip (x_then (hK4 _ _ ?_))
  clear hK4 K4
  refine forget [(0, _), (1, _), (2, _)] ⟨rfl, rfl, rfl, trivial⟩ (fun e => ?_)
  refine c_seq (fun K6 hK6 => ?_)
  refine c_reg ?_ -- region 5 law.go:62
  refine wl (ro_move rfl) ?_
  refine wl (ro_move rfl) ?_
  refine wl_call rfl en_63 (Value63 hx hX) ?_
  rintro _ u1 ⟨⟨SL1, L1, hl1, hsh1, rfl⟩, G1⟩
  replace hF := hF.transG G1 (by intro k hk h; simp only [none'] at h ⊢ <;> omega)
  refine wl_new (ze_104) (fun b9 w1 hbb9 h9 F1 => ?_)
  have hbsb9 := Nat.le_trans hF.size hbb9
  replace hF := hF.thenDrew.thenN F1
  refine wl_puta rfl rfl ((vlc_cells _)) sz_104 (rfl) h9 ((by simp)) ((show _ = vlc (getV SL1 c) from rfl)) (fun w2 h9 F2 => ?_)
  replace hF := hF.thenDrew.thenO F2 (by first | exact .inr (by omega) | exact .inl rfl | exact .inl (by assumption))
  refine wl_nil (x_then (hK6 _ _ ?_))
  clear hK6 K6
  refine forget [(1, _), (2, _), (9, _)] ⟨rfl, rfl, rfl, trivial⟩ (fun e => ?_)
  refine c_seq (fun K7 hK7 => ?_)
  refine c_reg ?_ -- region 6 law.go:63
  refine wl (ro_move rfl) ?_
  refine wl (ro_move rfl) ?_
  refine wl_call rfl en_64 (Value64 hb.nb (h.farN hb hF).hK (h.farN hb hF).hv) ?_
  rintro _ u2 ⟨rfl, G2⟩
  replace hF := hF.transG G2 (by intro k hk h; simp only [none'] at h ⊢ <;> omega)
  replace h9 := G2.blkF h9 (by intro h; simp only [none'] at h <;> omega)
  refine wl_new (ze_104) (fun b10 w3 hbb10 h10 F3 => ?_)
  have hbsb10 := Nat.le_trans hF.size hbb10
  have hneb9b10 : b9 < b10 := Nat.lt_of_lt_of_le h9.lt hbb10
  replace hF := hF.thenDrew.thenN F3
  replace h9 := F3.blkN h9
  refine wl_puta rfl rfl ((vlc_cells _)) sz_104 (rfl) h10 ((by simp)) ((show _ = vlc (getV SL c) from rfl)) (fun w4 h10 F4 => ?_)
  replace hF := hF.thenDrew.thenO F4 (by first | exact .inr (by omega) | exact .inl rfl | exact .inl (by assumption))
  replace h9 := F4.blkO h9 (by omega)
  have hval : getV SL1 c = getV SL c := by
    unfold getV
    split
    · exact sh_uniq hsh1 hM _ (by omega)
    · rfl
  refine wl_nil (x_then (hK7 _ _ ?_))
  clear hK7 K7
  refine forget [(9, _), (10, _)] ⟨rfl, rfl, trivial⟩ (fun e => ?_)
  refine c_seq (fun K8 hK8 => ?_)
  refine c_reg ?_ -- region 7 law.go:64
  refine wl (ro_loadAggB rfl ag_104 (h9) (rfl) (rfl)) ?_
  refine wl (ro_loadAggB rfl ag_104 (h10) (rfl) (rfl)) ?_
  refine wl (ro_eqSt3 (r := true) rfl rfl st3_104 in_3 in_3 st_9 eg_104 (congrArg some (decide_eq_true (by rw [hval]; exact ⟨rfl, rfl, rfl⟩)))) ?_
  refine wl (ro_assign rfl) ?_
  refine wl_nil (x_then (hK8 _ _ ?_))
  clear hK8 K8
  refine c_ret ?_
  refine bp_ret Tryz.results37 rfl ?_
  exact ⟨rfl, hF⟩
set_option maxHeartbeats 4000000 in
theorem sheet9 {w : World} {l1 h1 lo hi : Nat} {X : BB} {Y : MK} {O : Nat → Prop} {T : List Tx} {past next : List (List Tx)} {V1 V2 : Value} {sb : Nat} (hx : BaB l1 h1 X) (hb : MkB lo hi Y) (hX : BaV w X T past next) (hY : BkV w Y O lo hi T past next V1 V2 sb) :
    Ret Tryz.prog 9 [ptr X.k, ptr Y.k] w (fun v w' => v = .bool true ∧ Fram none' w w') := by
  have hF : Fram none' w w := Fram.refl _ _
  have hY0 := hY
  obtain ⟨SL, xs, ys, h⟩ := hY
  have hxl := h.s1.1
  have hyl := h.s2.1
  obtain ⟨a1, c1, rfl⟩ := h.o1.form
  obtain ⟨a2, c2, rfl⟩ := h.o2.form
  refine ret_of Tryz.func9 rfl Tryz.ntmps9 rfl ?_
  refine c_seq (fun K1 hK1 => ?_)
  refine c_reg ?_ -- region 0 law.go:68
  refine wl (ro_assign rfl) ?_
  refine wl_nil (x_then (hK1 _ _ ?_))
  clear hK1 K1
  refine c_seq (fun K2 hK2 => ?_)
  refine c_seq (fun K3 hK3 => ?_)
  refine c_reg ?_ -- region 1 law.go:69
  refine wl (ro_assign rfl) ?_
  refine wl_nil (x_then (hK3 _ _ ?_))
  clear hK3 K3
  refine c_block ?_
  -- loop@r2: live slots [0, 1, 5]
  refine c_loopG (fun m a' w' => ∃ c : Int, m = (25 - c).toNat ∧ -1 ≤ c ∧ c ≤ 25 ∧ Fram none' w w' ∧ ∃ e, a' = Fr 27 (upds e [(0, ptr X.k), (1, ptr Y.k), (5, icv c)]) []) 26 ⟨-1, rfl, by omega, by omega, hF, kp _ ⟨rfl, rfl, rfl, trivial⟩⟩ ?_
  clear hF
  rintro m a' u1 ⟨c, rfl, hc1, hc2, hF, e, rfl⟩
  refine c_seq (fun K4 hK4 => ?_)
  refine c_seq (fun K5 hK5 => ?_)
  refine c_reg ?_ -- region 2 law.go:69
  refine wl (ro_move rfl) ?_
  refine wl (ro_cmp (r := decide (c ≤ 24)) rfl rfl rfl) ?_
  refine wl_nil (x_then (hK5 _ _ ?_))
  clear hK5 K5
  refine wc_cond rfl (fun hc7 => ?_) (fun hc7 => ?_)
  · try simp only [decide_eq_true_eq, decide_eq_false_iff_not, Bool.not_eq_true', Bool.not_eq_false', Bool.not_eq_eq_eq_not, Bool.not_true, Bool.not_false, beq_iff_eq, bne_iff_ne, ne_eq, beq_eq_false_iff_ne, bne_eq_false_iff_eq, gt_iff_lt, ge_iff_le, Int.not_lt, Int.not_le] at hc7
    refine c_skip (x_then (hK4 _ _ ?_))
    clear hK4 K4
    refine forget [(0, _), (1, _), (5, _)] ⟨rfl, rfl, rfl, trivial⟩ (fun e => ?_)
    refine c_seq (fun K6 hK6 => ?_)
    refine c_block ?_
    refine c_seq (fun K7 hK7 => ?_)
    refine c_reg ?_ -- region 4 law.go:70
    refine wl (ro_move rfl) ?_
    refine wl (ro_move rfl) ?_
    refine wl (ro_move rfl) ?_
    refine wl_call rfl en_37 (cell37 hx hb (hX.farN hx hF) (hY0.farN hb hF)) ?_
    rintro _ u2 ⟨rfl, G2⟩
    replace hF := hF.transG G2 (by intro k hk h; simp only [none'] at h ⊢ <;> omega)
    refine wl (ro_not rfl) ?_
    refine wl_nil (x_then (hK7 _ _ ?_))
    clear hK7 K7
    refine wc_condF rfl ?_
    refine c_skip (x_blk (x_then (hK6 _ _ ?_)))
    clear hK6 K6
    refine c_reg ?_ -- region 3 law.go:69
    refine wl (ro_move rfl) ?_
    refine wl (ro_arith (r := c + 1) rfl rfl rfl (Go.IntWalk.i64_in _ (by omega))) ?_
    refine wl (ro_assign rfl) ?_
    refine wl_nil (x_then ?_)
    exact ⟨(25 - (c + 1)).toNat, by omega, c + 1, rfl, by omega, by omega, hF, kp _ ⟨rfl, rfl, rfl, trivial⟩⟩
  · try simp only [decide_eq_true_eq, decide_eq_false_iff_not, Bool.not_eq_true', Bool.not_eq_false', Bool.not_eq_eq_eq_not, Bool.not_true, Bool.not_false, beq_iff_eq, bne_iff_ne, ne_eq, beq_eq_false_iff_ne, bne_eq_false_iff_eq, gt_iff_lt, ge_iff_le, Int.not_lt, Int.not_le] at hc7
    refine c_exit (x_thenX (x_thenX (x_blkX (x_then (hK2 _ _ ?_)))))
    clear hK4 K4 hK2 K2
    refine forget [(0, _), (1, _)] ⟨rfl, rfl, trivial⟩ (fun e => ?_)
    refine c_seq (fun K8 hK8 => ?_)
    refine c_reg ?_ -- region 6 law.go:74
    refine wl (ro_move rfl) ?_
    refine wl_call rfl en_38 (Undos38 (hX.farN hx hF)) ?_
    rintro _ u0 ⟨rfl, hw0⟩
    rw [hw0]
    clear hw0 u0
    refine wl (ro_move rfl) ?_
    refine wl_call rfl en_39 (Undos39 (h.farN hb hF).hK) ?_
    rintro _ u0 ⟨rfl, hw0⟩
    rw [hw0]
    clear hw0 u0
    refine wl (ro_cmp (r := true) rfl rfl (congrArg some (by rw [hxl]; simp))) ?_
    refine wl (ro_move rfl) ?_
    refine wlg_yes rfl (ro_move rfl) ?_
    refine wlg_call rfl rfl en_40 (Redos40 (hX.farN hx hF)) ?_
    rintro _ u0 ⟨rfl, hw0⟩
    rw [hw0]
    clear hw0 u0
    refine wlg_yes rfl (ro_move rfl) ?_
    refine wlg_call rfl rfl en_41 (Redos41 (h.farN hb hF).hK) ?_
    rintro _ u0 ⟨rfl, hw0⟩
    rw [hw0]
    clear hw0 u0
    refine wlg_yes rfl (ro_cmp (r := true) rfl rfl (congrArg some (by rw [hyl]; simp))) ?_
    refine wl (ro_pick rfl rfl rfl) ?_
    refine wl (ro_assign rfl) ?_
    refine wl_nil (x_then (hK8 _ _ ?_))
    clear hK8 K8
    refine c_ret ?_
    refine bp_ret Tryz.results9 rfl ?_
    exact ⟨rfl, hF⟩
theorem saved20 {w : World} {l1 h1 lo hi : Nat} {X : BB} {Y : MK} {O : Nat → Prop} {T : List Tx} {past next : List (List Tx)} {V1 V2 : Value} {sb : Nat} (hx : BaB l1 h1 X) (hz : h1 ≤ w.heap.size) (hb : MkB lo hi Y) (hl : h1 ≤ lo) (hX : BaV w X T past next) (hY : BkV w Y O lo hi T past next V1 V2 sb) :
    Ret Tryz.prog 20 [ptr X.k, ptr Y.k] w (fun v w' => v = .tuple #[S (svT T 24), .bool true] ∧ BaV w' X T past next ∧ Fram (rng l1 h1) w w') := by
  refine ret_of Tryz.func20 rfl Tryz.ntmps20 rfl ?_
  refine c_seq (fun K1 hK1 => ?_)
  refine c_reg ?_ -- region 0 law.go:50
  refine wl (ro_assign rfl) ?_
  refine wl (ro_assign rfl) ?_
  refine wl_nil (x_then (hK1 _ _ ?_))
  clear hK1 K1
  refine forget [(0, _), (1, _)] ⟨rfl, rfl, trivial⟩ (fun e => ?_)
  refine c_seq (fun K2 hK2 => ?_)
  refine c_reg ?_ -- region 1 law.go:51
  refine wl (ro_move rfl) ?_
  refine wl_call rfl en_53 (Save53 hx hz hX) ?_
  rintro _ u1 ⟨rfl, hX, G1⟩
  refine wl (ro_assign rfl) ?_
  refine wl_nil (x_then (hK2 _ _ ?_))
  clear hK2 K2
  refine forget [(1, _), (6, _)] ⟨rfl, rfl, trivial⟩ (fun e => ?_)
  refine c_seq (fun K3 hK3 => ?_)
  refine c_reg ?_ -- region 2 law.go:52
  refine wl (ro_move rfl) ?_
  refine wl_call rfl en_54 (Save54 hb (hY.real hb hl G1)) ?_
  rintro _ u2 ⟨rfl, G2⟩
  refine wl (ro_assign rfl) ?_
  refine wl_nil (x_then (hK3 _ _ ?_))
  clear hK3 K3
  refine forget [(6, _), (7, _)] ⟨rfl, rfl, trivial⟩ (fun e => ?_)
  refine c_seq (fun K4 hK4 => ?_)
  refine c_reg ?_ -- region 3 law.go:53
  refine wl (ro_move rfl) ?_
  refine wl (ro_move rfl) ?_
  refine wl (ro_move rfl) ?_
  refine wl (ro_eqS (l := svT T 24) (m := svT T 24) (r := true) rfl rfl (congrArg some (by simp))) ?_
  refine wl (ro_assign rfl) ?_
  refine wl (ro_assign rfl) ?_
  refine wl_nil (x_then (hK4 _ _ ?_))
  clear hK4 K4
  refine c_ret ?_
  refine bp_ret Tryz.results20 rfl ?_
  exact ⟨rfl, hX.farN hx G2, G1.trans (G2.mono (fun _ _ q => q.elim))⟩

end Go.Proofs.Qxb6500570aGreat
