import Derived.Test.Qxb6500569aGreatXj
/- The law: Raw returns true. -/
namespace Go.Proofs.Qxb6500569aGreat
set_option linter.unusedVariables false
set_option linter.unusedSimpArgs false

def Jnt (w0 w : World) (sb mb n : Nat) : Prop := ∃ F, JF w sb mb n F ∧ (∀ b, F b → w0.heap.size ≤ b) ∧ Fram none' w0 w

theorem Jnt.post {w0 w w' : World} {sb mb n' : Nat} {F : Nat → Prop} (hb : ∀ b, F b → w0.heap.size ≤ b) (hf : Fram none' w0 w) (P : JPost F sb mb n' w w') : Jnt w0 w' sb mb n' := by
  obtain ⟨F', J', h1, h2⟩ := P
  have hs := hf.size
  refine ⟨F', J', ?_, hf.trans' h2 (fun b hlt hx => by have := hb b hx; omega)⟩
  intro b hx
  rcases h1 b hx with h | h
  · exact hb b h
  · omega

theorem added8J {w0 w : World} {sb mb n : Nat} (J : Jnt w0 w sb mb n) (text : List UInt8) : Ret Tryz.prog 8 [ptr sb, ptr mb, S text] w (fun r w' => r = .bool true ∧ Jnt w0 w' sb mb n) := by
  obtain ⟨F, J, hb, hf⟩ := J
  exact (added8 J text).mono (fun r w' ⟨h, P⟩ => ⟨h, Jnt.post hb hf P⟩)

theorem shown10J {w0 w : World} {sb mb n : Nat} (J : Jnt w0 w sb mb n) : Ret Tryz.prog 10 [ptr sb, ptr mb] w (fun r w' => r = .bool true ∧ Jnt w0 w' sb mb n) := by
  obtain ⟨F, J, hb, hf⟩ := J
  exact (shown10 J).mono (fun r w' ⟨h, P⟩ => ⟨h, Jnt.post hb hf P⟩)

theorem asked9J {w0 w : World} {sb mb n : Nat} (J : Jnt w0 w sb mb n) (text : List UInt8) (fuel : Int) : Ret Tryz.prog 9 [ptr sb, ptr mb, S text, .int .i64 fuel] w (fun r w' => r = .bool true ∧ ∃ n', Jnt w0 w' sb mb n') := by
  obtain ⟨F, J, hb, hf⟩ := J
  exact (asked9 J text fuel).mono (fun r w' ⟨h, n', P⟩ => ⟨h, n', Jnt.post hb hf P⟩)

theorem next11J {w0 w : World} {sb mb n : Nat} (J : Jnt w0 w sb mb n) : Ret Tryz.prog 11 [ptr sb, ptr mb] w (fun r w' => ∃ more n', r = .tuple #[.bool true, .bool more] ∧ Jnt w0 w' sb mb n' ∧ (more = true → n' < n)) := by
  obtain ⟨F, J, hb, hf⟩ := J
  exact (next11 J).mono (fun r w' ⟨more, n', h, P, hl⟩ => ⟨more, n', h, Jnt.post hb hf P, hl⟩)

theorem Raw3 {w : World} {v : Value} {ts : List (List UInt8)} (h : TxV w v ts) (hb : ts.length ≤ 9223372036854775807) (query : List UInt8) (fuel : Int) :
    Ret Tryz.prog 3 [v, S query, .int .i64 fuel] w (fun r w' => r = .bool true ∧ Fram none' w w') := by
  have h0 := h
  obtain ⟨a, cap, rfl, _⟩ := h.form
  refine ret_of Tryz.func3 rfl Tryz.ntmps3 rfl ?_
  refine c_seq (fun K1 hK1 => ?_)
  refine c_reg ?_ -- region 0 law.go:69
  refine wl (ro_assign rfl) ?_
  refine wl_nil (x_then (hK1 _ _ ?_))
  clear hK1 K1
  refine c_seq (fun K2 hK2 => ?_)
  refine c_seq (fun K3 hK3 => ?_)
  by_cases hq : 1073741824 < query.length
  · skip
    refine c_reg ?_ -- region 1 law.go:70
    refine wl (ro_move rfl) ?_
    refine wl (ro_lenS rfl st_9) ?_
    refine wl (ro_cmp (r := true) rfl rfl (by simp; omega)) ?_
    refine wl (ro_move rfl) ?_
    refine wlg_no rfl ?_
    refine wlg_no rfl ?_
    refine wlg_no rfl ?_
    refine wl (ro_pick rfl rfl rfl) ?_
    refine wl_nil (x_then (hK3 _ _ ?_))
    clear hK3 K3
    refine wc_condT rfl ?_
    refine c_seq (fun K4 hK4 => ?_)
    refine c_reg ?_ -- region 2 law.go:71
    refine wl (ro_assign rfl) ?_
    refine wl_nil (x_then (hK4 _ _ ?_))
    clear hK4 K4
    refine c_ret (x_thenR ?_)
    refine bp_ret Tryz.results3 rfl ?_
    exact ⟨rfl, Fram.refl _ _⟩
  · skip
    refine c_reg ?_ -- region 1 law.go:70
    refine wl (ro_move rfl) ?_
    refine wl (ro_lenS rfl st_9) ?_
    refine wl (ro_cmp (r := false) rfl rfl (by simp; omega)) ?_
    refine wl (ro_move rfl) ?_
    refine wlg_yes rfl (ro_move rfl) ?_
    refine wlg_call rfl rfl en_5 (few5 h0 hb) ?_
    rintro _ w ⟨⟨b, rfl⟩, rfl⟩
    refine wlg_yes rfl (ro_not rfl) ?_
    refine wl (ro_pick rfl rfl rfl) ?_
    refine wl_nil (x_then (hK3 _ _ ?_))
    clear hK3 K3
    refine wc_cond rfl (fun hc20 => ?_) (fun hc20 => ?_)
    · try simp only [decide_eq_true_eq, decide_eq_false_iff_not, Bool.not_eq_true', Bool.not_eq_false', Bool.not_eq_eq_eq_not, Bool.not_true, Bool.not_false, beq_iff_eq, bne_iff_ne, ne_eq, beq_eq_false_iff_ne, bne_eq_false_iff_eq, gt_iff_lt, ge_iff_le, Int.not_lt, Int.not_le] at hc20
      refine c_seq (fun K5 hK5 => ?_)
      refine c_reg ?_ -- region 2 law.go:71
      refine wl (ro_assign rfl) ?_
      refine wl_nil (x_then (hK5 _ _ ?_))
      clear hK5 K5
      refine c_ret (x_thenR ?_)
      refine bp_ret Tryz.results3 rfl ?_
      exact ⟨rfl, Fram.refl _ _⟩
    · try simp only [decide_eq_true_eq, decide_eq_false_iff_not, Bool.not_eq_true', Bool.not_eq_false', Bool.not_eq_eq_eq_not, Bool.not_true, Bool.not_false, beq_iff_eq, bne_iff_ne, ne_eq, beq_eq_false_iff_ne, bne_eq_false_iff_eq, gt_iff_lt, ge_iff_le, Int.not_lt, Int.not_le] at hc20
      refine c_skip (x_then (hK2 _ _ ?_))
      clear hK2 K2
      refine forget [(0, _), (1, _), (2, _)] ⟨rfl, rfl, rfl, trivial⟩ (fun e => ?_)
      refine c_seq (fun K6 hK6 => ?_)
      refine c_reg ?_ -- region 3 law.go:73
      refine wl_call rfl en_6 (New6) ?_
      rintro _ w1 ⟨L, pb, sb, F, rfl, hA, hFb, F1⟩
      refine wle (eo_alloc ze_28) ?_
      have hN := Blk.new w1 [.pointer none, .pointer none, .pointer none] 28
      have FA : Fram none' w1 (w1.alloc (.cells [.pointer none, .pointer none, .pointer none].toArray 28)) := Fram.alloc none' w1 _
      refine wls (so_storeAggB rfl rfl ((by simp [ptr, Value.oneCell'])) sz_28 rfl (hN) ((by simp))) ?_
      have FS : Fram (fun b => b = w1.heap.size) (w1.alloc (.cells [.pointer none, .pointer none, .pointer none].toArray 28)) _ := Fram.set _ w1.heap.size [ptr L.h, ptr pb, ptr sb].toArray (.inl rfl)
      have hN2 := hN.set [ptr L.h, ptr pb, ptr sb]
      have F02 : Fram none' w _ := (F1.trans FA).trans' FS (fun b hb he => absurd he (by have := F1.size; omega))
      have hA2 := (hA.fram FA (fun _ _ h => h)).fram FS (fun b hb he => by have := hA.lt hb; omega)
      refine gen3 (A := fun w2 => Blk w2.heap w1.heap.size [ptr L.h, ptr pb, ptr sb] 28) (B := fun w2 => RAll w2.heap sb rs0 F) (D := fun w2 => Fram none' w w2) (C := fun w2 => WL _ _ _ _ _ w2) hN2 hA2 F02 ?_
      have hs1 := F1.size
      clear hN2 hA2 F02 FS FA hN hA F1
      intro w2 hN2 hA2 F02
      refine wl_nil (x_then (hK6 _ _ ?_))
      clear hK6 K6
      refine forget [(0, _), (1, _), (2, _), (7, _)] ⟨rfl, rfl, rfl, rfl, trivial⟩ (fun e => ?_)
      refine c_seq (fun K7 hK7 => ?_)
      refine c_reg ?_ -- region 4 law.go:74
      refine wl (ro_fieldAddr (k := 2) rfl fo_28_2) ?_
      refine wl (ro_loadB rfl sc_26 (hN2) (rfl)) ?_
      refine wl (ro_assign rfl) ?_
      refine wl_nil (x_then (hK7 _ _ ?_))
      clear hK7 K7
      refine forget [(0, _), (1, _), (2, _), (8, _)] ⟨rfl, rfl, rfl, rfl, trivial⟩ (fun e => ?_)
      refine c_seq (fun K8 hK8 => ?_)
      refine c_reg ?_ -- region 5 law.go:75
      refine wl_call rfl en_7 (New7) ?_
      rintro _ w3 ⟨mb, Fm, rfl, hM, hFm, F3⟩
      have J : Jnt w w3 sb mb 0 := by
        have hs2 := F02.size
        refine ⟨_, jf_new (w0 := w) hA2 hM hFm F3, ?_, F02.trans F3⟩
        rintro b (hb | hb)
        · exact hFb b hb
        · have h2 := hFm b hb; omega
      clear hA2 hM F3 F02 hN2
      refine wl (ro_assign rfl) ?_
      refine wl_nil (x_then (hK8 _ _ ?_))
      clear hK8 K8
      refine c_seq (fun K9 hK9 => ?_)
      refine c_seq (fun K10 hK10 => ?_)
      refine c_reg ?_ -- region 6 law.go:76
      refine wl (ro_assign rfl) ?_
      refine wl_nil (x_then (hK10 _ _ ?_))
      clear hK10 K10
      refine c_block ?_
      -- loop@r7: live slots [0, 1, 2, 8, 9, 10]
      refine c_loopG (fun m a' w' => ∃ (i : Nat), m = ts.length - i ∧ i ≤ ts.length ∧ Jnt w w' sb mb 0 ∧ ∃ e, a' = Fr 67 (upds e [(0, .slice a ts.length cap), (1, S query), (2, .int .i64 fuel), (8, ptr sb), (9, ptr mb), (10, i64c i)]) []) ts.length ⟨0, by omega, by omega, J, kp _ ⟨rfl, rfl, rfl, rfl, rfl, rfl, trivial⟩⟩ ?_
      clear J
      rintro m a' w3 ⟨i, rfl, hi, J, e, rfl⟩
      have hT : TxV w3 (.slice a ts.length cap) ts := h0.fram (by obtain ⟨_, _, _, hf⟩ := J; exact hf)
      refine c_seq (fun K11 hK11 => ?_)
      refine c_seq (fun K12 hK12 => ?_)
      refine c_reg ?_ -- region 7 law.go:76
      refine wl (ro_move rfl) ?_
      refine wl (ro_move rfl) ?_
      refine wl (ro_lenL rfl se_22) ?_
      refine wl (ro_cmp rfl rfl rfl) ?_
      refine wl_nil (x_then (hK12 _ _ ?_))
      clear hK12 K12
      refine wc_cond rfl (fun hc28 => ?_) (fun hc28 => ?_)
      · try simp only [decide_eq_true_eq, decide_eq_false_iff_not, Bool.not_eq_true', Bool.not_eq_false', Bool.not_eq_eq_eq_not, Bool.not_true, Bool.not_false, beq_iff_eq, bne_iff_ne, ne_eq, beq_eq_false_iff_ne, bne_eq_false_iff_eq, gt_iff_lt, ge_iff_le, Int.not_lt, Int.not_le] at hc28
        obtain ⟨t, ht⟩ : ∃ t, ts[i]? = some t := ⟨_, List.getElem?_eq_getElem (by omega)⟩
        obtain ⟨a', cap', hv', hc⟩ := hT.form
        injection hv' with hv1 hv2 hv3
        subst hv1 hv3
        obtain ⟨ad, rfl, hcl⟩ := hc i t ht
        refine c_skip (x_then (hK11 _ _ ?_))
        clear hK11 K11
        refine forget [(0, _), (1, _), (2, _), (8, _), (9, _), (10, _)] ⟨rfl, rfl, rfl, rfl, rfl, rfl, trivial⟩ (fun e => ?_)
        refine c_seq (fun K13 hK13 => ?_)
        refine c_block ?_
        refine c_seq (fun K14 hK14 => ?_)
        refine c_reg ?_ -- region 9 law.go:77
        refine wl (ro_move rfl) ?_
        refine wl (ro_move rfl) ?_
        refine wl (ro_move rfl) ?_
        refine wl (ro_move rfl) ?_
        refine wl (ro_indexAddrG (i := i) rfl rfl se_22 rfl (by omega)) ?_
        refine wl (ro_load rfl sc_9 hcl) ?_
        refine wl_call rfl en_8 (added8J J t) ?_
        rintro _ w4 ⟨rfl, J4⟩
        refine wl (ro_not rfl) ?_
        refine wl_nil (x_then (hK14 _ _ ?_))
        clear hK14 K14
        refine wc_condF rfl ?_
        refine c_skip (x_blk (x_then (hK13 _ _ ?_)))
        clear hK13 K13
        refine c_reg ?_ -- region 8 law.go:76
        refine wl (ro_move rfl) ?_
        refine wl (ro_arith rfl rfl rfl (Go.IntWalk.i64_in _ (by omega))) ?_
        refine wl (ro_assign rfl) ?_
        refine wl_nil (x_then ?_)
        exact ⟨ts.length - (i + 1), by omega, i + 1, rfl, by omega, J4, kp _ ⟨rfl, rfl, rfl, rfl, rfl, rfl, trivial⟩⟩
      · try simp only [decide_eq_true_eq, decide_eq_false_iff_not, Bool.not_eq_true', Bool.not_eq_false', Bool.not_eq_eq_eq_not, Bool.not_true, Bool.not_false, beq_iff_eq, bne_iff_ne, ne_eq, beq_eq_false_iff_ne, bne_eq_false_iff_eq, gt_iff_lt, ge_iff_le, Int.not_lt, Int.not_le] at hc28
        refine c_exit (x_thenX (x_thenX (x_blkX (x_then (hK9 _ _ ?_)))))
        clear hK11 K11 hK9 K9
        refine c_seq (fun K15 hK15 => ?_)
        refine c_seq (fun K16 hK16 => ?_)
        refine c_reg ?_ -- region 11 law.go:81
        refine wl (ro_move rfl) ?_
        refine wl (ro_move rfl) ?_
        refine wl (ro_move rfl) ?_
        refine wl (ro_move rfl) ?_
        refine wl_call rfl en_9 (asked9J J query fuel) ?_
        rintro _ w4 ⟨rfl, n, J4⟩
        refine wl (ro_not rfl) ?_
        refine wl (ro_move rfl) ?_
        refine wlg_yes rfl (ro_move rfl) ?_
        refine wlg_yes rfl (ro_move rfl) ?_
        refine wlg_call rfl rfl en_10 (shown10J J4) ?_
        rintro _ w5 ⟨rfl, J5⟩
        refine wlg_yes rfl (ro_not rfl) ?_
        refine wl (ro_pick rfl rfl rfl) ?_
        refine wl_nil (x_then (hK16 _ _ ?_))
        clear hK16 K16
        refine wc_condF rfl ?_
        refine c_skip (x_then (hK15 _ _ ?_))
        clear hK15 K15
        refine c_block ?_
        -- loop@r13: live slots [8, 9]
        refine c_loopG (fun m a' w' => Jnt w w' sb mb m ∧ ∃ e, a' = Fr 67 (upds e [(8, ptr sb), (9, ptr mb)]) []) n ⟨J5, kp _ ⟨rfl, rfl, trivial⟩⟩ ?_
        clear J J4 J5
        rintro m a' w6 ⟨J6, e, rfl⟩
        refine c_block ?_
        refine c_seq (fun K17 hK17 => ?_)
        refine c_reg ?_ -- region 13 law.go:85
        refine wl (ro_move rfl) ?_
        refine wl (ro_move rfl) ?_
        refine wl_call rfl en_11 (next11J J6) ?_
        rintro _ w7 ⟨more, n', rfl, J7, hlt⟩
        refine wl (ro_move rfl) ?_
        refine wl (ro_extract rfl rfl) ?_
        refine wl (ro_extract rfl rfl) ?_
        refine wl (ro_assign rfl) ?_
        refine wl (ro_assign rfl) ?_
        refine wl_nil (x_then (hK17 _ _ ?_))
        clear hK17 K17
        refine c_seq (fun K18 hK18 => ?_)
        refine c_seq (fun K19 hK19 => ?_)
        refine c_reg ?_ -- region 14 law.go:86
        refine wl (ro_move rfl) ?_
        refine wl (ro_not rfl) ?_
        refine wl (ro_move rfl) ?_
        refine wlg_yes rfl (ro_move rfl) ?_
        refine wlg_yes rfl (ro_move rfl) ?_
        refine wlg_call rfl rfl en_10 (shown10J J7) ?_
        rintro _ w8 ⟨rfl, J8⟩
        refine wlg_yes rfl (ro_not rfl) ?_
        refine wl (ro_pick rfl rfl rfl) ?_
        refine wl_nil (x_then (hK19 _ _ ?_))
        clear hK19 K19
        refine wc_condF rfl ?_
        refine c_skip (x_then (hK18 _ _ ?_))
        clear hK18 K18
        refine forget [(8, _), (9, _), (12, _), (60, _), (61, _), (62, _), (63, _)] ⟨rfl, rfl, rfl, rfl, rfl, rfl, rfl, trivial⟩ (fun e => ?_)
        refine c_seq (fun K20 hK20 => ?_)
        refine c_reg ?_ -- region 16 law.go:89
        refine wl (ro_move rfl) ?_
        refine wl (ro_not rfl) ?_
        refine wl_nil (x_then (hK20 _ _ ?_))
        clear hK20 K20
        refine wc_cond rfl (fun hc66 => ?_) (fun hc66 => ?_)
        · try simp only [decide_eq_true_eq, decide_eq_false_iff_not, Bool.not_eq_true', Bool.not_eq_false', Bool.not_eq_eq_eq_not, Bool.not_true, Bool.not_false, beq_iff_eq, bne_iff_ne, ne_eq, beq_eq_false_iff_ne, bne_eq_false_iff_eq, gt_iff_lt, ge_iff_le, Int.not_lt, Int.not_le] at hc66
          refine c_seq (fun K21 hK21 => ?_)
          refine c_reg ?_ -- region 17 law.go:90
          refine wl (ro_assign rfl) ?_
          refine wl_nil (x_then (hK21 _ _ ?_))
          clear hK21 K21
          refine c_ret (x_blkR (x_thenR (x_blkR ?_)))
          refine bp_ret Tryz.results3 rfl ?_
          exact ⟨rfl, by obtain ⟨_, _, _, hf⟩ := J8; exact hf⟩
        · try simp only [decide_eq_true_eq, decide_eq_false_iff_not, Bool.not_eq_true', Bool.not_eq_false', Bool.not_eq_eq_eq_not, Bool.not_true, Bool.not_false, beq_iff_eq, bne_iff_ne, ne_eq, beq_eq_false_iff_ne, bne_eq_false_iff_eq, gt_iff_lt, ge_iff_le, Int.not_lt, Int.not_le] at hc66
          have hmt : more = true := by simpa using hc66
          refine c_skip (x_blk (x_then ?_))
          exact ⟨n', hlt hmt, J8, kp _ ⟨rfl, rfl, trivial⟩⟩

end Go.Proofs.Qxb6500569aGreat
