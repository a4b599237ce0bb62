import Derived.Test.Qxb6500569aGreatMi
/- The model heap: the printer, structures; Write. -/
namespace Go.Proofs.Qxb6500569aGreat
set_option linter.unusedVariables false
set_option linter.unusedSimpArgs false

set_option maxHeartbeats 1600000 in
theorem put106s {hb : Nat} {VH : Value} {hp : List Nd} (hok : HOK hp) {base pb f : Nat} (hbase : ∀ b, MFoot hb VH b → b < base) (IH : PutM hb VH hp base pb f) {w : World} {V : Value} {out : List UInt8} {nm : List Nat} {a : Nat} (M : MH w.heap hb VH hp) (hbs : base ≤ w.heap.size) (hP : MPen base pb V out nm w)
    (hout : out.length ≤ 48) (hf : 49 - out.length ≤ f + 1) (hnm : nm.length ≤ out.length) (ha : a < hp.length) {nd : Nd} (hnd : hp[deref hp a]? = some nd) (hn0 : nd.h ≠ []) :
    Ret Tryz.prog 106 [ptr hb, ptr pb, i64c a] w (fun r w' => r = .bool (putF (f + 1) hp a out nm).1 ∧ ∃ V', MPen base pb V' (putF (f + 1) hp a out nm).2.1 (putF (f + 1) hp a out nm).2.2 w' ∧ Fram (fun b => base ≤ b) w w') := by
  have hdl := deref_lt hok.wf ha
  have h64 := hok.cap
  obtain ⟨⟨fc, d, hh, hd1, hd2⟩, hl4, harg⟩ := hok.wf.str _ nd hnd hn0
  have hho : hOf hp (deref hp a) = fc :: [d] := by simp [hOf, hnd, hh]
  obtain ⟨hk1, hk2, hk3⟩ := kidsOf_get M.a4 hok.wf hnd
  have hkb : ∀ z ∈ kidsOf hp (deref hp a), z < hp.length := fun z hz => kids_lt hok.wf hnd hz
  rw [putF_str hho]
  rw [hh] at hk1 hk2 hk3
  obtain ⟨g, cap, l, rfl, hBl, hc1, hc2, hl1, hl2⟩ := M.own.pos (by omega)
  have hch := own_cell hl2 (ndcs_get M.a4 hnd (ndc_h nd))
  rw [hh] at hch
  have hB := M.blk
  have hhd : HdOK [fc, d] := .inr ⟨fc, d, rfl, hd1, hd2⟩
  obtain ⟨av, cv, rfl⟩ := hP.own.form
  refine ret_of Tryz.func106 rfl Tryz.ntmps106 rfl ?_
  refine c_seq (fun K1 hK1 => ?_)
  refine c_reg ?_ -- region 0 heapm.go:266
  refine wl (ro_assign rfl) ?_
  refine wl_nil (x_then (hK1 _ _ ?_))
  clear hK1 K1
  refine forget [(0, _), (1, _), (2, _)] ⟨rfl, rfl, rfl, trivial⟩ (fun e => ?_)
  refine c_seq (fun K2 hK2 => ?_)
  refine c_reg ?_ -- region 1 heapm.go:267
  refine wl (ro_move rfl) ?_
  refine wl (ro_move rfl) ?_
  refine wl_call rfl en_105 (Deref105 M hok.wf ha h64) ?_
  rintro _ w ⟨rfl, rfl⟩
  generalize deref hp a = x at *
  refine wl (ro_assign rfl) ?_
  refine wl_nil (x_then (hK2 _ _ ?_))
  clear hK2 K2
  refine forget [(0, _), (1, _), (2, _)] ⟨rfl, rfl, rfl, trivial⟩ (fun e => ?_)
  refine c_seq (fun K3 hK3 => ?_)
  refine c_reg ?_ -- region 2 heapm.go:268
  refine wl (ro_move rfl) ?_
  refine wl (ro_nilCheck rfl) ?_
  refine wl (ro_fieldAddr (k := 0) rfl fo_121_0) ?_
  refine wl (ro_loadB rfl sc_118 (by assumption) rfl) ?_
  refine wl (ro_move rfl) ?_
  refine wl (ro_indexAddr (et := 184) (k := 6) rfl rfl se_118 rfl (hdl)) ?_
  refine wl (ro_fieldAddr (k := 0) rfl fo_184_0) ?_
  refine wl (ro_loadB rfl sc_9 (hBl) ((by rw [show 0 + x * 6 + 0 = x * 6 + 0 by omega]; exact hch))) ?_
  refine wl (ro_assign rfl) ?_
  refine wl_nil (x_then (hK3 _ _ ?_))
  clear hK3 K3
  refine c_seq (fun K4 hK4 => ?_)
  refine c_seq (fun K5 hK5 => ?_)
  refine c_reg ?_ -- region 3 heapm.go:269
  refine wl (ro_move rfl) ?_
  refine wl (ro_eqS (r := false) rfl rfl rfl) ?_
  refine wl_nil (x_then (hK5 _ _ ?_))
  clear hK5 K5
  refine wc_condF rfl ?_
  refine c_piL 10 [(0, false), (1, false), (2, false), (3, false), (4, false), (5, false), (6, false), (7, false), (8, false), (9, false)] (SameH _) mixed (by kernel_rfl) rfl (by kernel_rfl) (po_then (po_bp)) (sameH_now _ _) ?_ -- region 10 heapm.go:279
  refine ql_ro rfl (fun w hS => ro_move rfl) ?_
  refine ql_ro rfl (fun w hS => ro_move rfl) ?_
  refine ql_ro rfl (fun w hS => ro_nilCheck rfl) ?_
  refine ql_ro rfl (fun w hS => ro_fieldAddr (k := 0) rfl fo_187_0) ?_
  refine ql_ro rfl (fun w hS => ro_loadB rfl sc_9 (Blk.of_heap hP.blk hS) (rfl)) ?_
  refine ql_ro rfl (fun w hS => ro_move rfl) ?_
  refine ql_ro rfl (fun w hS => (show RO _ _ _ _ _ (S [fc]) from ro_sliceSLH (s := [fc, d]) (l := 0) (h := 1) rfl rfl rfl st_9 rfl rfl (by omega) (by simp))) ?_
  refine ql_ro rfl (fun w hS => ro_catS rfl rfl (by simp; omega)) ?_
  refine ql_ro rfl (fun w hS => ro_nilCheck rfl) ?_
  refine ql_ro rfl (fun w hS => ro_fieldAddr (k := 0) rfl fo_187_0) ?_
  refine ql_last rfl (so_storeB rfl rfl rfl sz_9 (hP.blk) (by simp)) ?_
  obtain ⟨hP4, F4⟩ := mpen_out (out' := out ++ [fc]) (mpen_none hP (Fram.drew none' w (w.drawn + 1)))
  have F5 := (Fram.drew (fun b => base ≤ b) w (w.drawn + 1)).trans F4
  refine x_then (hK4 _ _ ?_)
  clear hK4 K4
  refine c_seq (fun K6 hK6 => ?_)
  refine c_seq (fun K7 hK7 => ?_)
  refine gen2 (A := fun w4 => MPen base pb (.slice av nm.length cv) (out ++ [fc]) nm w4) (B := fun w4 => Fram (fun b => base ≤ b) w w4) (C := fun w4 => WC _ _ _ _ w4) hP4 F5 ?_
  clear hP4 F5 F4
  intro w4 hP4 F4
  generalize kidsOf hp x = ks at *
  refine c_reg ?_ -- region 11 heapm.go:281
  refine wl (ro_assign rfl) ?_
  refine wl_nil (x_then (hK7 _ _ ?_))
  clear hK7 K7
  refine c_block ?_
  -- loop@r12: live slots [0, 1, 2, 7, 9]
  refine c_loopG (fun m a' w' => ∃ i V out1 nm1, m = ks.length - i ∧ i ≤ ks.length ∧ putK (putF f hp) (ks.drop i) (if i = 0 then 40 else 44) out1 nm1 = putK (putF f hp) ks 40 (out ++ [fc]) nm ∧ out.length + 1 ≤ out1.length ∧ out1.length ≤ 49 ∧ nm1.length ≤ out1.length ∧ MPen base pb V out1 nm1 w' ∧ Fram (fun b => base ≤ b) w w' ∧ ∃ e, a' = Fr 142 (upds e [(0, ptr hb), (1, ptr pb), (2, i64c x), (7, S [fc, d]), (9, i64c i)]) []) ks.length ⟨0, _, _, _, rfl, by omega, rfl, by simp, by simp; omega, by simp; omega, hP4, F4, kp _ ⟨rfl, rfl, rfl, rfl, rfl, trivial⟩⟩ ?_
  clear hP4 F4
  rintro m a' w5 ⟨i, V5, out1, nm1, rfl, hi, hinv, ho1, ho2, hn1, hP5, F5, e, rfl⟩
  obtain ⟨a5, cap5, rfl⟩ := hP5.own.form
  refine c_seq (fun K8 hK8 => ?_)
  refine c_seq (fun K9 hK9 => ?_)
  refine c_reg ?_ -- region 12 heapm.go:281
  refine wl (ro_move rfl) ?_
  refine wl (ro_move rfl) ?_
  refine wl_call rfl en_104 (arity104 hhd) ?_
  rintro _ w5 ⟨rfl, rfl⟩
  refine wl (ro_cmp rfl rfl rfl) ?_
  refine wl_nil (x_then (hK9 _ _ ?_))
  clear hK9 K9
  refine wc_cond rfl (fun hc84 => ?_) (fun hc84 => ?_)
  · try simp only [decide_eq_true_eq, decide_eq_false_iff_not, Bool.not_eq_true', Bool.not_eq_false', Bool.not_eq_eq_eq_not, Bool.not_true, Bool.not_false, beq_iff_eq, bne_iff_ne, ne_eq, beq_eq_false_iff_ne, bne_eq_false_iff_eq, gt_iff_lt, ge_iff_le, Int.not_lt, Int.not_le] at hc84
    have him : i < ks.length := by omega
    obtain ⟨z, hz⟩ : ∃ z, ks[i]? = some z := ⟨_, List.getElem?_eq_getElem him⟩
    have hza : nd.a[i]? = some z := by rw [hk3 i (by omega)]; exact hz
    have hca := own_cell hl2 (ndcs_get M.a4 hnd (ndc_a hza))
    have hdi : ks.drop i = z :: ks.drop (i + 1) := by
      rw [List.drop_eq_getElem_cons him, (List.getElem?_eq_some_iff.1 hz).2]
    rw [hdi] at hinv
    obtain ⟨sp, hsp⟩ : ∃ sp : UInt8, sp = if i = 0 then 40 else 44 := ⟨_, rfl⟩
    rw [← hsp] at hinv
    refine c_skip (x_then (hK8 _ _ ?_))
    clear hK8 K8
    refine forget [(0, _), (1, _), (2, _), (7, _), (9, _)] ⟨rfl, rfl, rfl, rfl, rfl, trivial⟩ (fun e => ?_)
    refine c_seq (fun K10 hK10 => ?_)
    refine c_block ?_
    refine c_mid (fun a' w' => MPen base pb (.slice a5 nm1.length cap5) (out1 ++ [sp]) nm1 w' ∧ Fram (fun b => base ≤ b) w w' ∧ ∃ e, a' = Fr 142 (upds e [(0, ptr hb), (1, ptr pb), (2, i64c x), (7, S [fc, d]), (9, i64c i)]) []) ?_ ?_
    · skip
      refine c_seq (fun K11 hK11 => ?_)
      refine c_reg ?_ -- region 14 heapm.go:282
      refine wl (ro_move rfl) ?_
      refine wl (ro_cmp (r := decide (i = 0)) rfl rfl (congrArg some (beqc i 0))) ?_
      refine wl_nil (x_then (hK11 _ _ ?_))
      clear hK11 K11
      refine wc_cond rfl (fun hc88 => ?_) (fun hc88 => ?_)
      · try simp only [decide_eq_true_eq, decide_eq_false_iff_not, Bool.not_eq_true', Bool.not_eq_false', Bool.not_eq_eq_eq_not, Bool.not_true, Bool.not_false, beq_iff_eq, bne_iff_ne, ne_eq, beq_eq_false_iff_ne, bne_eq_false_iff_eq, gt_iff_lt, ge_iff_le, Int.not_lt, Int.not_le] at hc88
        have hi0 : i = 0 := by simpa using hc88
        refine c_reg ?_ -- region 15 heapm.go:283
        refine wl (ro_move rfl) ?_
        refine wl (ro_move rfl) ?_
        refine wl (ro_nilCheck rfl) ?_
        refine wl (ro_fieldAddr (k := 0) rfl fo_187_0) ?_
        refine wl (ro_loadB rfl sc_9 (hP5.blk) (rfl)) ?_
        refine wl (ro_catS rfl rfl (by simp; omega)) ?_
        refine wl (ro_nilCheck rfl) ?_
        refine wl (ro_fieldAddr (k := 0) rfl fo_187_0) ?_
        refine wls (so_storeB rfl rfl rfl sz_9 (hP5.blk) (by simp)) ?_
        obtain ⟨hP7, F7⟩ := mpen_out (out' := out1 ++ [40]) hP5
        refine wl_nil (x_then ?_)
        have : sp = 40 := by rw [hsp, if_pos hi0]
        rw [this]
        exact ⟨hP7, F5.trans F7, kp _ ⟨rfl, rfl, rfl, rfl, rfl, trivial⟩⟩
      · try simp only [decide_eq_true_eq, decide_eq_false_iff_not, Bool.not_eq_true', Bool.not_eq_false', Bool.not_eq_eq_eq_not, Bool.not_true, Bool.not_false, beq_iff_eq, bne_iff_ne, ne_eq, beq_eq_false_iff_ne, bne_eq_false_iff_eq, gt_iff_lt, ge_iff_le, Int.not_lt, Int.not_le] at hc88
        have hi0 : ¬ i = 0 := by simpa using hc88
        refine c_reg ?_ -- region 16 heapm.go:285
        refine wl (ro_move rfl) ?_
        refine wl (ro_move rfl) ?_
        refine wl (ro_nilCheck rfl) ?_
        refine wl (ro_fieldAddr (k := 0) rfl fo_187_0) ?_
        refine wl (ro_loadB rfl sc_9 (hP5.blk) (rfl)) ?_
        refine wl (ro_catS rfl rfl (by simp; omega)) ?_
        refine wl (ro_nilCheck rfl) ?_
        refine wl (ro_fieldAddr (k := 0) rfl fo_187_0) ?_
        refine wls (so_storeB rfl rfl rfl sz_9 (hP5.blk) (by simp)) ?_
        obtain ⟨hP7, F7⟩ := mpen_out (out' := out1 ++ [44]) hP5
        refine wl_nil (x_then ?_)
        have : sp = 44 := by rw [hsp, if_neg hi0]
        rw [this]
        exact ⟨hP7, F5.trans F7, kp _ ⟨rfl, rfl, rfl, rfl, rfl, trivial⟩⟩
    clear hP5 F5
    rintro a' w6 ⟨hP7, F7, e, rfl⟩
    have M7 := mh_keep M hbase F7
    have hbs7 : base ≤ w6.heap.size := Nat.le_trans hbs F7.size
    have hB7 := M7.blk
    have hBl7 := hBl.fram F7 (fun h => by have := hbase g (.inr rfl); omega)
    refine c_seq (fun K12 hK12 => ?_)
    refine c_seq (fun K13 hK13 => ?_)
    refine c_reg ?_ -- region 17 heapm.go:287
    refine wl (ro_move rfl) ?_
    refine wl (ro_nilCheck rfl) ?_
    refine wl (ro_fieldAddr (k := 0) rfl fo_187_0) ?_
    refine wl (ro_loadB rfl sc_9 (hP7.blk) (rfl)) ?_
    refine wl (ro_lenS rfl st_9) ?_
    refine wl (ro_cmp rfl rfl rfl) ?_
    refine wl_nil (x_then (hK13 _ _ ?_))
    clear hK13 K13
    refine wc_cond rfl (fun hc110 => ?_) (fun hc110 => ?_)
    · try simp only [decide_eq_true_eq, decide_eq_false_iff_not, Bool.not_eq_true', Bool.not_eq_false', Bool.not_eq_eq_eq_not, Bool.not_true, Bool.not_false, beq_iff_eq, bne_iff_ne, ne_eq, beq_eq_false_iff_ne, bne_eq_false_iff_eq, gt_iff_lt, ge_iff_le, Int.not_lt, Int.not_le] at hc110
      have hbig : 48 < out1.length + 1 := by simp only [List.length_append, List.length_singleton] at hc110; omega
      simp only [putK, hbig, if_true] at hinv
      refine c_seq (fun K14 hK14 => ?_)
      refine c_reg ?_ -- region 18 heapm.go:288
      refine wl (ro_assign rfl) ?_
      refine wl_nil (x_then (hK14 _ _ ?_))
      clear hK14 K14
      refine c_ret (x_thenR (x_blkR (x_thenR (x_thenR (x_blkR (x_thenR ?_))))))
      refine bp_ret Tryz.results106 rfl ?_
      rw [← hinv]
      exact ⟨rfl, _, hP7, F7⟩
    · try simp only [decide_eq_true_eq, decide_eq_false_iff_not, Bool.not_eq_true', Bool.not_eq_false', Bool.not_eq_eq_eq_not, Bool.not_true, Bool.not_false, beq_iff_eq, bne_iff_ne, ne_eq, beq_eq_false_iff_ne, bne_eq_false_iff_eq, gt_iff_lt, ge_iff_le, Int.not_lt, Int.not_le] at hc110
      have hbig : ¬ 48 < out1.length + 1 := by simp only [List.length_append, List.length_singleton] at hc110; omega
      simp only [putK, hbig, if_false] at hinv
      refine c_skip (x_then (hK12 _ _ ?_))
      clear hK12 K12
      refine forget [(0, _), (1, _), (2, _), (7, _), (9, _)] ⟨rfl, rfl, rfl, rfl, rfl, trivial⟩ (fun e => ?_)
      refine c_seq (fun K15 hK15 => ?_)
      refine c_reg ?_ -- region 19 heapm.go:290
      refine wl (ro_move rfl) ?_
      refine wl (ro_move rfl) ?_
      refine wl (ro_move rfl) ?_
      refine wl (ro_nilCheck rfl) ?_
      refine wl (ro_fieldAddr (k := 0) rfl fo_121_0) ?_
      refine wl (ro_loadB rfl sc_118 (by assumption) rfl) ?_
      refine wl (ro_move rfl) ?_
      refine wl (ro_move rfl) ?_
      refine wl (ro_indexAddr (et := 184) (k := 6) rfl rfl se_118 rfl (hdl)) ?_
      refine wl (ro_fieldAddr (k := 2) rfl fo_184_2) ?_
      refine wl (ro_indexAddrA (et := 3) (k := 1) rfl rfl ar_182 rfl ((by omega))) ?_
      refine wl (ro_loadB rfl sc_3 (hBl7) ((by rw [show 0 + x * 6 + 2 + i * 1 = x * 6 + (2 + i) by omega]; exact hca))) ?_
      refine wl_call rfl en_106 (IH w6 _ (out1 ++ [sp]) nm1 z M7 hbs7 hP7 (by simp; omega) (by simp; omega) (by simp; omega) (hkb z (List.mem_of_getElem? hz))) ?_
      rintro _ w8 ⟨rfl, V8, hP8, F8⟩
      obtain ⟨g1, g2, g3⟩ := putF_grows f hp z (out1 ++ [sp]) nm1
      simp only [List.length_append, List.length_singleton] at g1 g2
      refine wl (ro_not rfl) ?_
      refine wl_nil (x_then (hK15 _ _ ?_))
      clear hK15 K15
      refine wc_cond rfl (fun hc124 => ?_) (fun hc124 => ?_)
      · try simp only [decide_eq_true_eq, decide_eq_false_iff_not, Bool.not_eq_true', Bool.not_eq_false', Bool.not_eq_eq_eq_not, Bool.not_true, Bool.not_false, beq_iff_eq, bne_iff_ne, ne_eq, beq_eq_false_iff_ne, bne_eq_false_iff_eq, gt_iff_lt, ge_iff_le, Int.not_lt, Int.not_le] at hc124
        have hno : (putF f hp z (out1 ++ [sp]) nm1).1 = false := by simpa using hc124
        rw [hno] at hinv
        simp only [Bool.false_eq_true, if_false] at hinv
        refine c_seq (fun K16 hK16 => ?_)
        refine c_reg ?_ -- region 20 heapm.go:291
        refine wl (ro_assign rfl) ?_
        refine wl_nil (x_then (hK16 _ _ ?_))
        clear hK16 K16
        refine c_ret (x_blkR (x_thenR (x_thenR (x_blkR (x_thenR ?_)))))
        refine bp_ret Tryz.results106 rfl ?_
        rw [← hinv]
        exact ⟨rfl, _, hP8, F7.trans F8⟩
      · try simp only [decide_eq_true_eq, decide_eq_false_iff_not, Bool.not_eq_true', Bool.not_eq_false', Bool.not_eq_eq_eq_not, Bool.not_true, Bool.not_false, beq_iff_eq, bne_iff_ne, ne_eq, beq_eq_false_iff_ne, bne_eq_false_iff_eq, gt_iff_lt, ge_iff_le, Int.not_lt, Int.not_le] at hc124
        have hyes : (putF f hp z (out1 ++ [sp]) nm1).1 = true := by simpa using hc124
        rw [hyes] at hinv
        simp only [if_true] at hinv
        refine c_skip (x_blk (x_then (hK10 _ _ ?_)))
        clear hK10 K10
        refine c_reg ?_ -- region 13 heapm.go:281
        refine wl (ro_move rfl) ?_
        refine wl (ro_arith rfl rfl rfl (Go.IntWalk.i64_in _ (by omega))) ?_
        refine wl (ro_assign rfl) ?_
        refine wl_nil (x_then ?_)
        refine ⟨ks.length - (i + 1), by omega, i + 1, V8, _, _, rfl, by omega, by rw [if_neg (by omega)]; exact hinv, by omega, by have := g3 hyes; omega, g2 (by omega), hP8, F7.trans F8, kp _ ⟨rfl, rfl, rfl, rfl, rfl, trivial⟩⟩
  · try simp only [decide_eq_true_eq, decide_eq_false_iff_not, Bool.not_eq_true', Bool.not_eq_false', Bool.not_eq_eq_eq_not, Bool.not_true, Bool.not_false, beq_iff_eq, bne_iff_ne, ne_eq, beq_eq_false_iff_ne, bne_eq_false_iff_eq, gt_iff_lt, ge_iff_le, Int.not_lt, Int.not_le] at hc84
    have him : i = ks.length := by omega
    subst him
    rw [List.drop_length] at hinv
    simp only [putK] at hinv
    refine c_exit (x_thenX (x_thenX (x_blkX (x_then (hK6 _ _ ?_)))))
    clear hK8 K8 hK6 K6
    refine c_seq (fun K17 hK17 => ?_)
    refine c_seq (fun K18 hK18 => ?_)
    refine c_reg ?_ -- region 21 heapm.go:294
    refine wl (ro_move rfl) ?_
    refine wl_call rfl en_104 (arity104 hhd) ?_
    rintro _ w5 ⟨rfl, rfl⟩
    refine wl (ro_cmp rfl rfl rfl) ?_
    refine wl_nil (x_then (hK18 _ _ ?_))
    clear hK18 K18
    refine wc_cond rfl (fun hc127 => ?_) (fun hc127 => ?_)
    · try simp only [decide_eq_true_eq, decide_eq_false_iff_not, Bool.not_eq_true', Bool.not_eq_false', Bool.not_eq_eq_eq_not, Bool.not_true, Bool.not_false, beq_iff_eq, bne_iff_ne, ne_eq, beq_eq_false_iff_ne, bne_eq_false_iff_eq, gt_iff_lt, ge_iff_le, Int.not_lt, Int.not_le] at hc127
      have hne : ks.isEmpty = false := by cases ks with | nil => simp at hk1 hc127; omega | cons a b => rfl
      refine c_reg ?_ -- region 22 heapm.go:295
      refine wl (ro_move rfl) ?_
      refine wl (ro_move rfl) ?_
      refine wl (ro_nilCheck rfl) ?_
      refine wl (ro_fieldAddr (k := 0) rfl fo_187_0) ?_
      refine wl (ro_loadB rfl sc_9 (hP5.blk) (rfl)) ?_
      refine wl (ro_catS rfl rfl (by simp; omega)) ?_
      refine wl (ro_nilCheck rfl) ?_
      refine wl (ro_fieldAddr (k := 0) rfl fo_187_0) ?_
      refine wls (so_storeB rfl rfl rfl sz_9 (hP5.blk) (by simp)) ?_
      obtain ⟨hP7, F7⟩ := mpen_out (out' := out1 ++ [41]) hP5
      refine wl_nil (x_then (hK17 _ _ ?_))
      clear hK17 K17
      refine forget [(1, _)] ⟨rfl, trivial⟩ (fun e => ?_)
      refine c_seq (fun K19 hK19 => ?_)
      refine c_reg ?_ -- region 23 heapm.go:297
      refine wl (ro_move rfl) ?_
      refine wl (ro_nilCheck rfl) ?_
      refine wl (ro_fieldAddr (k := 0) rfl fo_187_0) ?_
      refine wl (ro_loadB rfl sc_9 (hP7.blk) (rfl)) ?_
      refine wl (ro_lenS rfl st_9) ?_
      refine wl (ro_cmp rfl rfl rfl) ?_
      refine wl (ro_assign rfl) ?_
      refine wl_nil (x_then (hK19 _ _ ?_))
      clear hK19 K19
      refine c_ret ?_
      refine bp_ret Tryz.results106 rfl ?_
      rw [← hinv, hne]
      refine ⟨congrArg Value.bool ?_, _, hP7, F5.trans F7⟩
      show decide (((out1 ++ [41]).length : Int) ≤ 48) = decide ((out1 ++ [41]).length ≤ 48)
      simp only [decide_eq_decide]
      omega
    · try simp only [decide_eq_true_eq, decide_eq_false_iff_not, Bool.not_eq_true', Bool.not_eq_false', Bool.not_eq_eq_eq_not, Bool.not_true, Bool.not_false, beq_iff_eq, bne_iff_ne, ne_eq, beq_eq_false_iff_ne, bne_eq_false_iff_eq, gt_iff_lt, ge_iff_le, Int.not_lt, Int.not_le] at hc127
      have hne : ks.isEmpty = true := by cases ks with | nil => rfl | cons a b => simp at hk1 hc127; omega
      refine c_skip (x_then (hK17 _ _ ?_))
      clear hK17 K17
      refine forget [(1, _)] ⟨rfl, trivial⟩ (fun e => ?_)
      refine c_seq (fun K20 hK20 => ?_)
      refine c_reg ?_ -- region 23 heapm.go:297
      refine wl (ro_move rfl) ?_
      refine wl (ro_nilCheck rfl) ?_
      refine wl (ro_fieldAddr (k := 0) rfl fo_187_0) ?_
      refine wl (ro_loadB rfl sc_9 (hP5.blk) (rfl)) ?_
      refine wl (ro_lenS rfl st_9) ?_
      refine wl (ro_cmp rfl rfl rfl) ?_
      refine wl (ro_assign rfl) ?_
      refine wl_nil (x_then (hK20 _ _ ?_))
      clear hK20 K20
      refine c_ret ?_
      refine bp_ret Tryz.results106 rfl ?_
      rw [← hinv, hne]
      refine ⟨congrArg Value.bool ?_, _, hP5, F5⟩
      simp only [fin, if_true, decide_eq_decide]
      omega

theorem put106 {hb : Nat} {VH : Value} {hp : List Nd} (hok : HOK hp) {base pb : Nat} (hbase : ∀ b, MFoot hb VH b → b < base) : ∀ f, PutM hb VH hp base pb f
  | 0 => fun w V out nm a M hbs hP hout hf _ _ => by omega
  | f + 1 => fun w V out nm a M hbs hP hout hf hnm ha => by
    have hdl := deref_lt hok.wf ha
    obtain ⟨nd, hnd⟩ : ∃ nd, hp[deref hp a]? = some nd := ⟨_, List.getElem?_eq_getElem hdl⟩
    by_cases h0 : nd.h = []
    · exact put106v hok hbase M hbs hP hout hnm ha hnd h0
    · exact put106s hok hbase (put106 hok hbase f) M hbs hP hout hf hnm ha hnd h0

theorem Write63 {w : World} {hb : Nat} {V : Value} {hp : List Nd} (M : MH w.heap hb V hp) (hok : HOK hp) {a : Nat} (ha : a < hp.length) :
    Ret Tryz.prog 63 [ptr hb, i64c a] w (fun r w' => r = wrV hp a ∧ Fram none' w w') := by
  have h64 := hok.cap
  have hB := M.blk
  have hbase : ∀ b, MFoot hb V b → b < w.heap.size := by
    rintro b (rfl | h)
    · exact M.blk.lt
    · exact M.own.lt h
  obtain ⟨a0, cap0, rfl⟩ := M.own.form
  refine ret_of Tryz.func63 rfl Tryz.ntmps63 rfl ?_
  refine c_seq (fun K1 hK1 => ?_)
  refine c_reg ?_ -- region 0 heapm.go:254
  refine wl (ro_assign rfl) ?_
  refine wl (ro_assign rfl) ?_
  refine wl_nil (x_then (hK1 _ _ ?_))
  clear hK1 K1
  refine c_seq (fun K2 hK2 => ?_)
  refine c_seq (fun K3 hK3 => ?_)
  refine c_reg ?_ -- region 1 heapm.go:255
  refine wl (ro_move rfl) ?_
  refine wl (ro_cmp (r := false) rfl rfl (by simp)) ?_
  refine wl (ro_move rfl) ?_
  refine wlg_yes rfl (ro_move rfl) ?_
  refine wlg_yes rfl (ro_move rfl) ?_
  refine wlg_yes rfl (ro_nilCheck rfl) ?_
  refine wlg_yes rfl (ro_fieldAddr (k := 0) rfl fo_121_0) ?_
  refine wlg_yes rfl (ro_loadB rfl sc_118 (by assumption) rfl) ?_
  refine wlg_yes rfl (ro_lenL rfl se_118) ?_
  refine wlg_yes rfl (ro_cmp (r := false) rfl rfl (by simp; omega)) ?_
  refine wl (ro_pick rfl rfl rfl) ?_
  refine wl_nil (x_then (hK3 _ _ ?_))
  clear hK3 K3
  refine wc_condF rfl ?_
  refine c_skip (x_then (hK2 _ _ ?_))
  clear hK2 K2
  refine forget [(0, _), (1, _)] ⟨rfl, rfl, trivial⟩ (fun e => ?_)
  refine c_seq (fun K4 hK4 => ?_)
  refine c_reg ?_ -- region 3 heapm.go:258
  refine wl (ro_build rfl bld_187) ?_
  refine wle (eo_box rfl rfl) ?_
  have F1 := Fram.alloc none' w (.cells [S [], .slice none 0 0].toArray 187)
  have hP : MPen w.heap.size w.heap.size (.slice none 0 0) [] [] _ := ⟨Blk.new w [S [], .slice none 0 0] 187, Own.nil _ _ _, (fun b hb' => by cases hb'), Nat.le_refl _⟩
  refine gen2 (A := fun w1 => MPen w.heap.size w.heap.size (.slice none 0 0) [] [] w1) (B := fun w1 => Fram none' w w1) (C := fun w1 => WL _ _ _ _ _ w1) hP F1 ?_
  clear hP F1
  intro w1 hP F1
  have M1 := M.none F1
  refine wl (ro_assign rfl) ?_
  refine wl_nil (x_then (hK4 _ _ ?_))
  clear hK4 K4
  refine c_seq (fun K5 hK5 => ?_)
  refine c_seq (fun K6 hK6 => ?_)
  refine c_reg ?_ -- region 4 heapm.go:259
  refine wl (ro_move rfl) ?_
  refine wl (ro_move rfl) ?_
  refine wl (ro_move rfl) ?_
  refine wl_call rfl en_106 (put106 hok hbase 49 w1 _ [] [] a M1 F1.size hP (by simp) (by simp) (by simp) ha) ?_
  rintro _ w2 ⟨rfl, V2, hP2, F2⟩
  have F3 : Fram none' w w2 := F1.trans' F2 (fun k hk h => by omega)
  refine wl (ro_not rfl) ?_
  refine wl_nil (x_then (hK6 _ _ ?_))
  clear hK6 K6
  refine wc_cond rfl (fun hc24 => ?_) (fun hc24 => ?_)
  · try simp only [decide_eq_true_eq, decide_eq_false_iff_not, Bool.not_eq_true', Bool.not_eq_false', Bool.not_eq_eq_eq_not, Bool.not_true, Bool.not_false, beq_iff_eq, bne_iff_ne, ne_eq, beq_eq_false_iff_ne, bne_eq_false_iff_eq, gt_iff_lt, ge_iff_le, Int.not_lt, Int.not_le] at hc24
    have hno : (putF 49 hp a [] []).1 = false := by simpa using hc24
    refine c_seq (fun K7 hK7 => ?_)
    refine c_reg ?_ -- region 5 heapm.go:260
    refine wl (ro_assign rfl) ?_
    refine wl (ro_assign rfl) ?_
    refine wl_nil (x_then (hK7 _ _ ?_))
    clear hK7 K7
    refine c_ret (x_thenR ?_)
    refine bp_ret Tryz.results63 rfl ?_
    exact ⟨by unfold wrV; rw [hno]; rfl, F3⟩
  · try simp only [decide_eq_true_eq, decide_eq_false_iff_not, Bool.not_eq_true', Bool.not_eq_false', Bool.not_eq_eq_eq_not, Bool.not_true, Bool.not_false, beq_iff_eq, bne_iff_ne, ne_eq, beq_eq_false_iff_ne, bne_eq_false_iff_eq, gt_iff_lt, ge_iff_le, Int.not_lt, Int.not_le] at hc24
    have hyes : (putF 49 hp a [] []).1 = true := by simpa using hc24
    refine c_skip (x_then (hK5 _ _ ?_))
    clear hK5 K5
    refine forget [(6, _)] ⟨rfl, trivial⟩ (fun e => ?_)
    refine c_seq (fun K8 hK8 => ?_)
    refine c_reg ?_ -- region 6 heapm.go:262
    refine wl (ro_move rfl) ?_
    refine wl (ro_nilCheck rfl) ?_
    refine wl (ro_fieldAddr (k := 0) rfl fo_187_0) ?_
    refine wl (ro_loadB rfl sc_9 (hP2.blk) (rfl)) ?_
    refine wl (ro_assign rfl) ?_
    refine wl (ro_assign rfl) ?_
    refine wl_nil (x_then (hK8 _ _ ?_))
    clear hK8 K8
    refine c_ret ?_
    refine bp_ret Tryz.results63 rfl ?_
    exact ⟨by unfold wrV; rw [if_pos hyes]; rfl, F3⟩

end Go.Proofs.Qxb6500569aGreat
