import Derived.Test.Qxb6500567aGreatOb
/- One step in the world. -/
namespace Go.Proofs.Qxb6500567aGreat
set_option linter.unusedVariables false
set_option linter.unusedSimpArgs false

theorem txc_len (t : List UInt8) : (txc t).length = 1 := rfl

set_option maxHeartbeats 16000000 in
theorem step31 {w0 w : World} {wb N : Nat} (I : TWI w0 w wb N) (hN : N ≤ 1073741824) (k A B C : Int) (s t : List UInt8) (hA1 : -9223372036854775808 ≤ A) (hA2 : A ≤ 9223372036854775807) (hB1 : -9223372036854775808 ≤ B) (hB2 : B ≤ 9223372036854775807) (hC1 : -9223372036854775808 ≤ C) (hC2 : C ≤ 9223372036854775807) (hsm : s.length ≤ 9223372036854775807) (htm2 : t.length ≤ 9223372036854775807) :
    Ret Tryz.prog 31 [ptr wb, .agg [.int .i64 k, .int .i64 A, .int .i64 B, .int .i64 C, S s, S t].toArray] w (fun r w' => r = .bool true ∧ TWI w0 w' wb (N + 1)) := by
  obtain ⟨VX, VM, VA, VC, tm, rg, ts, As, Cs, hB, W, hwb, htm, hZ⟩ := I
  obtain ⟨aX, cX, rfl⟩ := W.ox.form
  obtain ⟨aM, cM, rfl⟩ := W.om.form
  obtain ⟨aA, cA, rfl⟩ := W.oa.form
  obtain ⟨aC, cC, rfl⟩ := W.oc.form
  have hF : Fram (one wb) w w := Fram.refl _ _
  have hE : Fram none' w w := Fram.refl _ _
  have hB0 := hB
  have hz0 := hZ.size
  have hblt := hB.lt
  have own76 : ∀ {v : Value} {e q n : Nat} {xs : List Value}, Own w.heap v e q n xs → e ≠ 76 → ∀ g, own1 v g → g ≠ wb := fun ho he g hg e => by
    obtain ⟨l, hl⟩ := own_ty ho hg
    subst e
    exact he (hl.uniq hB0).2
  have rlt := W.lt
  have rln := W.ln
  have rlm := W.lm
  refine ret_of Tryz.func31 rfl Tryz.ntmps31 rfl ?_
  refine c_seq (fun K1 hK1 => ?_)
  refine c_reg ?_ -- region 0 law.go:142
  refine wl_box (cs := [.int .i64 k, .int .i64 A, .int .i64 B, .int .i64 C, S s, S t]) rfl rfl (fun ob w1 hbob hO F1 => ?_)
  have hbsob := Nat.le_trans hF.size hbob
  have hbsob := Nat.le_trans hE.size hbob
  have hnewbob : wb < ob := Nat.lt_of_lt_of_le hB.lt hbob
  replace hF := hF.thenDrew.thenN F1
  replace hE := hE.thenDrew.thenN F1
  replace hB := F1.blkN hB
  refine wl (ro_assign rfl) ?_
  refine wl_nil (x_then (hK1 _ _ ?_))
  clear hK1 K1
  refine c_seq (fun K2 hK2 => ?_)
  refine c_seq (fun K3 hK3 => ?_)
  refine c_reg ?_ -- region 1 law.go:143
  refine wl (ro_fieldAddr (k := 0) rfl fo_69_0) ?_
  refine wl (ro_loadB rfl sc_3 (hO) (rfl)) ?_
  refine wl_nil (x_then (hK3 _ _ ?_))
  clear hK3 K3
  refine c_block ?_
  refine forget [(0, _), (3, _), (24, _)] ⟨rfl, rfl, rfl, trivial⟩ (fun e => ?_)
  refine c_seq (fun K4 hK4 => ?_)
  refine c_reg ?_ -- region 2 law.go:144
  refine wl (ro_cmp (r := decide (k = 1)) rfl rfl (congrArg some (by first | rfl | simp))) ?_
  refine wl (ro_assign rfl) ?_
  refine wl_nil (x_then (hK4 _ _ ?_))
  clear hK4 K4
  refine wc_cond rfl (fun hc25 => ?_) (fun hc25 => ?_)
  · try simp only [decide_eq_true_eq, decide_eq_false_iff_not, Bool.not_eq_true', Bool.not_eq_false', Bool.not_eq_eq_eq_not, Bool.not_true, Bool.not_false, beq_iff_eq, bne_iff_ne, ne_eq, beq_eq_false_iff_ne, bne_eq_false_iff_eq, gt_iff_lt, ge_iff_le, Int.not_lt, Int.not_le] at hc25
    refine c_seq (fun K5 hK5 => ?_)
    refine c_reg ?_ -- region 3 law.go:145
    refine wl_call rfl en_6 (New6) ?_
    rintro _ u2 ⟨K, rfl, hxb, hKo, X, F2⟩
    have hEs1 := hE.size
    replace hE := hE.transG F2 (by intro k hk h; simp only [one, two, none'] at h ⊢ <;> omega)
    replace hB := F2.blkF hB (by intro h; simp only [one, two, none'] at h <;> omega)
    replace hO := F2.blkF hO (by intro h; simp only [one, two, none'] at h <;> omega)
    have hs2 := F2.size
    have hKp := X.lt hKo K.ps (.inr (.inr (.inl rfl)))
    refine wl (ro_assign rfl) ?_
    refine wl_nil (x_then (hK5 _ _ ?_))
    clear hK5 K5
    refine forget [(0, _), (5, _)] ⟨rfl, rfl, trivial⟩ (fun e => ?_)
    refine c_seq (fun K6 hK6 => ?_)
    refine c_reg ?_ -- region 4 law.go:146
    refine wl_call rfl en_5 (New5) ?_
    rintro _ u3 ⟨gb, E, rfl, hpb, M, F3⟩
    replace hE := hE.transG F3 (by intro k hk h; simp only [one, two, none'] at h ⊢ <;> omega)
    replace hB := F3.blkF hB (by intro h; simp only [one, two, none'] at h <;> omega)
    replace hO := F3.blkF hO (by intro h; simp only [one, two, none'] at h <;> omega)
    have hs3 := F3.size
    have hKT : PT u3 ⟨K, gb, E⟩ (N + 1) := (Pr.mk2 (X.framN (d := World.drawn _) F3) M hKo (by omega)).up (by omega) (by omega)
    have hKlo : ∀ b, tws ⟨K, gb, E⟩ b → w.heap.size ≤ b := by
      have hEs := hE.size
      intro b hb
      rcases hb with hb | rfl | hb
      · have := hKo.lo hb
        show w.heap.size ≤ b
        have : w1.heap.size ≤ K.E.B.xb := hxb
        omega
      · have := M.mlo E.pb (.inr (.inl rfl)); omega
      · have := M.mlo b hb; omega
    have W3 := (W.framN (d := w.drawn) hE).up (Nat.le_succ N)
    have hB3 := hB
    refine wl (ro_assign rfl) ?_
    refine wl_nil (x_then (hK6 _ _ ?_))
    clear hK6 K6
    refine forget [(0, _), (5, _), (6, _)] ⟨rfl, rfl, rfl, trivial⟩ (fun e => ?_)
    refine c_seq (fun K7 hK7 => ?_)
    refine c_reg ?_ -- region 5 law.go:147
    refine wl (ro_move rfl) ?_
    refine wl (ro_move rfl) ?_
    refine wl (ro_nilCheck rfl) ?_
    refine wl (ro_fieldAddr (k := 0) rfl fo_76_0) ?_
    refine wl (ro_loadB rfl sc_71 (hB) (rfl)) ?_
    refine wl (ro_move rfl) ?_
    skip
    refine wl_bsapp (cs := [ptr K.fb]) rfl rfl rfl rfl se_71 zx_24 by_24 rfl rfl rfl (by simp [ptr, Value.oneCell']) W3.ox (by omega) (by omega) (fun VX' u9 hon9 F9 hnb9 ↦ ?_)
    replace hB := F9.blkF hB (fun h => W3.ox.neblk hB3 (by decide) wb h rfl)
    have hom9 := W3.om.fram F9 (fun b hb h => by
      obtain ⟨l1, hl1⟩ := own_ty W3.om hb
      obtain ⟨l2, hl2⟩ := own_ty W3.ox h
      exact absurd (hl1.uniq hl2).2 (by decide))
    have hF9 : Fram (fun b => b = wb ∨ own1 (.slice aX ts.length cX) b ∨ own1 (.slice aM ts.length cM) b) u3 u9 := F9.mono (fun b _ h => .inr (.inl h))
    have hs9 := F9.size
    have hB9 := hB
    obtain ⟨aX9, cX9, rfl⟩ := hon9.form
    refine wl (ro_nilCheck rfl) ?_
    refine wl (ro_fieldAddr (k := 0) rfl fo_76_0) ?_
    refine wl_put rfl rfl rfl sz_71 hB ((by simp)) (rfl) (fun w2 hB F2 => ?_)
    replace hF9 := hF9.trans' F2 (fun b _ h ↦ .inl h)
    replace hom9 := hom9.fram F2 (fun b hb h => hom9.neblk hB9 (by decide) b hb h)
    replace hon9 := hon9.fram F2 (fun b hb h => hon9.neblk hB9 (by decide) b hb h)
    have hs10 := Fram.size F2
    refine wl_nil (x_then (hK7 _ _ ?_))
    clear hK7 K7
    refine forget [(0, _), (6, _)] ⟨rfl, rfl, trivial⟩ (fun e => ?_)
    refine c_seq (fun K8 hK8 => ?_)
    refine c_reg ?_ -- region 6 law.go:148
    refine wl (ro_move rfl) ?_
    refine wl (ro_move rfl) ?_
    refine wl (ro_nilCheck rfl) ?_
    refine wl (ro_fieldAddr (k := 1) rfl fo_76_1) ?_
    refine wl (ro_loadB rfl sc_72 (hB) (rfl)) ?_
    refine wl (ro_move rfl) ?_
    skip
    refine wl_bsapp (cs := [ptr gb]) rfl rfl rfl rfl se_72 zx_22 by_22 rfl rfl rfl (by simp [ptr, Value.oneCell']) hom9 (by omega) (by omega) (fun VM' u11 hon11 F11 hnb11 ↦ ?_)
    replace hF9 := hF9.trans' F11 (fun b _ h ↦ .inr (.inr h))
    replace hon9 := hon9.fram F11 (fun b hb h => by
      obtain ⟨l1, hl1⟩ := own_ty hon9 hb
      obtain ⟨l2, hl2⟩ := own_ty hom9 h
      exact absurd (hl1.uniq hl2).2 (by decide))
    replace hB := F11.blkF hB (fun h => hom9.neblk hB (by decide) wb h rfl)
    have hB11 := hB
    obtain ⟨aM11, cM11, rfl⟩ := hon11.form
    refine wl (ro_nilCheck rfl) ?_
    refine wl (ro_fieldAddr (k := 1) rfl fo_76_1) ?_
    refine wl_put rfl rfl rfl sz_72 hB ((by simp)) (rfl) (fun w3 hB F3 => ?_)
    replace hF9 := hF9.trans' F3 (fun b _ h ↦ .inl h)
    replace hon11 := hon11.fram F3 (fun b hb h => hon11.neblk hB11 (by decide) b hb h)
    replace hon9 := hon9.fram F3 (fun b hb h => hon9.neblk hB11 (by decide) b hb h)
    refine wl_nil (x_then (hK8 _ _ ?_))
    clear hK8 K8
    refine forget [] trivial (fun e => ?_)
    refine c_seq (fun K9 hK9 => ?_)
    refine c_reg ?_ -- region 7 law.go:149
    refine wl (ro_assign rfl) ?_
    refine wl_nil (x_then (hK9 _ _ ?_))
    clear hK9 K9
    refine c_ret (x_blkR (x_thenR ?_))
    refine bp_ret Tryz.results31 rfl ?_
    have W12 := W3.moreT (d := u3.drawn) (t := ⟨K, gb, E⟩) hon9 hon11 hnb9 (fun b hb => (hnb11 b hb).imp_right (fun h => by omega)) hB3 hF9 (by omega) (by omega) hKT (fun b hb => by have := hKlo b hb; omega) (fun i u b hu hb hb' => by have := (W.tw i u hu).ltT hb; have := hKlo b hb'; omega) (fun j a ha => by
        have := W.ltA ha
        exact ⟨fun hb' => by have := hKlo _ hb'; omega, fun hb' => by have := hKlo _ hb'; omega⟩)
    exact ⟨rfl, _, _, _, _, tm, rg, _, _, _, hB, W12, hwb, htm, (hZ.trans hE).trans' hF9 (fun b hb h => by
      rcases h with rfl | h | h
      · omega
      · have := W.zx b h; omega
      · have := W.zm b h; omega)⟩
  · try simp only [decide_eq_true_eq, decide_eq_false_iff_not, Bool.not_eq_true', Bool.not_eq_false', Bool.not_eq_eq_eq_not, Bool.not_true, Bool.not_false, beq_iff_eq, bne_iff_ne, ne_eq, beq_eq_false_iff_ne, bne_eq_false_iff_eq, gt_iff_lt, ge_iff_le, Int.not_lt, Int.not_le] at hc25
    refine c_seq (fun K10 hK10 => ?_)
    refine c_reg ?_ -- region 8 law.go:150
    refine wl (ro_cmp (r := decide (k = 2)) rfl rfl (congrArg some (by first | rfl | simp))) ?_
    refine wl (ro_assign rfl) ?_
    refine wl_nil (x_then (hK10 _ _ ?_))
    clear hK10 K10
    refine wc_cond rfl (fun hc49 => ?_) (fun hc49 => ?_)
    · try simp only [decide_eq_true_eq, decide_eq_false_iff_not, Bool.not_eq_true', Bool.not_eq_false', Bool.not_eq_eq_eq_not, Bool.not_true, Bool.not_false, beq_iff_eq, bne_iff_ne, ne_eq, beq_eq_false_iff_ne, bne_eq_false_iff_eq, gt_iff_lt, ge_iff_le, Int.not_lt, Int.not_le] at hc49
      refine c_seq (fun K11 hK11 => ?_)
      refine c_reg ?_ -- region 9 law.go:151
      refine wl (ro_move rfl) ?_
      refine wl (ro_fieldAddr (k := 4) rfl fo_69_4) ?_
      refine wl (ro_loadB rfl sc_9 (hO) (rfl)) ?_
      refine wl (ro_nilCheck rfl) ?_
      refine wl (ro_fieldAddr (k := 2) rfl fo_76_2) ?_
      refine wl_put rfl rfl rfl sz_9 hB ((by simp)) (rfl) (fun w4 hB F4 => ?_)
      replace hF := hF.thenDrew.thenO F4 (by first | exact .inr (by omega) | exact .inl rfl | exact .inl (by assumption))
      replace hO := F4.blkO hO (by omega)
      refine wl_nil (x_then (hK11 _ _ ?_))
      clear hK11 K11
      refine forget [] trivial (fun e => ?_)
      refine c_seq (fun K12 hK12 => ?_)
      refine c_reg ?_ -- region 10 law.go:152
      refine wl (ro_assign rfl) ?_
      refine wl_nil (x_then (hK12 _ _ ?_))
      clear hK12 K12
      refine c_ret (x_blkR (x_thenR ?_))
      refine bp_ret Tryz.results31 rfl ?_
      exact ⟨rfl, _, _, _, _, s, rg, _, _, _, hB, (W.own (d := w.drawn) hB0 hF).up (Nat.le_succ N), hwb, hsm, hZ.trans' hF (fun b hb h => by have h' : b = wb := h; omega)⟩
    · try simp only [decide_eq_true_eq, decide_eq_false_iff_not, Bool.not_eq_true', Bool.not_eq_false', Bool.not_eq_eq_eq_not, Bool.not_true, Bool.not_false, beq_iff_eq, bne_iff_ne, ne_eq, beq_eq_false_iff_ne, bne_eq_false_iff_eq, gt_iff_lt, ge_iff_le, Int.not_lt, Int.not_le] at hc49
      refine c_seq (fun K13 hK13 => ?_)
      refine c_reg ?_ -- region 11 law.go:153
      refine wl (ro_cmp (r := decide (k = 10)) rfl rfl (congrArg some (by first | rfl | simp))) ?_
      refine wl (ro_assign rfl) ?_
      refine wl_nil (x_then (hK13 _ _ ?_))
      clear hK13 K13
      refine wc_cond rfl (fun hc56 => ?_) (fun hc56 => ?_)
      · try simp only [decide_eq_true_eq, decide_eq_false_iff_not, Bool.not_eq_true', Bool.not_eq_false', Bool.not_eq_eq_eq_not, Bool.not_true, Bool.not_false, beq_iff_eq, bne_iff_ne, ne_eq, beq_eq_false_iff_ne, bne_eq_false_iff_eq, gt_iff_lt, ge_iff_le, Int.not_lt, Int.not_le] at hc56
        refine c_seq (fun K14 hK14 => ?_)
        refine c_reg ?_ -- region 12 law.go:154
        refine wl (ro_move rfl) ?_
        refine wl (ro_fieldAddr (k := 1) rfl fo_69_1) ?_
        refine wl (ro_loadB rfl sc_3 (hO) (rfl)) ?_
        refine wl (ro_nilCheck rfl) ?_
        refine wl (ro_fieldAddr (k := 3) rfl fo_76_3) ?_
        refine wl_put rfl rfl rfl sz_3 hB ((by simp)) (rfl) (fun w5 hB F5 => ?_)
        replace hF := hF.thenDrew.thenO F5 (by first | exact .inr (by omega) | exact .inl rfl | exact .inl (by assumption))
        replace hO := F5.blkO hO (by omega)
        refine wl_nil (x_then (hK14 _ _ ?_))
        clear hK14 K14
        refine forget [] trivial (fun e => ?_)
        refine c_seq (fun K15 hK15 => ?_)
        refine c_reg ?_ -- region 13 law.go:155
        refine wl (ro_assign rfl) ?_
        refine wl_nil (x_then (hK15 _ _ ?_))
        clear hK15 K15
        refine c_ret (x_blkR (x_thenR ?_))
        refine bp_ret Tryz.results31 rfl ?_
        exact ⟨rfl, _, _, _, _, tm, A, _, _, _, hB, (W.own (d := w.drawn) hB0 hF).up (Nat.le_succ N), hwb, htm, hZ.trans' hF (fun b hb h => by have h' : b = wb := h; omega)⟩
      · try simp only [decide_eq_true_eq, decide_eq_false_iff_not, Bool.not_eq_true', Bool.not_eq_false', Bool.not_eq_eq_eq_not, Bool.not_true, Bool.not_false, beq_iff_eq, bne_iff_ne, ne_eq, beq_eq_false_iff_ne, bne_eq_false_iff_eq, gt_iff_lt, ge_iff_le, Int.not_lt, Int.not_le] at hc56
        refine c_seq (fun K16 hK16 => ?_)
        refine c_reg ?_ -- region 14 law.go:156
        refine wl (ro_cmp (r := decide (k = 7)) rfl rfl (congrArg some (by first | rfl | simp))) ?_
        refine wl (ro_assign rfl) ?_
        refine wl_nil (x_then (hK16 _ _ ?_))
        clear hK16 K16
        refine wc_cond rfl (fun hc63 => ?_) (fun hc63 => ?_)
        · try simp only [decide_eq_true_eq, decide_eq_false_iff_not, Bool.not_eq_true', Bool.not_eq_false', Bool.not_eq_eq_eq_not, Bool.not_true, Bool.not_false, beq_iff_eq, bne_iff_ne, ne_eq, beq_eq_false_iff_ne, bne_eq_false_iff_eq, gt_iff_lt, ge_iff_le, Int.not_lt, Int.not_le] at hc63
          refine c_seq (fun K17 hK17 => ?_)
          refine c_seq (fun K18 hK18 => ?_)
          refine c_reg ?_ -- region 15 law.go:157
          refine wl (ro_move rfl) ?_
          refine wl (ro_nilCheck rfl) ?_
          refine wl (ro_fieldAddr (k := 4) rfl fo_76_4) ?_
          refine wl (ro_loadB rfl sc_73 (hB) (rfl)) ?_
          refine wl (ro_lenL rfl se_73) ?_
          refine wl (ro_cmp (r := decide (0 < As.length)) rfl rfl (congrArg some (decide_eq_decide.2 (by omega)))) ?_
          refine wl_nil (x_then (hK18 _ _ ?_))
          clear hK18 K18
          refine wc_cond rfl (fun hc70 => ?_) (fun hc70 => ?_)
          · try simp only [decide_eq_true_eq, decide_eq_false_iff_not, Bool.not_eq_true', Bool.not_eq_false', Bool.not_eq_eq_eq_not, Bool.not_true, Bool.not_false, beq_iff_eq, bne_iff_ne, ne_eq, beq_eq_false_iff_ne, bne_eq_false_iff_eq, gt_iff_lt, ge_iff_le, Int.not_lt, Int.not_le] at hc70
            obtain ⟨a0, ha0⟩ : ∃ a0, As[0]? = some a0 := ⟨_, List.getElem?_eq_getElem hc70⟩
            obtain ⟨gA, kA, lA, hVA, hGA, -, -, -, -, hrA⟩ := RWV.at (enc := alc) (et := 130) alc_len (show RWV alc 130 2 w (.slice aA As.length cA) As 0 w.heap.size from ⟨W.oa, fun _ _ => Nat.zero_le _, fun b hb => W.oa.lt hb⟩) ha0
            have hgw := own76 W.oa (by decide) gA (by rw [hVA]; rfl)
            cases hVA
            have hG := hF.blkO hGA hgw
            have hglt := hG.lt
            refine c_seq (fun K19 hK19 => ?_)
            refine c_cut (fun a' w' => ∃ (i : Nat) (a : LA (List Int)) (lb : Nat), As[i]? = some a ∧ Blk w'.heap lb (alc a) 130 ∧ Fram none' w1 w' ∧ w1.heap.size ≤ lb ∧ ∃ e, a' = Fr 294 (upds e [(0, ptr wb), (3, ptr ob), (7, ptr lb)]) []) ?_ ?_
            · refine c_piF 15 11 14 [0, 1, 2, 3, 4, 5, 6, 7, 8, 9, 10] [(12, false), (13, false), (14, true)] [(11, true), (12, false), (13, false)] (fun w' => Fram none' w1 w') mixed (by kernel_rfl) rfl rfl (by kernel_rfl) po_cut (Fram.drew none' w1 _) ?_
              refine wf_ro rfl (fun w hS => ro_move rfl) ?_
              refine wf_ro rfl (fun w hS => ro_nilCheck rfl) ?_
              refine wf_ro rfl (fun w hS => ro_fieldAddr (k := 4) rfl fo_76_4) ?_
              refine wf_ro rfl (fun w hS => ro_loadB rfl sc_73 (hS.blkN hB) rfl) ?_
              refine wf_ro rfl (fun w hS => ro_fieldAddr (k := 1) rfl fo_69_1) ?_
              refine wf_ro rfl (fun w hS => ro_loadB rfl sc_3 (hS.blkN hO) rfl) ?_
              refine wf_ro rfl (fun w hS => ro_move rfl) ?_
              refine wf_ro rfl (fun w hS => ro_nilCheck rfl) ?_
              refine wf_ro rfl (fun w hS => ro_fieldAddr (k := 4) rfl fo_76_4) ?_
              refine wf_ro rfl (fun w hS => ro_loadB rfl sc_73 (hS.blkN hB) rfl) ?_
              refine wf_ro rfl (fun w hS => ro_lenL rfl se_73) ?_
              refine wf_fork ?_ ?_
              · refine ql_call rfl rfl en_45 (pick45 (c := A) hc70 hA1 hA2) ?_
                rintro _ _ ⟨⟨i, rfl, hi⟩, rfl⟩
                obtain ⟨a, ha⟩ : ∃ a, As[i]? = some a := ⟨_, List.getElem?_eq_getElem hi⟩
                refine ⟨Fram.drew none' w1 _, ?_⟩
                refine ql_ro rfl (fun w hS => ro_indexAddr (et := 130) (k := 2) rfl rfl se_73 rfl hi) ?_
                refine ql_ro rfl (fun w hS => ro_loadAggB rfl ag_130 (hS.blkN hG) rfl (hrA i a ha)) ?_
                refine ql_new rfl ze_130 (fun u2 F2 => (Fram.drew none' w1 _).trans F2) (fun lb u2 hlb hL F2 => ?_)
                refine ql_puta rfl rfl rfl (alc_cells a) sz_130 rfl hL (by simp) rfl (fun u3 hL F3 => ?_)
                have hs2 : w1.heap.size ≤ lb := hlb
                exact ⟨rfl, i, a, lb, ha, hL, ((Fram.drew none' w1 _).trans F2).trans' F3 (fun b hb h => by have h' : b = lb := h; omega), hs2, kp _ ⟨rfl, rfl, rfl, trivial⟩⟩
              · refine ql_new rfl ze_130 (fun u2 F2 => (Fram.drew none' w1 _).trans F2) (fun lb u2 hlb hL F2 => ?_)
                refine ql_call rfl rfl en_45 (pick45 (c := A) hc70 hA1 hA2) ?_
                rintro _ _ ⟨⟨i, rfl, hi⟩, rfl⟩
                obtain ⟨a, ha⟩ : ∃ a, As[i]? = some a := ⟨_, List.getElem?_eq_getElem hi⟩
                refine ⟨(Fram.drew none' w1 _).trans F2, ?_⟩
                refine ql_ro rfl (fun w hS => ro_indexAddr (et := 130) (k := 2) rfl rfl se_73 rfl hi) ?_
                refine ql_ro rfl (fun w hS => ro_loadAggB rfl ag_130 (hS.blkN hG) rfl (hrA i a ha)) ?_
                refine ql_puta rfl rfl rfl (alc_cells a) sz_130 rfl hL (by simp) rfl (fun u3 hL F3 => ?_)
                have hs2 : w1.heap.size ≤ lb := hlb
                exact ⟨rfl, i, a, lb, ha, hL, ((Fram.drew none' w1 _).trans F2).trans' F3 (fun b hb h => by have h' : b = lb := h; omega), hs2, kp _ ⟨rfl, rfl, rfl, trivial⟩⟩
            rintro a' u3 ⟨i, a, lb, ha, hL, F3, hlb, e, rfl⟩
            have hs0 := hE.size
            replace hB := F3.blkN hB
            replace hO := F3.blkN hO
            replace hF := hF.thenN F3
            replace hE := hE.thenN F3
            obtain ⟨q1, q2, q3, q4, q5, q6⟩ := W.la.al i a ha
            have l1 := q1.lt
            have l2 := q2.lt
            have n1 : a.rb ≠ wb := fun e => by rw [e] at q1; exact absurd (q1.uniq hB0).2 (by decide)
            have n2 : a.cb ≠ wb := fun e => by rw [e] at q2; exact absurd (q2.uniq hB0).2 (by decide)
            have hs1 := hE.size
            refine x_then (hK19 _ _ ?_)
            clear hK19 K19
            refine forget [(0, _), (3, _), (7, _)] ⟨rfl, rfl, rfl, trivial⟩ (fun e => ?_)
            refine c_seq (fun K20 hK20 => ?_)
            refine c_reg ?_ -- region 17 law.go:159
            refine wl (ro_fieldAddr (k := 0) rfl fo_130_0) ?_
            refine wl (ro_loadB rfl sc_27 (hL) (rfl)) ?_
            refine wl (ro_lenL rfl se_27) ?_
            refine wl (ro_cmp (r := decide (0 < a.L.length)) rfl rfl (congrArg some (decide_eq_decide.2 (by omega)))) ?_
            refine wl_nil (x_then (hK20 _ _ ?_))
            clear hK20 K20
            refine wc_cond rfl (fun hc88 => ?_) (fun hc88 => ?_)
            · try simp only [decide_eq_true_eq, decide_eq_false_iff_not, Bool.not_eq_true', Bool.not_eq_false', Bool.not_eq_eq_eq_not, Bool.not_true, Bool.not_false, beq_iff_eq, bne_iff_ne, ne_eq, beq_eq_false_iff_ne, bne_eq_false_iff_eq, gt_iff_lt, ge_iff_le, Int.not_lt, Int.not_le] at hc88
              have hR := hE.blkN q1
              have hW := hE.blkN q2
              have hP : Fram (fun b => b = a.rb ∨ b = a.cb) w u3 := hE.mono (fun _ _ h => h.elim)
              have hm1 : (fun b => b = a.rb ∨ b = a.cb) a.rb := .inl rfl
              have hm2 : (fun b => b = a.rb ∨ b = a.cb) a.cb := .inr rfl
              refine c_seq (fun K21 hK21 => ?_)
              refine c_reg ?_ -- region 18 law.go:160
              refine wl (ro_fieldAddr (k := 2) rfl fo_69_2) ?_
              refine wl (ro_loadB rfl sc_3 (hO) (rfl)) ?_
              refine wl (ro_fieldAddr (k := 0) rfl fo_130_0) ?_
              refine wl (ro_loadB rfl sc_27 (hL) (rfl)) ?_
              refine wl (ro_lenL rfl se_27) ?_
              refine wl_call rfl en_45 (pick45 (c := B) hc88 hB1 hB2) ?_
              rintro _ _ ⟨⟨i2, rfl, hi2⟩, rfl⟩
              obtain ⟨c, hc⟩ : ∃ c, a.L[i2]? = some c := ⟨_, List.getElem?_eq_getElem hi2⟩
              refine wl (ro_assign rfl) ?_
              refine wl_nil (x_then (hK21 _ _ ?_))
              clear hK21 K21
              refine forget [(0, _), (3, _), (7, _), (8, _)] ⟨rfl, rfl, rfl, rfl, trivial⟩ (fun e => ?_)
              refine c_seq (fun K22 hK22 => ?_)
              refine c_reg ?_ -- region 19 law.go:161
              refine wl (ro_fieldAddr (k := 3) rfl fo_69_3) ?_
              refine wl (ro_loadB rfl sc_3 (hO) (rfl)) ?_
              refine wl_call rfl en_45 (pick45 (n := 8) (c := C) (by omega) hC1 hC2) ?_
              rintro _ _ ⟨⟨j2, rfl, hj2⟩, rfl⟩
              have hrl := rws_len capc_len a.L
              have hset := rws_setG capc_len hc hj2 (upc_set (x := rg) hj2)
              have hbd : 0 + i2 * 8 + j2 * 1 < (rws capc a.L).length := by rw [hrl]; omega
              refine wl (ro_assign rfl) ?_
              refine wl_nil (x_then (hK22 _ _ ?_))
              clear hK22 K22
              refine forget [(0, _), (7, _), (8, _), (9, _)] ⟨rfl, rfl, rfl, rfl, trivial⟩ (fun e => ?_)
              refine c_seq (fun K23 hK23 => ?_)
              refine c_piL 10 [(0, false), (1, false), (2, false), (3, false), (4, false), (5, false), (6, false), (7, false), (8, false), (9, false)] (SameH _) mixed (by kernel_rfl) rfl (by kernel_rfl) (po_then (po_then (po_blk (po_then (po_bp))))) (sameH_now _ _) ?_ -- region 20 law.go:162
              refine ql_ro rfl (fun w hS => ro_fieldAddr (k := 0) rfl fo_130_0) ?_
              refine ql_ro rfl (fun w hS => ro_loadB rfl sc_27 (Blk.of_heap hL hS) (rfl)) ?_
              refine ql_ro rfl (fun w hS => ro_move rfl) ?_
              refine ql_ro rfl (fun w hS => ro_move rfl) ?_
              refine ql_ro rfl (fun w hS => ro_move rfl) ?_
              refine ql_ro rfl (fun w hS => ro_nilCheck rfl) ?_
              refine ql_ro rfl (fun w hS => ro_fieldAddr (k := 3) rfl fo_76_3) ?_
              refine ql_ro rfl (fun w hS => ro_loadB rfl sc_3 (Blk.of_heap hB hS) (rfl)) ?_
              refine ql_ro rfl (fun w hS => ro_indexAddr (et := 55) (k := 8) rfl rfl se_27 (rfl) (hi2)) ?_
              refine ql_ro rfl (fun w hS => ro_indexAddrA (et := 3) (k := 1) rfl rfl ar_55 (rfl) (hj2)) ?_
              refine ql_put rfl rfl rfl rfl sz_3 hR (hbd) (((congrArg (fun q ↦ (rws capc a.L).set q (icv rg)) (by omega : 0 + i2 * 8 + j2 * 1 = i2 * 8 + j2)).trans hset)) (fun w6 hR F6 => ?_)
              replace hB := F6.blkO hB (by omega)
              replace hO := F6.blkO hO (by omega)
              replace hL := F6.blkO hL (by omega)
              replace hP := hP.thenDrew.thenO F6 (by first | exact .inr (by omega) | exact .inl rfl | exact .inl (by assumption))
              replace hW := F6.blkO hW (by omega)
              refine x_then (hK23 _ _ ?_)
              clear hK23 K23
              refine c_piL 10 [(0, false), (1, false), (2, false), (3, false), (4, false), (5, false), (6, false), (7, false), (8, false), (9, false)] (SameH _) mixed (by kernel_rfl) rfl (by kernel_rfl) (po_then (po_blk (po_then (po_bp)))) (sameH_now _ _) ?_ -- region 21 law.go:163
              refine ql_ro rfl (fun w hS => ro_fieldAddr (k := 1) rfl fo_130_1) ?_
              refine ql_ro rfl (fun w hS => ro_loadB rfl sc_27 (Blk.of_heap hL hS) (rfl)) ?_
              refine ql_ro rfl (fun w hS => ro_move rfl) ?_
              refine ql_ro rfl (fun w hS => ro_move rfl) ?_
              refine ql_ro rfl (fun w hS => ro_move rfl) ?_
              refine ql_ro rfl (fun w hS => ro_nilCheck rfl) ?_
              refine ql_ro rfl (fun w hS => ro_fieldAddr (k := 3) rfl fo_76_3) ?_
              refine ql_ro rfl (fun w hS => ro_loadB rfl sc_3 (Blk.of_heap hB hS) (rfl)) ?_
              refine ql_ro rfl (fun w hS => ro_indexAddr (et := 55) (k := 8) rfl rfl se_27 (rfl) (hi2)) ?_
              refine ql_ro rfl (fun w hS => ro_indexAddrA (et := 3) (k := 1) rfl rfl ar_55 (rfl) (hj2)) ?_
              refine ql_put rfl rfl rfl rfl sz_3 hW (hbd) (((congrArg (fun q ↦ (rws capc a.L).set q (icv rg)) (by omega : 0 + i2 * 8 + j2 * 1 = i2 * 8 + j2)).trans hset)) (fun w7 hW F7 => ?_)
              replace hB := F7.blkO hB (by omega)
              replace hO := F7.blkO hO (by omega)
              replace hL := F7.blkO hL (by omega)
              replace hP := hP.thenDrew.thenO F7 (by first | exact .inr (by omega) | exact .inl rfl | exact .inl (by assumption))
              replace hR := F7.blkO hR (by omega)
              refine x_then (hK17 _ _ ?_)
              clear hK17 K17
              refine forget [] trivial (fun e => ?_)
              refine c_seq (fun K24 hK24 => ?_)
              refine c_reg ?_ -- region 22 law.go:166
              refine wl (ro_assign rfl) ?_
              refine wl_nil (x_then (hK24 _ _ ?_))
              clear hK24 K24
              refine c_ret (x_blkR (x_thenR ?_))
              refine bp_ret Tryz.results31 rfl ?_
              exact ⟨rfl, _, _, _, _, tm, rg, _, _, _, hB, (W.putA (d := w.drawn) ha hP hR hW (by rw [List.length_set])).up (Nat.le_succ N), hwb, htm, hZ.trans' hP (fun b hb h => by
                have h' : b = a.rb ∨ b = a.cb := h
                omega)⟩
            · try simp only [decide_eq_true_eq, decide_eq_false_iff_not, Bool.not_eq_true', Bool.not_eq_false', Bool.not_eq_eq_eq_not, Bool.not_true, Bool.not_false, beq_iff_eq, bne_iff_ne, ne_eq, beq_eq_false_iff_ne, bne_eq_false_iff_eq, gt_iff_lt, ge_iff_le, Int.not_lt, Int.not_le] at hc88
              refine c_skip (x_then (hK17 _ _ ?_))
              clear hK17 K17
              refine forget [] trivial (fun e => ?_)
              refine c_seq (fun K25 hK25 => ?_)
              refine c_reg ?_ -- region 22 law.go:166
              refine wl (ro_assign rfl) ?_
              refine wl_nil (x_then (hK25 _ _ ?_))
              clear hK25 K25
              refine c_ret (x_blkR (x_thenR ?_))
              refine bp_ret Tryz.results31 rfl ?_
              exact ⟨rfl, _, _, _, _, tm, rg, _, _, _, hB, (W.framN (d := w.drawn) hE).up (Nat.le_succ N), hwb, htm, hZ.trans hE⟩
          · try simp only [decide_eq_true_eq, decide_eq_false_iff_not, Bool.not_eq_true', Bool.not_eq_false', Bool.not_eq_eq_eq_not, Bool.not_true, Bool.not_false, beq_iff_eq, bne_iff_ne, ne_eq, beq_eq_false_iff_ne, bne_eq_false_iff_eq, gt_iff_lt, ge_iff_le, Int.not_lt, Int.not_le] at hc70
            refine c_skip (x_then (hK17 _ _ ?_))
            clear hK17 K17
            refine forget [] trivial (fun e => ?_)
            refine c_seq (fun K26 hK26 => ?_)
            refine c_reg ?_ -- region 22 law.go:166
            refine wl (ro_assign rfl) ?_
            refine wl_nil (x_then (hK26 _ _ ?_))
            clear hK26 K26
            refine c_ret (x_blkR (x_thenR ?_))
            refine bp_ret Tryz.results31 rfl ?_
            exact ⟨rfl, _, _, _, _, tm, rg, _, _, _, hB, (W.framN (d := w.drawn) hE).up (Nat.le_succ N), hwb, htm, hZ.trans hE⟩
        · try simp only [decide_eq_true_eq, decide_eq_false_iff_not, Bool.not_eq_true', Bool.not_eq_false', Bool.not_eq_eq_eq_not, Bool.not_true, Bool.not_false, beq_iff_eq, bne_iff_ne, ne_eq, beq_eq_false_iff_ne, bne_eq_false_iff_eq, gt_iff_lt, ge_iff_le, Int.not_lt, Int.not_le] at hc63
          refine c_seq (fun K27 hK27 => ?_)
          refine c_reg ?_ -- region 23 law.go:167
          refine wl (ro_cmp (r := decide (k = 8)) rfl rfl (congrArg some (by first | rfl | simp))) ?_
          refine wl (ro_assign rfl) ?_
          refine wl_nil (x_then (hK27 _ _ ?_))
          clear hK27 K27
          refine wc_cond rfl (fun hc118 => ?_) (fun hc118 => ?_)
          · try simp only [decide_eq_true_eq, decide_eq_false_iff_not, Bool.not_eq_true', Bool.not_eq_false', Bool.not_eq_eq_eq_not, Bool.not_true, Bool.not_false, beq_iff_eq, bne_iff_ne, ne_eq, beq_eq_false_iff_ne, bne_eq_false_iff_eq, gt_iff_lt, ge_iff_le, Int.not_lt, Int.not_le] at hc118
            refine c_seq (fun K28 hK28 => ?_)
            refine c_seq (fun K29 hK29 => ?_)
            refine c_reg ?_ -- region 24 law.go:168
            refine wl (ro_move rfl) ?_
            refine wl (ro_nilCheck rfl) ?_
            refine wl (ro_fieldAddr (k := 5) rfl fo_76_5) ?_
            refine wl (ro_loadB rfl sc_74 (hB) (rfl)) ?_
            refine wl (ro_lenL rfl se_74) ?_
            refine wl (ro_cmp (r := decide (0 < Cs.length)) rfl rfl (congrArg some (decide_eq_decide.2 (by omega)))) ?_
            refine wl_nil (x_then (hK29 _ _ ?_))
            clear hK29 K29
            refine wc_cond rfl (fun hc125 => ?_) (fun hc125 => ?_)
            · try simp only [decide_eq_true_eq, decide_eq_false_iff_not, Bool.not_eq_true', Bool.not_eq_false', Bool.not_eq_eq_eq_not, Bool.not_true, Bool.not_false, beq_iff_eq, bne_iff_ne, ne_eq, beq_eq_false_iff_ne, bne_eq_false_iff_eq, gt_iff_lt, ge_iff_le, Int.not_lt, Int.not_le] at hc125
              obtain ⟨a0, ha0⟩ : ∃ a0, Cs[0]? = some a0 := ⟨_, List.getElem?_eq_getElem hc125⟩
              obtain ⟨gA, kA, lA, hVA, hGA, -, -, -, -, hrA⟩ := RWV.at (enc := alc) (et := 133) alc_len (show RWV alc 133 2 w (.slice aC Cs.length cC) Cs 0 w.heap.size from ⟨W.oc, fun _ _ => Nat.zero_le _, fun b hb => W.oc.lt hb⟩) ha0
              have hgw := own76 W.oc (by decide) gA (by rw [hVA]; rfl)
              cases hVA
              have hG := hF.blkO hGA hgw
              have hglt := hG.lt
              refine c_seq (fun K30 hK30 => ?_)
              refine c_cut (fun a' w' => ∃ (i : Nat) (a : LA (List UInt8)) (lb : Nat), Cs[i]? = some a ∧ Blk w'.heap lb (alc a) 133 ∧ Fram none' w1 w' ∧ w1.heap.size ≤ lb ∧ ∃ e, a' = Fr 294 (upds e [(0, ptr wb), (3, ptr ob), (10, ptr lb)]) []) ?_ ?_
              · refine c_piF 15 11 14 [0, 1, 2, 3, 4, 5, 6, 7, 8, 9, 10] [(12, false), (13, false), (14, true)] [(11, true), (12, false), (13, false)] (fun w' => Fram none' w1 w') mixed (by kernel_rfl) rfl rfl (by kernel_rfl) po_cut (Fram.drew none' w1 _) ?_
                refine wf_ro rfl (fun w hS => ro_move rfl) ?_
                refine wf_ro rfl (fun w hS => ro_nilCheck rfl) ?_
                refine wf_ro rfl (fun w hS => ro_fieldAddr (k := 5) rfl fo_76_5) ?_
                refine wf_ro rfl (fun w hS => ro_loadB rfl sc_74 (hS.blkN hB) rfl) ?_
                refine wf_ro rfl (fun w hS => ro_fieldAddr (k := 1) rfl fo_69_1) ?_
                refine wf_ro rfl (fun w hS => ro_loadB rfl sc_3 (hS.blkN hO) rfl) ?_
                refine wf_ro rfl (fun w hS => ro_move rfl) ?_
                refine wf_ro rfl (fun w hS => ro_nilCheck rfl) ?_
                refine wf_ro rfl (fun w hS => ro_fieldAddr (k := 5) rfl fo_76_5) ?_
                refine wf_ro rfl (fun w hS => ro_loadB rfl sc_74 (hS.blkN hB) rfl) ?_
                refine wf_ro rfl (fun w hS => ro_lenL rfl se_74) ?_
                refine wf_fork ?_ ?_
                · refine ql_call rfl rfl en_45 (pick45 (c := A) hc125 hA1 hA2) ?_
                  rintro _ _ ⟨⟨i, rfl, hi⟩, rfl⟩
                  obtain ⟨a, ha⟩ : ∃ a, Cs[i]? = some a := ⟨_, List.getElem?_eq_getElem hi⟩
                  refine ⟨Fram.drew none' w1 _, ?_⟩
                  refine ql_ro rfl (fun w hS => ro_indexAddr (et := 133) (k := 2) rfl rfl se_74 rfl hi) ?_
                  refine ql_ro rfl (fun w hS => ro_loadAggB rfl ag_133 (hS.blkN hG) rfl (hrA i a ha)) ?_
                  refine ql_new rfl ze_133 (fun u2 F2 => (Fram.drew none' w1 _).trans F2) (fun lb u2 hlb hL F2 => ?_)
                  refine ql_puta rfl rfl rfl (alc_cells a) sz_133 rfl hL (by simp) rfl (fun u3 hL F3 => ?_)
                  have hs2 : w1.heap.size ≤ lb := hlb
                  exact ⟨rfl, i, a, lb, ha, hL, ((Fram.drew none' w1 _).trans F2).trans' F3 (fun b hb h => by have h' : b = lb := h; omega), hs2, kp _ ⟨rfl, rfl, rfl, trivial⟩⟩
                · refine ql_new rfl ze_133 (fun u2 F2 => (Fram.drew none' w1 _).trans F2) (fun lb u2 hlb hL F2 => ?_)
                  refine ql_call rfl rfl en_45 (pick45 (c := A) hc125 hA1 hA2) ?_
                  rintro _ _ ⟨⟨i, rfl, hi⟩, rfl⟩
                  obtain ⟨a, ha⟩ : ∃ a, Cs[i]? = some a := ⟨_, List.getElem?_eq_getElem hi⟩
                  refine ⟨(Fram.drew none' w1 _).trans F2, ?_⟩
                  refine ql_ro rfl (fun w hS => ro_indexAddr (et := 133) (k := 2) rfl rfl se_74 rfl hi) ?_
                  refine ql_ro rfl (fun w hS => ro_loadAggB rfl ag_133 (hS.blkN hG) rfl (hrA i a ha)) ?_
                  refine ql_puta rfl rfl rfl (alc_cells a) sz_133 rfl hL (by simp) rfl (fun u3 hL F3 => ?_)
                  have hs2 : w1.heap.size ≤ lb := hlb
                  exact ⟨rfl, i, a, lb, ha, hL, ((Fram.drew none' w1 _).trans F2).trans' F3 (fun b hb h => by have h' : b = lb := h; omega), hs2, kp _ ⟨rfl, rfl, rfl, trivial⟩⟩
              rintro a' u3 ⟨i, a, lb, ha, hL, F3, hlb, e, rfl⟩
              have hs0 := hE.size
              replace hB := F3.blkN hB
              replace hO := F3.blkN hO
              replace hF := hF.thenN F3
              replace hE := hE.thenN F3
              obtain ⟨q1, q2, q3, q4, q5, q6⟩ := W.lc.al i a ha
              have l1 := q1.lt
              have l2 := q2.lt
              have n1 : a.rb ≠ wb := fun e => by rw [e] at q1; exact absurd (q1.uniq hB0).2 (by decide)
              have n2 : a.cb ≠ wb := fun e => by rw [e] at q2; exact absurd (q2.uniq hB0).2 (by decide)
              have hs1 := hE.size
              refine x_then (hK30 _ _ ?_)
              clear hK30 K30
              refine forget [(3, _), (10, _)] ⟨rfl, rfl, trivial⟩ (fun e => ?_)
              refine c_seq (fun K31 hK31 => ?_)
              refine c_reg ?_ -- region 26 law.go:170
              refine wl (ro_fieldAddr (k := 0) rfl fo_133_0) ?_
              refine wl (ro_loadB rfl sc_31 (hL) (rfl)) ?_
              refine wl (ro_lenL rfl se_31) ?_
              refine wl (ro_cmp (r := decide (0 < a.L.length)) rfl rfl (congrArg some (decide_eq_decide.2 (by omega)))) ?_
              refine wl_nil (x_then (hK31 _ _ ?_))
              clear hK31 K31
              refine wc_cond rfl (fun hc143 => ?_) (fun hc143 => ?_)
              · try simp only [decide_eq_true_eq, decide_eq_false_iff_not, Bool.not_eq_true', Bool.not_eq_false', Bool.not_eq_eq_eq_not, Bool.not_true, Bool.not_false, beq_iff_eq, bne_iff_ne, ne_eq, beq_eq_false_iff_ne, bne_eq_false_iff_eq, gt_iff_lt, ge_iff_le, Int.not_lt, Int.not_le] at hc143
                have hR := hE.blkN q1
                have hW := hE.blkN q2
                have hP : Fram (fun b => b = a.rb ∨ b = a.cb) w u3 := hE.mono (fun _ _ h => h.elim)
                have hm1 : (fun b => b = a.rb ∨ b = a.cb) a.rb := .inl rfl
                have hm2 : (fun b => b = a.rb ∨ b = a.cb) a.cb := .inr rfl
                refine c_seq (fun K32 hK32 => ?_)
                refine c_reg ?_ -- region 27 law.go:171
                refine wl (ro_fieldAddr (k := 2) rfl fo_69_2) ?_
                refine wl (ro_loadB rfl sc_3 (hO) (rfl)) ?_
                refine wl (ro_fieldAddr (k := 0) rfl fo_133_0) ?_
                refine wl (ro_loadB rfl sc_31 (hL) (rfl)) ?_
                refine wl (ro_lenL rfl se_31) ?_
                refine wl_call rfl en_45 (pick45 (c := B) hc143 hB1 hB2) ?_
                rintro _ _ ⟨⟨i2, rfl, hi2⟩, rfl⟩
                obtain ⟨c, hc⟩ : ∃ c, a.L[i2]? = some c := ⟨_, List.getElem?_eq_getElem hi2⟩
                have hrl := rws_len txc_len a.L
                have hset := rws_setG txc_len (c' := s) hc (by omega : 0 < 1) (show (txc c).set 0 (S s) = txc s from rfl)
                have hbd : 0 + i2 * 1 < (rws txc a.L).length := by rw [hrl]; omega
                refine wl (ro_assign rfl) ?_
                refine wl_nil (x_then (hK32 _ _ ?_))
                clear hK32 K32
                refine forget [(3, _), (10, _), (11, _)] ⟨rfl, rfl, rfl, trivial⟩ (fun e => ?_)
                refine c_seq (fun K33 hK33 => ?_)
                refine c_reg ?_ -- region 28 law.go:172
                refine wl (ro_fieldAddr (k := 0) rfl fo_133_0) ?_
                refine wl (ro_loadB rfl sc_31 (hL) (rfl)) ?_
                refine wl (ro_move rfl) ?_
                refine wl (ro_fieldAddr (k := 4) rfl fo_69_4) ?_
                refine wl (ro_loadB rfl sc_9 (hO) (rfl)) ?_
                refine wl (ro_indexAddr (et := 9) (k := 1) rfl rfl se_31 (rfl) (hi2)) ?_
                refine wl_put rfl rfl rfl sz_9 hR (hbd) (((congrArg (fun q ↦ (rws txc a.L).set q (S s)) (by omega : 0 + i2 * 1 = i2 * 1 + 0)).trans hset)) (fun w8 hR F8 => ?_)
                replace hB := F8.blkO hB (by omega)
                replace hO := F8.blkO hO (by omega)
                replace hL := F8.blkO hL (by omega)
                replace hP := hP.thenDrew.thenO F8 (by first | exact .inr (by omega) | exact .inl rfl | exact .inl (by assumption))
                replace hW := F8.blkO hW (by omega)
                refine wl_nil (x_then (hK33 _ _ ?_))
                clear hK33 K33
                refine c_reg ?_ -- region 29 law.go:173
                refine wl (ro_fieldAddr (k := 1) rfl fo_133_1) ?_
                refine wl (ro_loadB rfl sc_31 (hL) (rfl)) ?_
                refine wl (ro_move rfl) ?_
                refine wl (ro_fieldAddr (k := 4) rfl fo_69_4) ?_
                refine wl (ro_loadB rfl sc_9 (hO) (rfl)) ?_
                refine wl (ro_indexAddr (et := 9) (k := 1) rfl rfl se_31 (rfl) (hi2)) ?_
                refine wl_put rfl rfl rfl sz_9 hW (hbd) (((congrArg (fun q ↦ (rws txc a.L).set q (S s)) (by omega : 0 + i2 * 1 = i2 * 1 + 0)).trans hset)) (fun w9 hW F9 => ?_)
                replace hB := F9.blkO hB (by omega)
                replace hO := F9.blkO hO (by omega)
                replace hL := F9.blkO hL (by omega)
                replace hP := hP.thenDrew.thenO F9 (by first | exact .inr (by omega) | exact .inl rfl | exact .inl (by assumption))
                replace hR := F9.blkO hR (by omega)
                refine wl_nil (x_then (hK28 _ _ ?_))
                clear hK28 K28
                refine forget [] trivial (fun e => ?_)
                refine c_seq (fun K34 hK34 => ?_)
                refine c_reg ?_ -- region 30 law.go:176
                refine wl (ro_assign rfl) ?_
                refine wl_nil (x_then (hK34 _ _ ?_))
                clear hK34 K34
                refine c_ret (x_blkR (x_thenR ?_))
                refine bp_ret Tryz.results31 rfl ?_
                exact ⟨rfl, _, _, _, _, tm, rg, _, _, _, hB, (W.putC (d := w.drawn) ha hP hR hW (by rw [List.length_set])).up (Nat.le_succ N), hwb, htm, hZ.trans' hP (fun b hb h => by
                  have h' : b = a.rb ∨ b = a.cb := h
                  omega)⟩
              · try simp only [decide_eq_true_eq, decide_eq_false_iff_not, Bool.not_eq_true', Bool.not_eq_false', Bool.not_eq_eq_eq_not, Bool.not_true, Bool.not_false, beq_iff_eq, bne_iff_ne, ne_eq, beq_eq_false_iff_ne, bne_eq_false_iff_eq, gt_iff_lt, ge_iff_le, Int.not_lt, Int.not_le] at hc143
                refine c_skip (x_then (hK28 _ _ ?_))
                clear hK28 K28
                refine forget [] trivial (fun e => ?_)
                refine c_seq (fun K35 hK35 => ?_)
                refine c_reg ?_ -- region 30 law.go:176
                refine wl (ro_assign rfl) ?_
                refine wl_nil (x_then (hK35 _ _ ?_))
                clear hK35 K35
                refine c_ret (x_blkR (x_thenR ?_))
                refine bp_ret Tryz.results31 rfl ?_
                exact ⟨rfl, _, _, _, _, tm, rg, _, _, _, hB, (W.framN (d := w.drawn) hE).up (Nat.le_succ N), hwb, htm, hZ.trans hE⟩
            · try simp only [decide_eq_true_eq, decide_eq_false_iff_not, Bool.not_eq_true', Bool.not_eq_false', Bool.not_eq_eq_eq_not, Bool.not_true, Bool.not_false, beq_iff_eq, bne_iff_ne, ne_eq, beq_eq_false_iff_ne, bne_eq_false_iff_eq, gt_iff_lt, ge_iff_le, Int.not_lt, Int.not_le] at hc125
              refine c_skip (x_then (hK28 _ _ ?_))
              clear hK28 K28
              refine forget [] trivial (fun e => ?_)
              refine c_seq (fun K36 hK36 => ?_)
              refine c_reg ?_ -- region 30 law.go:176
              refine wl (ro_assign rfl) ?_
              refine wl_nil (x_then (hK36 _ _ ?_))
              clear hK36 K36
              refine c_ret (x_blkR (x_thenR ?_))
              refine bp_ret Tryz.results31 rfl ?_
              exact ⟨rfl, _, _, _, _, tm, rg, _, _, _, hB, (W.framN (d := w.drawn) hE).up (Nat.le_succ N), hwb, htm, hZ.trans hE⟩
          · try simp only [decide_eq_true_eq, decide_eq_false_iff_not, Bool.not_eq_true', Bool.not_eq_false', Bool.not_eq_eq_eq_not, Bool.not_true, Bool.not_false, beq_iff_eq, bne_iff_ne, ne_eq, beq_eq_false_iff_ne, bne_eq_false_iff_eq, gt_iff_lt, ge_iff_le, Int.not_lt, Int.not_le] at hc118
            refine c_skip (x_blk (x_then (hK2 _ _ ?_)))
            clear hK2 K2
            refine c_seq (fun K37 hK37 => ?_)
            refine c_seq (fun K38 hK38 => ?_)
            refine c_reg ?_ -- region 31 law.go:178
            refine wl (ro_move rfl) ?_
            refine wl (ro_nilCheck rfl) ?_
            refine wl (ro_fieldAddr (k := 0) rfl fo_76_0) ?_
            refine wl (ro_loadB rfl sc_71 (hB) (rfl)) ?_
            refine wl (ro_lenL rfl se_71) ?_
            refine wl (ro_cmp (r := decide (ts.length = 0)) rfl rfl (congrArg some (beqc ts.length 0))) ?_
            refine wl_nil (x_then (hK38 _ _ ?_))
            clear hK38 K38
            refine wc_cond rfl (fun hc167 => ?_) (fun hc167 => ?_)
            · try simp only [decide_eq_true_eq, decide_eq_false_iff_not, Bool.not_eq_true', Bool.not_eq_false', Bool.not_eq_eq_eq_not, Bool.not_true, Bool.not_false, beq_iff_eq, bne_iff_ne, ne_eq, beq_eq_false_iff_ne, bne_eq_false_iff_eq, gt_iff_lt, ge_iff_le, Int.not_lt, Int.not_le] at hc167
              refine c_seq (fun K39 hK39 => ?_)
              refine c_reg ?_ -- region 32 law.go:179
              refine wl (ro_assign rfl) ?_
              refine wl_nil (x_then (hK39 _ _ ?_))
              clear hK39 K39
              refine c_ret (x_thenR ?_)
              refine bp_ret Tryz.results31 rfl ?_
              exact ⟨rfl, _, _, _, _, tm, rg, _, _, _, hB, (W.framN (d := w.drawn) hE).up (Nat.le_succ N), hwb, htm, hZ.trans hE⟩
            · try simp only [decide_eq_true_eq, decide_eq_false_iff_not, Bool.not_eq_true', Bool.not_eq_false', Bool.not_eq_eq_eq_not, Bool.not_true, Bool.not_false, beq_iff_eq, bne_iff_ne, ne_eq, beq_eq_false_iff_ne, bne_eq_false_iff_eq, gt_iff_lt, ge_iff_le, Int.not_lt, Int.not_le] at hc167
              have hl0 : 0 < ts.length := by omega
              obtain ⟨gX, kX, lX, hVX, hGX, -, -, -, htX⟩ := W.ox.pos hl0
              obtain ⟨gM, kM, lM, hVM, hGM, -, -, -, htM⟩ := W.om.pos hl0
              have hgx := own76 W.ox (by decide) gX (by rw [hVX]; rfl)
              have hgm := own76 W.om (by decide) gM (by rw [hVM]; rfl)
              cases hVX
              cases hVM
              have hX := hF.blkO hGX hgx
              have hM := hF.blkO hGM hgm
              refine c_skip (x_then (hK37 _ _ ?_))
              clear hK37 K37
              refine forget [(0, _), (3, _)] ⟨rfl, rfl, trivial⟩ (fun e => ?_)
              refine c_seq (fun K40 hK40 => ?_)
              refine c_pi [(0, false), (1, false), (2, false), (3, false), (4, false), (5, false), (6, false), (7, true), (8, false)] (SameH w1.heap) mixed (by kernel_rfl) rfl (by kernel_rfl) (po_then (po_bp)) (rfl) ?_ -- region 33 law.go:181
              refine pi_ro rfl (fun w hS => ro_fieldAddr (k := 1) rfl fo_69_1) ?_
              refine pi_ro rfl (fun w hS => ro_loadB rfl sc_3 (Blk.of_heap hO hS) rfl) ?_
              refine pi_ro rfl (fun w hS => ro_move rfl) ?_
              refine pi_ro rfl (fun w hS => ro_nilCheck rfl) ?_
              refine pi_ro rfl (fun w hS => ro_fieldAddr (k := 0) rfl fo_76_0) ?_
              refine pi_ro rfl (fun w hS => ro_loadB rfl sc_71 (Blk.of_heap hB hS) rfl) ?_
              refine pi_ro rfl (fun w hS => ro_lenL rfl se_71) ?_
              refine pi_call rfl rfl en_45 (pick45 (w := { w1 with drawn := w1.drawn + 1 }) (c := A) hl0 hA1 hA2) ?_
              rintro _ _ ⟨⟨i, rfl, hi⟩, rfl⟩
              refine ⟨rfl, ?_⟩
              refine pi_ro rfl (fun w hS => ro_assign rfl) ?_
              obtain ⟨tt, htt⟩ : ∃ tt, ts[i]? = some tt := ⟨_, List.getElem?_eq_getElem hi⟩
              have hcx : lX[0 + i * 1]? = some (ptr tt.F.fb) := by rw [Nat.zero_add]; exact own_get htX (by simp [htt])
              have hcm : lM[0 + i * 1]? = some (ptr tt.gb) := by rw [Nat.zero_add]; exact own_get htM (by simp [htt])
              have T0 := W.tw i tt htt
              have hEd : Fram none' w { w1 with drawn := w1.drawn + 1 } := hE.thenDrew
              have PT1 : PT { w1 with drawn := w1.drawn + 1 } tt N := T0.framT (d := w.drawn) hEd (fun _ _ h => h) (fun _ _ _ h => h)
              have hEs := hE.size
              have hnwb : ∀ b, bset2 tt.F tt.E b → b ≠ wb := fun b hb e => T0.noT hB0 rfl (bset2_t (e ▸ hb))
              have hnob : ∀ b, bset2 tt.F tt.E b → b < w.heap.size := fun b hb => T0.ltT (bset2_t hb)
              have fin : ∀ u3 : World, Fram (bset2 tt.F tt.E) { w1 with drawn := w1.drawn + 1 } u3 → PT u3 tt (N + 1) → Blk u3.heap wb [.slice (some ⟨gX, 0, none⟩) ts.length cX, .slice (some ⟨gM, 0, none⟩) ts.length cM, S tm, .int .i64 rg, .slice aA As.length cA, .slice aC Cs.length cC] 76 ∧ WS u3 w0.heap.size (.slice (some ⟨gX, 0, none⟩) ts.length cX) (.slice (some ⟨gM, 0, none⟩) ts.length cM) (.slice aA As.length cA) (.slice aC Cs.length cC) ts As Cs (N + 1) ∧ Fram none' w0 u3 := by
                intro u3 F3 P3
                have hE3 : Fram (bset2 tt.F tt.E) w u3 := (hEd.mono (fun _ _ h => h.elim)).trans F3
                exact ⟨F3.blkF hB (fun h => hnwb wb h rfl), W.at (d := w.drawn) htt hE3 P3, hZ.trans' hE3 (fun b hb h => by have := W.zt i tt b htt (bset2_t h); omega)⟩
              refine pi_nil (x_then (hK40 _ _ ?_))
              clear hK40 K40
              refine forget [(0, _), (3, _), (12, _)] ⟨rfl, rfl, rfl, trivial⟩ (fun e => ?_)
              refine c_seq (fun K41 hK41 => ?_)
              refine c_reg ?_ -- region 34 law.go:182
              refine wl (ro_move rfl) ?_
              refine wl (ro_nilCheck rfl) ?_
              refine wl (ro_fieldAddr (k := 0) rfl fo_76_0) ?_
              refine wl (ro_loadB rfl sc_71 (hB) (rfl)) ?_
              refine wl (ro_move rfl) ?_
              refine wl (ro_indexAddr (et := 24) (k := 1) rfl rfl se_71 (rfl) (hi)) ?_
              refine wl (ro_loadB rfl sc_24 (hX) (hcx)) ?_
              refine wl (ro_assign rfl) ?_
              refine wl_nil (x_then (hK41 _ _ ?_))
              clear hK41 K41
              refine forget [(0, _), (3, _), (12, _), (13, _)] ⟨rfl, rfl, rfl, rfl, trivial⟩ (fun e => ?_)
              refine c_seq (fun K42 hK42 => ?_)
              refine c_reg ?_ -- region 35 law.go:183
              refine wl (ro_move rfl) ?_
              refine wl (ro_nilCheck rfl) ?_
              refine wl (ro_fieldAddr (k := 1) rfl fo_76_1) ?_
              refine wl (ro_loadB rfl sc_72 (hB) (rfl)) ?_
              refine wl (ro_move rfl) ?_
              refine wl (ro_indexAddr (et := 22) (k := 1) rfl rfl se_72 (rfl) (hi)) ?_
              refine wl (ro_loadB rfl sc_22 (hM) (hcm)) ?_
              refine wl (ro_assign rfl) ?_
              refine wl_nil (x_then (hK42 _ _ ?_))
              clear hK42 K42
              refine c_seq (fun K43 hK43 => ?_)
              refine c_seq (fun K44 hK44 => ?_)
              refine c_reg ?_ -- region 36 law.go:184
              refine wl (ro_fieldAddr (k := 0) rfl fo_69_0) ?_
              refine wl (ro_loadB rfl sc_3 (hO) (rfl)) ?_
              refine wl_nil (x_then (hK44 _ _ ?_))
              clear hK44 K44
              refine c_block ?_
              refine forget [(0, _), (3, _), (13, _), (14, _), (191, _)] ⟨rfl, rfl, rfl, rfl, rfl, trivial⟩ (fun e => ?_)
              refine c_seq (fun K45 hK45 => ?_)
              refine c_reg ?_ -- region 37 law.go:185
              refine wl (ro_cmp (r := decide (k = 9)) rfl rfl (congrArg some (by first | rfl | simp))) ?_
              refine wl (ro_assign rfl) ?_
              refine wl_nil (x_then (hK45 _ _ ?_))
              clear hK45 K45
              refine wc_cond rfl (fun hc192 => ?_) (fun hc192 => ?_)
              · try simp only [decide_eq_true_eq, decide_eq_false_iff_not, Bool.not_eq_true', Bool.not_eq_false', Bool.not_eq_eq_eq_not, Bool.not_true, Bool.not_false, beq_iff_eq, bne_iff_ne, ne_eq, beq_eq_false_iff_ne, bne_eq_false_iff_eq, gt_iff_lt, ge_iff_le, Int.not_lt, Int.not_le] at hc192
                refine c_seq (fun K46 hK46 => ?_)
                refine c_reg ?_ -- region 38 law.go:186
                refine wl (ro_move rfl) ?_
                refine wl_call rfl en_46 (Check46 PT1.x) ?_
                rintro _ u3 ⟨rfl, F3⟩
                replace hB := F3.blkN hB
                have hE3 := hEd.trans F3
                refine wl (ro_assign rfl) ?_
                refine wl_nil (x_then (hK46 _ _ ?_))
                clear hK46 K46
                refine c_ret (x_blkR (x_thenR ?_))
                refine bp_ret Tryz.results31 rfl ?_
                exact ⟨rfl, _, _, _, _, tm, rg, _, _, _, hB, (W.framN (d := w.drawn) hE3).up (Nat.le_succ N), hwb, htm, hZ.trans hE3⟩
              · try simp only [decide_eq_true_eq, decide_eq_false_iff_not, Bool.not_eq_true', Bool.not_eq_false', Bool.not_eq_eq_eq_not, Bool.not_true, Bool.not_false, beq_iff_eq, bne_iff_ne, ne_eq, beq_eq_false_iff_ne, bne_eq_false_iff_eq, gt_iff_lt, ge_iff_le, Int.not_lt, Int.not_le] at hc192
                refine c_seq (fun K47 hK47 => ?_)
                refine c_reg ?_ -- region 39 law.go:187
                refine wl (ro_cmp (r := decide (k = 3)) rfl rfl (congrArg some (by first | rfl | simp))) ?_
                refine wl (ro_assign rfl) ?_
                refine wl_nil (x_then (hK47 _ _ ?_))
                clear hK47 K47
                refine wc_cond rfl (fun hc196 => ?_) (fun hc196 => ?_)
                · try simp only [decide_eq_true_eq, decide_eq_false_iff_not, Bool.not_eq_true', Bool.not_eq_false', Bool.not_eq_eq_eq_not, Bool.not_true, Bool.not_false, beq_iff_eq, bne_iff_ne, ne_eq, beq_eq_false_iff_ne, bne_eq_false_iff_eq, gt_iff_lt, ge_iff_le, Int.not_lt, Int.not_le] at hc196
                  refine c_seq (fun K48 hK48 => ?_)
                  refine c_reg ?_ -- region 40 law.go:188
                  refine wl (ro_move rfl) ?_
                  refine wl (ro_move rfl) ?_
                  refine wl (ro_fieldAddr (k := 4) rfl fo_69_4) ?_
                  refine wl (ro_loadB rfl sc_9 (hO) (rfl)) ?_
                  refine wl (ro_fieldAddr (k := 5) rfl fo_69_5) ?_
                  refine wl (ro_loadB rfl sc_9 (hO) (rfl)) ?_
                  refine wl_call rfl en_7 (found7 PT1 (by omega) (by omega) hsm htm2) ?_
                  rintro _ u3 ⟨rfl, P3, F3⟩
                  obtain ⟨hB3, W3, hZ3⟩ := fin u3 F3 (P3.up (by omega) (by omega))
                  refine wl (ro_assign rfl) ?_
                  refine wl_nil (x_then (hK48 _ _ ?_))
                  clear hK48 K48
                  refine c_ret (x_blkR (x_thenR ?_))
                  refine bp_ret Tryz.results31 rfl ?_
                  exact ⟨rfl, _, _, _, _, tm, rg, _, _, _, hB3, W3, hwb, htm, hZ3⟩
                · try simp only [decide_eq_true_eq, decide_eq_false_iff_not, Bool.not_eq_true', Bool.not_eq_false', Bool.not_eq_eq_eq_not, Bool.not_true, Bool.not_false, beq_iff_eq, bne_iff_ne, ne_eq, beq_eq_false_iff_ne, bne_eq_false_iff_eq, gt_iff_lt, ge_iff_le, Int.not_lt, Int.not_le] at hc196
                  refine c_seq (fun K49 hK49 => ?_)
                  refine c_reg ?_ -- region 41 law.go:189
                  refine wl (ro_cmp (r := decide (k = 4)) rfl rfl (congrArg some (by first | rfl | simp))) ?_
                  refine wl (ro_assign rfl) ?_
                  refine wl_nil (x_then (hK49 _ _ ?_))
                  clear hK49 K49
                  refine wc_cond rfl (fun hc205 => ?_) (fun hc205 => ?_)
                  · try simp only [decide_eq_true_eq, decide_eq_false_iff_not, Bool.not_eq_true', Bool.not_eq_false', Bool.not_eq_eq_eq_not, Bool.not_true, Bool.not_false, beq_iff_eq, bne_iff_ne, ne_eq, beq_eq_false_iff_ne, bne_eq_false_iff_eq, gt_iff_lt, ge_iff_le, Int.not_lt, Int.not_le] at hc205
                    refine c_seq (fun K50 hK50 => ?_)
                    refine c_reg ?_ -- region 42 law.go:190
                    refine wl (ro_move rfl) ?_
                    refine wl (ro_move rfl) ?_
                    refine wl (ro_fieldAddr (k := 4) rfl fo_69_4) ?_
                    refine wl (ro_loadB rfl sc_9 (hO) (rfl)) ?_
                    refine wl (ro_fieldAddr (k := 5) rfl fo_69_5) ?_
                    refine wl (ro_loadB rfl sc_9 (hO) (rfl)) ?_
                    refine wl_call rfl en_8 (foundAll8 PT1 (by omega) (by omega) hsm htm2) ?_
                    rintro _ u3 ⟨⟨V1, rfl, hQ⟩, P3, F3⟩
                    obtain ⟨hB3, W3, hZ3⟩ := fin u3 F3 (P3.up (by omega) (by omega))
                    have hs3 : w1.heap.size ≤ u3.heap.size := F3.size
                    have hH : Fram none' u3 u3 := Fram.refl _ _
                    have hB4 := hB3
                    have hb3 := hB3.lt
                    refine wl (ro_move rfl) ?_
                    refine wl (ro_extract rfl rfl) ?_
                    refine wl (ro_extract rfl rfl) ?_
                    refine wl (ro_assign rfl) ?_
                    refine wl (ro_assign rfl) ?_
                    refine wl_nil (x_then (hK50 _ _ ?_))
                    clear hK50 K50
                    refine c_seq (fun K51 hK51 => ?_)
                    refine c_seq (fun K52 hK52 => ?_)
                    unfold FaQ at hQ
                    rcases hE5 : engT s t with er | r
                    · skip
                      rw [hE5] at hQ
                      obtain rfl : V1 = .slice none 0 0 := hQ
                      refine c_reg ?_ -- region 43 law.go:191
                      refine wl (ro_move rfl) ?_
                      refine wl (ro_not rfl) ?_
                      refine wl_nil (x_then (hK52 _ _ ?_))
                      clear hK52 K52
                      refine wc_condF rfl ?_
                      refine c_skip (x_then (hK51 _ _ ?_))
                      clear hK51 K51
                      refine forget [(0, _), (15, _)] ⟨rfl, rfl, trivial⟩ (fun e => ?_)
                      refine c_seq (fun K53 hK53 => ?_)
                      refine c_reg ?_ -- region 45 law.go:194
                      refine wl (ro_move rfl) ?_
                      refine wl (ro_sliceNil (r := false) rfl rfl se_27 rfl) ?_
                      refine wl_nil (x_then (hK53 _ _ ?_))
                      clear hK53 K53
                      refine wc_condF rfl ?_
                      refine c_skip (x_blk (x_then (hK43 _ _ ?_)))
                      clear hK43 K43
                      refine forget [] trivial (fun e => ?_)
                      refine c_seq (fun K54 hK54 => ?_)
                      refine c_reg ?_ -- region 61 law.go:214
                      refine wl (ro_assign rfl) ?_
                      refine wl_nil (x_then (hK54 _ _ ?_))
                      clear hK54 K54
                      refine c_ret ?_
                      refine bp_ret Tryz.results31 rfl ?_
                      exact ⟨rfl, _, _, _, _, tm, rg, _, _, _, hB4, W3, hwb, htm, hZ3⟩
                    · skip
                      rw [hE5] at hQ
                      simp only at hQ
                      obtain ⟨hll, rb, rfl, hrb, hR⟩ := hQ
                      generalize scanAll t r 0 = L at hll hR
                      have hrlt := hR.lt
                      have hrb' : w1.heap.size ≤ rb := hrb
                      have hrw : rb ≠ wb := by omega
                      refine c_reg ?_ -- region 43 law.go:191
                      refine wl (ro_move rfl) ?_
                      refine wl (ro_not rfl) ?_
                      refine wl_nil (x_then (hK52 _ _ ?_))
                      clear hK52 K52
                      refine wc_condF rfl ?_
                      refine c_skip (x_then (hK51 _ _ ?_))
                      clear hK51 K51
                      refine forget [(0, _), (15, _)] ⟨rfl, rfl, trivial⟩ (fun e => ?_)
                      refine c_seq (fun K55 hK55 => ?_)
                      refine c_reg ?_ -- region 45 law.go:194
                      refine wl (ro_move rfl) ?_
                      refine wl (ro_sliceNil (r := true) rfl rfl se_27 rfl) ?_
                      refine wl_nil (x_then (hK55 _ _ ?_))
                      clear hK55 K55
                      refine wc_condT rfl ?_
                      refine c_seq (fun K56 hK56 => ?_)
                      refine c_reg ?_ -- region 46 law.go:195
                      refine wl (ro_move rfl) ?_
                      refine wl (ro_move rfl) ?_
                      refine wl (ro_capL rfl se_27) ?_
                      refine wl (ro_sliceH (h := L.length) rfl rfl se_27 rfl (Nat.le_refl _)) ?_
                      refine wl (ro_assign rfl) ?_
                      refine wl_nil (x_then (hK56 _ _ ?_))
                      clear hK56 K56
                      refine forget [(0, _), (17, _)] ⟨rfl, rfl, trivial⟩ (fun e => ?_)
                      refine c_seq (fun K57 hK57 => ?_)
                      refine c_reg ?_ -- region 47 law.go:196
                      refine wl (ro_move rfl) ?_
                      refine wl (ro_lenL rfl se_27) ?_
                      refine wl_make (len := L.length) (cap := L.length) rfl rfl se_27 ze_55 (by simp) (by omega) (by omega) rfl bb_55 (fun cb w10 hbcb hC F10 => ?_)
                      have hbscb := Nat.le_trans hH.size hbcb
                      have hnewbcb : wb < cb := Nat.lt_of_lt_of_le hB4.lt hbcb
                      have hnerbcb : rb < cb := Nat.lt_of_lt_of_le hR.lt hbcb
                      replace hH := hH.thenDrew.thenN F10
                      replace hB4 := F10.blkN hB4
                      replace hR := F10.blkN hR
                      refine wl (ro_assign rfl) ?_
                      refine wl_nil (x_then (hK57 _ _ ?_))
                      clear hK57 K57
                      refine forget [(0, _), (17, _), (18, _)] ⟨rfl, rfl, rfl, trivial⟩ (fun e => ?_)
                      refine c_seq (fun K58 hK58 => ?_)
                      have hRl := rws_len capc_len L
                      have hRf : FB _ rb (L.length * 8) (fun j => (rws capc L).getD j undef) 55 := (congrArg (fun q => Blk _ rb q 55) ((congrArg (fun q => cel q (fun j => (rws capc L).getD j undef)) hRl.symm).trans (cel_getD (rws capc L)))).mpr hR
                      refine c_reg ?_ -- region 48 law.go:197
                      refine wl (ro_move rfl) ?_
                      refine wl (ro_move rfl) ?_
                      refine wl_copy (m := L.length) rfl rfl se_27 hC hRf (Nat.min_self _) (fun j hj => by
                        rw [Nat.zero_add]
                        have hlt : j < (rws capc L).length := by rw [hRl]; exact hj
                        rw [List.getD, List.getElem?_eq_getElem hlt]
                        exact rws_cellsG capc_cells (List.getElem_mem hlt)) (by omega) (by omega) (fun u5 hC F5 => ?_)
                      have hC' : Blk u5.heap cb (rws capc L) 55 := by
                        have h5 : FB u5.heap cb (L.length * 8) (cpf _ 0 _ 0 (L.length * 8)) 55 := hC
                        unfold FB at h5
                        rw [cpf_all, ← hRl, cel_getD] at h5
                        exact h5
                      replace hR := F5.blkO hR (by omega)
                      replace hB4 := F5.blkO hB4 (by omega)
                      replace hH := hH.thenO F5 (.inr (by omega))
                      have hcw : cb ≠ wb := by omega
                      have hcr : rb < cb := by omega
                      refine wl_nil (x_then (hK58 _ _ ?_))
                      clear hK58 K58
                      have hs5 := hH.size
                      have W5 := W3.framN (d := u3.drawn) hH
                      refine c_reg ?_ -- region 49 law.go:198
                      refine wl (ro_move rfl) ?_
                      refine wl (ro_move rfl) ?_
                      refine wl (ro_nilCheck rfl) ?_
                      refine wl (ro_fieldAddr (k := 4) rfl fo_76_4) ?_
                      refine wl (ro_loadB rfl sc_73 (hB4) (rfl)) ?_
                      refine wl (ro_move rfl) ?_
                      refine wl (ro_move rfl) ?_
                      refine wl (ro_build rfl bld_130_0_1) ?_
                      skip
                      refine wl_bsapp (cs := alc ⟨rb, cb, L⟩) rfl rfl rfl rfl se_73 zx_130 by_130 rfl rfl rfl (alc_cells _) W5.oa (by omega) (by omega) (fun VA' u9 hon9 F9 hnb9 ↦ ?_)
                      have ne9 : ∀ b l ty, Blk u5.heap b l ty → ty ≠ 130 → ¬ own1 (.slice aA As.length cA) b := fun b l ty hb ho h3 => by
                        obtain ⟨l', hl'⟩ := own_ty W5.oa h3
                        exact ho (hb.uniq hl').2
                      have hR9 := F9.blkF hR (ne9 _ _ _ hR (by decide))
                      have hC9 := F9.blkF hC' (ne9 _ _ _ hC' (by decide))
                      replace hB4 := F9.blkF hB4 (ne9 _ _ _ hB4 (by decide))
                      have W9 := W5.moreA (d := u5.drawn) (a := ⟨rb, cb, L⟩) hon9 hnb9 F9 (by omega) (by omega) hR9 hC9 hll (by show rb ≠ cb; omega) (by show _ ≤ rb; omega) (by show _ ≤ cb; omega) (fun j b hb => by
                          have := W.ltA hb
                          show rb ≠ b.rb ∧ rb ≠ b.cb ∧ cb ≠ b.rb ∧ cb ≠ b.cb
                          omega) (fun j u hu => by
                          refine ⟨fun hb => ?_, fun hb => ?_⟩
                          · have : rb < w.heap.size := (W.tw j u hu).ltT hb
                            omega
                          · have : cb < w.heap.size := (W.tw j u hu).ltT hb
                            omega)
                      have hZ9 : Fram none' w0 u9 := (hZ3.trans hH).trans' F9 (fun b hb h => by have := W.za b h; omega)
                      have hB9 := hB4
                      obtain ⟨aA9, cA9, rfl⟩ := hon9.form
                      refine wl (ro_nilCheck rfl) ?_
                      refine wl (ro_fieldAddr (k := 4) rfl fo_76_4) ?_
                      refine wl_put rfl rfl rfl sz_73 hB4 ((by simp)) (rfl) (fun w11 hB4 F11 => ?_)
                      replace W9 := W9.own (d := World.drawn _) hB9 F11
                      replace hZ9 := hZ9.trans' F11 (fun b hb h => by have h' : b = wb := h; omega)
                      refine wl_nil (x_blk (x_then (hK43 _ _ ?_)))
                      clear hK43 K43
                      refine forget [] trivial (fun e => ?_)
                      refine c_seq (fun K59 hK59 => ?_)
                      refine c_reg ?_ -- region 61 law.go:214
                      refine wl (ro_assign rfl) ?_
                      refine wl_nil (x_then (hK59 _ _ ?_))
                      clear hK59 K59
                      refine c_ret ?_
                      refine bp_ret Tryz.results31 rfl ?_
                      exact ⟨rfl, _, _, _, _, tm, rg, _, _, _, hB4, W9, hwb, htm, hZ9⟩
                  · try simp only [decide_eq_true_eq, decide_eq_false_iff_not, Bool.not_eq_true', Bool.not_eq_false', Bool.not_eq_eq_eq_not, Bool.not_true, Bool.not_false, beq_iff_eq, bne_iff_ne, ne_eq, beq_eq_false_iff_ne, bne_eq_false_iff_eq, gt_iff_lt, ge_iff_le, Int.not_lt, Int.not_le] at hc205
                    refine c_seq (fun K60 hK60 => ?_)
                    refine c_reg ?_ -- region 50 law.go:200
                    refine wl (ro_cmp (r := decide (k = 5)) rfl rfl (congrArg some (by first | rfl | simp))) ?_
                    refine wl (ro_assign rfl) ?_
                    refine wl_nil (x_then (hK60 _ _ ?_))
                    clear hK60 K60
                    refine wc_cond rfl (fun hc243 => ?_) (fun hc243 => ?_)
                    · try simp only [decide_eq_true_eq, decide_eq_false_iff_not, Bool.not_eq_true', Bool.not_eq_false', Bool.not_eq_eq_eq_not, Bool.not_true, Bool.not_false, beq_iff_eq, bne_iff_ne, ne_eq, beq_eq_false_iff_ne, bne_eq_false_iff_eq, gt_iff_lt, ge_iff_le, Int.not_lt, Int.not_le] at hc243
                      refine c_seq (fun K61 hK61 => ?_)
                      refine c_pi [(0, false), (1, false), (2, false), (3, false), (4, false), (5, false), (6, false), (7, false), (8, false), (9, false), (10, true), (11, false)] (fun w' => Blk w'.heap ob [.int .i64 k, .int .i64 A, .int .i64 B, .int .i64 C, S s, S t] 69 ∧ Blk w'.heap wb [.slice (some ⟨gX, 0, none⟩) ts.length cX, .slice (some ⟨gM, 0, none⟩) ts.length cM, S tm, .int .i64 rg, .slice aA As.length cA, .slice aC Cs.length cC] 76) mixed (by kernel_rfl) rfl (by kernel_rfl) (po_then (po_blk (po_then (po_bp)))) (⟨hO, hB⟩) ?_ -- region 51 law.go:201
                      refine pi_ro rfl (fun w hS => ro_move rfl) ?_
                      refine pi_ro rfl (fun w hS => ro_move rfl) ?_
                      refine pi_ro rfl (fun w hS => ro_fieldAddr (k := 4) rfl fo_69_4) ?_
                      refine pi_ro rfl (fun w hS => ro_loadB rfl sc_9 (hS.1) (rfl)) ?_
                      refine pi_ro rfl (fun w hS => ro_fieldAddr (k := 5) rfl fo_69_5) ?_
                      refine pi_ro rfl (fun w hS => ro_loadB rfl sc_9 (hS.1) (rfl)) ?_
                      refine pi_ro rfl (fun w hS => ro_move rfl) ?_
                      refine pi_ro rfl (fun w hS => ro_nilCheck rfl) ?_
                      refine pi_ro rfl (fun w hS => ro_fieldAddr (k := 2) rfl fo_76_2) ?_
                      refine pi_ro rfl (fun w hS => ro_loadB rfl sc_9 (hS.2) (rfl)) ?_
                      refine pi_call rfl rfl en_9 (replaced9 (PT1.framN (Fram.drew none' _ _)) (by omega) (by omega) hsm htm2 htm) ?_
                      rintro _ u3 ⟨rfl, P3, F3⟩
                      have F3' : Fram (bset2 tt.F tt.E) { w1 with drawn := w1.drawn + 1 } u3 := (Fram.drew (bset2 tt.F tt.E) _ _).trans F3
                      obtain ⟨hB3, W3, hZ3⟩ := fin u3 F3' (P3.up (by omega) (by omega))
                      refine ⟨⟨F3'.blkF hO (fun h => by have := hnob _ h; omega), hB3⟩, ?_⟩
                      refine pi_ro rfl (fun w hS => ro_assign rfl) ?_
                      refine pi_nil (x_then (hK61 _ _ ?_))
                      clear hK61 K61
                      refine c_ret (x_blkR (x_thenR ?_))
                      refine bp_ret Tryz.results31 rfl ?_
                      exact ⟨rfl, _, _, _, _, tm, rg, _, _, _, hB3, W3, hwb, htm, hZ3⟩
                    · try simp only [decide_eq_true_eq, decide_eq_false_iff_not, Bool.not_eq_true', Bool.not_eq_false', Bool.not_eq_eq_eq_not, Bool.not_true, Bool.not_false, beq_iff_eq, bne_iff_ne, ne_eq, beq_eq_false_iff_ne, bne_eq_false_iff_eq, gt_iff_lt, ge_iff_le, Int.not_lt, Int.not_le] at hc243
                      refine c_seq (fun K62 hK62 => ?_)
                      refine c_reg ?_ -- region 52 law.go:202
                      refine wl (ro_cmp (r := decide (k = 6)) rfl rfl (congrArg some (by first | rfl | simp))) ?_
                      refine wl (ro_assign rfl) ?_
                      refine wl_nil (x_then (hK62 _ _ ?_))
                      clear hK62 K62
                      refine wc_cond rfl (fun hc256 => ?_) (fun hc256 => ?_)
                      · try simp only [decide_eq_true_eq, decide_eq_false_iff_not, Bool.not_eq_true', Bool.not_eq_false', Bool.not_eq_eq_eq_not, Bool.not_true, Bool.not_false, beq_iff_eq, bne_iff_ne, ne_eq, beq_eq_false_iff_ne, bne_eq_false_iff_eq, gt_iff_lt, ge_iff_le, Int.not_lt, Int.not_le] at hc256
                        refine c_seq (fun K63 hK63 => ?_)
                        refine c_reg ?_ -- region 53 law.go:203
                        refine wl (ro_move rfl) ?_
                        refine wl (ro_move rfl) ?_
                        refine wl (ro_fieldAddr (k := 4) rfl fo_69_4) ?_
                        refine wl (ro_loadB rfl sc_9 (hO) (rfl)) ?_
                        refine wl (ro_fieldAddr (k := 5) rfl fo_69_5) ?_
                        refine wl (ro_loadB rfl sc_9 (hO) (rfl)) ?_
                        refine wl_call rfl en_10 (split10 PT1 (by omega) (by omega) hsm htm2) ?_
                        rintro _ u3 ⟨⟨V1, rfl, hQ⟩, P3, F3⟩
                        obtain ⟨hB3, W3, hZ3⟩ := fin u3 F3 (P3.up (by omega) (by omega))
                        have hs3 : w1.heap.size ≤ u3.heap.size := F3.size
                        have hH : Fram none' u3 u3 := Fram.refl _ _
                        have hB4 := hB3
                        have hb3 := hB3.lt
                        refine wl (ro_move rfl) ?_
                        refine wl (ro_extract rfl rfl) ?_
                        refine wl (ro_extract rfl rfl) ?_
                        refine wl (ro_assign rfl) ?_
                        refine wl (ro_assign rfl) ?_
                        refine wl_nil (x_then (hK63 _ _ ?_))
                        clear hK63 K63
                        refine c_seq (fun K64 hK64 => ?_)
                        refine c_seq (fun K65 hK65 => ?_)
                        unfold SpQ at hQ
                        rcases hE5 : engT s t with er | r
                        · skip
                          rw [hE5] at hQ
                          obtain rfl : V1 = .slice none 0 0 := hQ
                          refine c_reg ?_ -- region 54 law.go:204
                          refine wl (ro_move rfl) ?_
                          refine wl (ro_not rfl) ?_
                          refine wl_nil (x_then (hK65 _ _ ?_))
                          clear hK65 K65
                          refine wc_condF rfl ?_
                          refine c_skip (x_then (hK64 _ _ ?_))
                          clear hK64 K64
                          refine forget [(0, _), (19, _)] ⟨rfl, rfl, trivial⟩ (fun e => ?_)
                          refine c_seq (fun K66 hK66 => ?_)
                          refine c_reg ?_ -- region 56 law.go:207
                          refine wl (ro_move rfl) ?_
                          refine wl (ro_sliceNil (r := false) rfl rfl se_31 rfl) ?_
                          refine wl_nil (x_then (hK66 _ _ ?_))
                          clear hK66 K66
                          refine wc_condF rfl ?_
                          refine c_skip (x_blk (x_then (hK43 _ _ ?_)))
                          clear hK43 K43
                          refine forget [] trivial (fun e => ?_)
                          refine c_seq (fun K67 hK67 => ?_)
                          refine c_reg ?_ -- region 61 law.go:214
                          refine wl (ro_assign rfl) ?_
                          refine wl_nil (x_then (hK67 _ _ ?_))
                          clear hK67 K67
                          refine c_ret ?_
                          refine bp_ret Tryz.results31 rfl ?_
                          exact ⟨rfl, _, _, _, _, tm, rg, _, _, _, hB4, W3, hwb, htm, hZ3⟩
                        · skip
                          rw [hE5] at hQ
                          simp only at hQ
                          obtain ⟨hll, rb, rfl, hrb, hR⟩ := hQ
                          generalize splF t (scanAll t r 0) 0 = L at hll hR
                          have hrlt := hR.lt
                          have hrb' : w1.heap.size ≤ rb := hrb
                          have hrw : rb ≠ wb := by omega
                          refine c_reg ?_ -- region 54 law.go:204
                          refine wl (ro_move rfl) ?_
                          refine wl (ro_not rfl) ?_
                          refine wl_nil (x_then (hK65 _ _ ?_))
                          clear hK65 K65
                          refine wc_condF rfl ?_
                          refine c_skip (x_then (hK64 _ _ ?_))
                          clear hK64 K64
                          refine forget [(0, _), (19, _)] ⟨rfl, rfl, trivial⟩ (fun e => ?_)
                          refine c_seq (fun K68 hK68 => ?_)
                          refine c_reg ?_ -- region 56 law.go:207
                          refine wl (ro_move rfl) ?_
                          refine wl (ro_sliceNil (r := true) rfl rfl se_31 rfl) ?_
                          refine wl_nil (x_then (hK68 _ _ ?_))
                          clear hK68 K68
                          refine wc_condT rfl ?_
                          refine c_seq (fun K69 hK69 => ?_)
                          refine c_reg ?_ -- region 57 law.go:208
                          refine wl (ro_move rfl) ?_
                          refine wl (ro_move rfl) ?_
                          refine wl (ro_capL rfl se_31) ?_
                          refine wl (ro_sliceH (h := L.length) rfl rfl se_31 rfl (Nat.le_refl _)) ?_
                          refine wl (ro_assign rfl) ?_
                          refine wl_nil (x_then (hK69 _ _ ?_))
                          clear hK69 K69
                          refine forget [(0, _), (21, _)] ⟨rfl, rfl, trivial⟩ (fun e => ?_)
                          refine c_seq (fun K70 hK70 => ?_)
                          refine c_reg ?_ -- region 58 law.go:209
                          refine wl (ro_move rfl) ?_
                          refine wl (ro_lenL rfl se_31) ?_
                          refine wl_make (len := L.length) (cap := L.length) rfl rfl se_31 ze_9 (by simp) (by omega) (by omega) rfl bb_9 (fun cb w12 hbcb hC F12 => ?_)
                          have hbscb := Nat.le_trans hH.size hbcb
                          have hnewbcb : wb < cb := Nat.lt_of_lt_of_le hB4.lt hbcb
                          have hnerbcb : rb < cb := Nat.lt_of_lt_of_le hR.lt hbcb
                          replace hH := hH.thenDrew.thenN F12
                          replace hB4 := F12.blkN hB4
                          replace hR := F12.blkN hR
                          refine wl (ro_assign rfl) ?_
                          refine wl_nil (x_then (hK70 _ _ ?_))
                          clear hK70 K70
                          refine forget [(0, _), (21, _), (22, _)] ⟨rfl, rfl, rfl, trivial⟩ (fun e => ?_)
                          refine c_seq (fun K71 hK71 => ?_)
                          have hRl := rws_len txc_len L
                          have hRf : FB _ rb (L.length * 1) (fun j => (rws txc L).getD j undef) 9 := (congrArg (fun q => Blk _ rb q 9) ((congrArg (fun q => cel q (fun j => (rws txc L).getD j undef)) hRl.symm).trans (cel_getD (rws txc L)))).mpr hR
                          refine c_reg ?_ -- region 59 law.go:210
                          refine wl (ro_move rfl) ?_
                          refine wl (ro_move rfl) ?_
                          refine wl_copy (m := L.length) rfl rfl se_31 hC hRf (Nat.min_self _) (fun j hj => by
                            rw [Nat.zero_add]
                            have hlt : j < (rws txc L).length := by rw [hRl]; exact hj
                            rw [List.getD, List.getElem?_eq_getElem hlt]
                            exact rws_cellsG (fun c u hu => by simp only [txc, List.mem_cons, List.not_mem_nil, or_false] at hu; subst hu; rfl) (List.getElem_mem hlt)) (by omega) (by omega) (fun u5 hC F5 => ?_)
                          have hC' : Blk u5.heap cb (rws txc L) 9 := by
                            have h5 : FB u5.heap cb (L.length * 1) (cpf _ 0 _ 0 (L.length * 1)) 9 := hC
                            unfold FB at h5
                            rw [cpf_all, ← hRl, cel_getD] at h5
                            exact h5
                          replace hR := F5.blkO hR (by omega)
                          replace hB4 := F5.blkO hB4 (by omega)
                          replace hH := hH.thenO F5 (.inr (by omega))
                          have hcw : cb ≠ wb := by omega
                          have hcr : rb < cb := by omega
                          refine wl_nil (x_then (hK71 _ _ ?_))
                          clear hK71 K71
                          have hs5 := hH.size
                          have W5 := W3.framN (d := u3.drawn) hH
                          refine c_reg ?_ -- region 60 law.go:211
                          refine wl (ro_move rfl) ?_
                          refine wl (ro_move rfl) ?_
                          refine wl (ro_nilCheck rfl) ?_
                          refine wl (ro_fieldAddr (k := 5) rfl fo_76_5) ?_
                          refine wl (ro_loadB rfl sc_74 (hB4) (rfl)) ?_
                          refine wl (ro_move rfl) ?_
                          refine wl (ro_move rfl) ?_
                          refine wl (ro_build rfl bld_133_0_1) ?_
                          skip
                          refine wl_bsapp (cs := alc ⟨rb, cb, L⟩) rfl rfl rfl rfl se_74 zx_133 by_133 rfl rfl rfl (alc_cells _) W5.oc (by omega) (by omega) (fun VA' u9 hon9 F9 hnb9 ↦ ?_)
                          have ne9 : ∀ b l ty, Blk u5.heap b l ty → ty ≠ 133 → ¬ own1 (.slice aC Cs.length cC) b := fun b l ty hb ho h3 => by
                            obtain ⟨l', hl'⟩ := own_ty W5.oc h3
                            exact ho (hb.uniq hl').2
                          have hR9 := F9.blkF hR (ne9 _ _ _ hR (by decide))
                          have hC9 := F9.blkF hC' (ne9 _ _ _ hC' (by decide))
                          replace hB4 := F9.blkF hB4 (ne9 _ _ _ hB4 (by decide))
                          have W9 := W5.moreC (d := u5.drawn) (a := ⟨rb, cb, L⟩) hon9 hnb9 F9 (by omega) (by omega) hR9 hC9 hll (by show rb ≠ cb; omega) (by show _ ≤ rb; omega) (by show _ ≤ cb; omega) (fun j b hb => by
                              have := W.ltC hb
                              show rb ≠ b.rb ∧ rb ≠ b.cb ∧ cb ≠ b.rb ∧ cb ≠ b.cb
                              omega)
                          have hZ9 : Fram none' w0 u9 := (hZ3.trans hH).trans' F9 (fun b hb h => by have := W.zc b h; omega)
                          have hB9 := hB4
                          obtain ⟨aA9, cA9, rfl⟩ := hon9.form
                          refine wl (ro_nilCheck rfl) ?_
                          refine wl (ro_fieldAddr (k := 5) rfl fo_76_5) ?_
                          refine wl_put rfl rfl rfl sz_74 hB4 ((by simp)) (rfl) (fun w13 hB4 F13 => ?_)
                          replace W9 := W9.own (d := World.drawn _) hB9 F13
                          replace hZ9 := hZ9.trans' F13 (fun b hb h => by have h' : b = wb := h; omega)
                          refine wl_nil (x_blk (x_then (hK43 _ _ ?_)))
                          clear hK43 K43
                          refine forget [] trivial (fun e => ?_)
                          refine c_seq (fun K72 hK72 => ?_)
                          refine c_reg ?_ -- region 61 law.go:214
                          refine wl (ro_assign rfl) ?_
                          refine wl_nil (x_then (hK72 _ _ ?_))
                          clear hK72 K72
                          refine c_ret ?_
                          refine bp_ret Tryz.results31 rfl ?_
                          exact ⟨rfl, _, _, _, _, tm, rg, _, _, _, hB4, W9, hwb, htm, hZ9⟩
                      · try simp only [decide_eq_true_eq, decide_eq_false_iff_not, Bool.not_eq_true', Bool.not_eq_false', Bool.not_eq_eq_eq_not, Bool.not_true, Bool.not_false, beq_iff_eq, bne_iff_ne, ne_eq, beq_eq_false_iff_ne, bne_eq_false_iff_eq, gt_iff_lt, ge_iff_le, Int.not_lt, Int.not_le] at hc256
                        refine c_skip (x_blk (x_then (hK43 _ _ ?_)))
                        clear hK43 K43
                        refine forget [] trivial (fun e => ?_)
                        refine c_seq (fun K73 hK73 => ?_)
                        refine c_reg ?_ -- region 61 law.go:214
                        refine wl (ro_assign rfl) ?_
                        refine wl_nil (x_then (hK73 _ _ ?_))
                        clear hK73 K73
                        refine c_ret ?_
                        refine bp_ret Tryz.results31 rfl ?_
                        exact ⟨rfl, _, _, _, _, tm, rg, _, _, _, hB, (W.framN (d := w.drawn) hEd).up (Nat.le_succ N), hwb, htm, hZ.trans hEd⟩

end Go.Proofs.Qxb6500567aGreat
