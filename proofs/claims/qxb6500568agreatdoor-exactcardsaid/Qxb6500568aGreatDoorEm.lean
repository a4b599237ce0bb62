import Derived.Test.Qxb6500568aGreatDoorEl
/- The real parser: what stands behind a primary expression. -/
namespace Go.Proofs.Qxb6500568aGreatDoor
open Ieee
set_option linter.unusedVariables false
set_option linter.unusedSimpArgs false

theorem pi_box {P : Program} {n : Nat} {e : Nat → Option Value} {w : World} {ops : Array Oper} {Q : Exit → Act → World → Prop} {S : World → Prop} {i d : Nat} {r : List (Nat × Bool)} {ty : TypeId} {ps : String} {af : Array Edge} {t : TypeId} {x : Operand} {v : Value} {cs : List Value} (ho : ops[i]? = some ⟨some d, .box t x, ty, ps, af, none⟩) (hx : evO n e x = some v) (hv : v.cells = cs.toArray) (hS : ∀ w1, Fram none' w w1 → S w1)
    (k : ∀ b w1, w.heap.size ≤ b → Blk w1.heap b cs t → Fram none' w w1 → WP P ops Q S r (Fr n (upd e d (ptr b)) []) w1) : WP P ops Q S ((i, true) :: r) (Fr n e []) w :=
  pi_eo ho (eo_box hx hv) (hS _ (Fram.alloc none' w _)) (k w.heap.size _ (Nat.le_refl _) (Blk.new w cs t) (Fram.alloc none' w _))
set_option maxHeartbeats 8000000 in
theorem post183 {f : Nat} {w : World} {ow : Nat → Nat} {pb tb cap : Nat} {L : List Tok} {s : PS} {lv : Nat} {ρ : Int} {R : PO} (ih : PAll f) (hG : PGo w ow pb tb cap L s lv ρ) (hR : parP (f + 1) 3 lv 0 0 dumT s = some R) : Ret Tryz.prog 183 [ptr pb, .int .i64 ρ] w (Rs1 w ow pb tb cap L 0 R) := by
  have hP := hG.pr
  have hT := hG.cx.tk
  have hne := hG.cx.ne
  have hρ := hG.rm
  have hPl := hG.cx.pl
  have hl13 := hG.l13
  have hF : Fram (one pb) w w := Fram.refl _ _
  replace hR : pPost (parP f) lv s = some R := hR
  unfold pPost at hR
  refine ret_of Tryz.func183 rfl Tryz.ntmps183 rfl ?_
  refine c_seq (fun K1 hK1 => ?_)
  refine c_reg ?_ -- region 0 expr.go:127
  refine wl (ro_assign rfl) ?_
  refine wl_nil (x_then (hK1 _ _ ?_))
  clear hK1 K1
  refine c_seq (fun K2 hK2 => ?_)
  refine c_seq (fun K3 hK3 => ?_)
  refine c_reg ?_ -- region 1 expr.go:128
  refine wl (ro_move rfl) ?_
  refine wl (ro_cmp rfl rfl rfl) ?_
  refine wl_nil (x_then (hK3 _ _ ?_))
  clear hK3 K3
  refine wc_cond rfl (fun hc12 => ?_) (fun hc12 => ?_)
  · try simp only [decide_eq_true_eq, decide_eq_false_iff_not, Bool.not_eq_true', Bool.not_eq_false', Bool.not_eq_eq_eq_not, Bool.not_true, Bool.not_false, beq_iff_eq, bne_iff_ne, ne_eq, beq_eq_false_iff_ne, bne_eq_false_iff_eq, gt_iff_lt, ge_iff_le, Int.not_lt, Int.not_le] at hc12
    rw [if_pos (by omega)] at hR
    cases failP_inj hR
    refine c_seq (fun K4 hK4 => ?_)
    refine c_reg ?_ -- region 2 expr.go:129
    refine wl (ro_move rfl) ?_
    refine wl_call rfl en_77 (fail77 (e := 16) hP) ?_
    rintro _ u1 ⟨rfl, hP1, F9⟩
    refine wl_nil (x_then (hK4 _ _ ?_))
    clear hK4 K4
    refine forget [] trivial (fun e => ?_)
    refine c_seq (fun K5 hK5 => ?_)
    refine c_reg ?_ -- region 3 expr.go:130
    refine wl (ro_assign rfl) ?_
    refine wl_nil (x_then (hK5 _ _ ?_))
    clear hK5 K5
    refine c_ret (x_thenR ?_)
    refine bp_ret Tryz.results183 rfl ?_
    exact ⟨hF.trans' F9 (fun _ _ h => h), rfl, hP1⟩
  · try simp only [decide_eq_true_eq, decide_eq_false_iff_not, Bool.not_eq_true', Bool.not_eq_false', Bool.not_eq_eq_eq_not, Bool.not_true, Bool.not_false, beq_iff_eq, bne_iff_ne, ne_eq, beq_eq_false_iff_ne, bne_eq_false_iff_eq, gt_iff_lt, ge_iff_le, Int.not_lt, Int.not_le] at hc12
    rw [if_neg (by omega)] at hR
    have hlv : lv ≤ 12 := by omega
    refine c_skip (x_then (hK2 _ _ ?_))
    clear hK2 K2
    refine forget [(0, _), (1, _)] ⟨rfl, rfl, trivial⟩ (fun e => ?_)
    refine c_seq (fun K6 hK6 => ?_)
    rcases bdP_some hR with ⟨⟨ee, pp⟩, hq, rfl⟩ | ⟨t1, s1, hq, hR⟩
    · skip
      refine c_reg ?_ -- region 4 expr.go:132
      refine wl (ro_move rfl) ?_
      refine wl (ro_move rfl) ?_
      refine wl_call rfl en_224 (prim224 ih hG hlv hq) ?_
      rintro v u3 ⟨hF, rfl, hE⟩
      refine wl (ro_assign rfl) ?_
      refine wl_nil (x_then (hK6 _ _ ?_))
      clear hK6 K6
      refine forget [(0, _), (1, _), (5, _)] ⟨rfl, rfl, rfl, trivial⟩ (fun e => ?_)
      refine c_seq (fun K7 hK7 => ?_)
      refine c_block ?_
      -- loop@r5: live slots [0, 1, 5]
      refine c_loopG (fun n a' w' => n = 0 ∧ w' = u3 ∧ ∃ e, a' = Fr 94 (upds e [(5, .nilIface)]) []) 0 ⟨rfl, rfl, kp _ ⟨rfl, trivial⟩⟩ ?_
      rintro n a' w1 ⟨rfl, rfl, e, rfl⟩
      refine c_seq (fun K8 hK8 => ?_)
      refine c_seq (fun K9 hK9 => ?_)
      refine c_reg ?_ -- region 5 expr.go:133
      refine wl (ro_move rfl) ?_
      refine wl (ro_neqNilN rfl ifc_290) ?_
      refine wl_nil (x_then (hK9 _ _ ?_))
      clear hK9 K9
      refine wc_condF rfl ?_
      refine c_exit (x_thenX (x_thenX (x_blkX (x_then (hK7 _ _ ?_)))))
      clear hK8 K8 hK7 K7
      refine forget [] trivial (fun e => ?_)
      refine c_seq (fun K10 hK10 => ?_)
      refine c_reg ?_ -- region 27 expr.go:161
      refine wl (ro_assign rfl) ?_
      refine wl_nil (x_then (hK10 _ _ ?_))
      clear hK10 K10
      refine c_ret ?_
      refine bp_ret Tryz.results183 rfl ?_
      exact ⟨hF, rfl, hE⟩
    · skip
      refine c_reg ?_ -- region 4 expr.go:132
      refine wl (ro_move rfl) ?_
      refine wl (ro_move rfl) ?_
      refine wl_call rfl en_224 (prim224 ih hG hlv hq) ?_
      rintro v u3 ⟨hF, hT1, hP1⟩
      have hSm1 : Sm s s1 := (st_prim (par_q f) hG.pe hlv t1 s1 hq).2.1
      refine wl (ro_assign rfl) ?_
      refine wl_nil (x_then (hK6 _ _ ?_))
      clear hK6 K6
      refine forget [(0, _), (1, _), (5, _)] ⟨rfl, rfl, rfl, trivial⟩ (fun e => ?_)
      refine c_seq (fun K11 hK11 => ?_)
      refine c_block ?_
      -- loop@r5: live slots [0, 1, 5]
      refine c_loopG (fun n a' w' => ∃ (x : Tr) (v : Value) (s1 : PS), n ≤ f ∧ parP n 4 lv 0 0 x s1 = some R ∧ TrM w' (N63 w ow) 0 x [v] ∧ PrV w' pb tb cap L s1 ∧ Sm s s1 ∧ Fram (one pb) w w' ∧ ∃ e, a' = Fr 94 (upds e [(0, ptr pb), (1, .int .i64 ρ), (5, v)]) []) f ⟨t1, v, s1, Nat.le_refl _, hR, hT1, hP1, hSm1, hF, kp _ ⟨rfl, rfl, rfl, trivial⟩⟩ ?_
      clear hF hR hT1 hP1 hP hT hq hSm1
      clear s1 t1
      rintro n a' u1 ⟨x, v, s1, hn, hR, hT1, hP, hSm, hF, e, rfl⟩
      obtain ⟨TT, bb, rfl⟩ := hT1.ifc (.inl rfl)
      obtain ⟨i, hX, hi, hs⟩ := hP.ex
      unfold prc at hX
      have hkk : s1.k = s1.cur.k := rfl
      have hwu := hF.size
      have hcx := hG.cx.go hF
      have hpe := hG.pe.cm hSm.toCm
      obtain ⟨g, rfl⟩ : ∃ g, n = g + 1 := by
        cases n with
        | zero => cases hR
        | succ g => exact ⟨g, rfl⟩
      replace hR : pTail (parP g) lv x s1 = some R := hR
      unfold pTail at hR
      have hL : Fram none' u1 u1 := Fram.refl _ _
      have hXl := hX.lt
      refine c_seq (fun K12 hK12 => ?_)
      refine c_seq (fun K13 hK13 => ?_)
      refine c_reg ?_ -- region 5 expr.go:133
      refine wl (ro_move rfl) ?_
      refine wl (ro_neqNilI rfl ifc_290) ?_
      refine wl_nil (x_then (hK13 _ _ ?_))
      clear hK13 K13
      refine wc_condT rfl ?_
      refine c_skip (x_then (hK12 _ _ ?_))
      clear hK12 K12
      refine c_block ?_
      refine forget [(0, _), (1, _), (5, _)] ⟨rfl, rfl, rfl, trivial⟩ (fun e => ?_)
      refine c_seq (fun K14 hK14 => ?_)
      refine c_reg ?_ -- region 6 expr.go:134
      refine wl (ro_move rfl) ?_
      refine wl (ro_nilCheck rfl) ?_
      refine wl (ro_fieldAddr (k := 2) rfl fo_186_2) ?_
      refine wl (ro_loadAggB rfl ag_182 (by assumption) rfl rfl) ?_
      refine wl_new (ze_182) (fun b6 w1 hbb6 h6 F1 => ?_)
      have hbsb6 := Nat.le_trans hF.size hbb6
      have hnepbb6 : pb < b6 := Nat.lt_of_lt_of_le hX.lt hbb6
      have hbsb6 := Nat.le_trans hL.size hbb6
      replace hF := hF.thenDrew.thenN F1
      replace hX := F1.blkN hX
      replace hL := hL.thenDrew.thenN F1
      refine wl_puta rfl rfl ((by (try exact vlc_cells _); all_goals simp [Value.oneCell', i64c, icv, u64c, u8c, ptr, S])) sz_182 (rfl) h6 ((by simp)) (rfl) (fun w2 h6 F2 => ?_)
      replace hF := hF.thenDrew.thenO F2 (by first | exact .inr (by omega) | exact .inl rfl | exact .inl (by assumption) | assumption)
      replace hX := F2.blkO hX (by omega)
      replace hL := hL.thenDrew.thenO F2 (by first | exact .inr (by omega) | exact .inl rfl | exact .inl (by assumption) | assumption)
      refine wl_nil (x_then (hK14 _ _ ?_))
      clear hK14 K14
      refine forget [(0, _), (1, _), (5, _), (6, _)] ⟨rfl, rfl, rfl, rfl, trivial⟩ (fun e => ?_)
      refine c_seq (fun K15 hK15 => ?_)
      refine c_reg ?_ -- region 7 expr.go:135
      refine wl (ro_fieldAddr (k := 0) rfl fo_182_0) ?_
      refine wl (ro_loadB rfl sc_180 (by assumption) rfl) ?_
      refine wl_nil (x_then (hK15 _ _ ?_))
      clear hK15 K15
      refine c_block ?_
      refine forget [(0, _), (1, _), (5, _), (6, _), (25, _)] ⟨rfl, rfl, rfl, rfl, rfl, trivial⟩ (fun e => ?_)
      refine c_seq (fun K16 hK16 => ?_)
      refine c_reg ?_ -- region 9 expr.go:136
      refine wl (ro_cmp rfl rfl rfl) ?_
      refine wl (ro_assign rfl) ?_
      refine wl_nil (x_then (hK16 _ _ ?_))
      clear hK16 K16
      refine wc_cond rfl (fun hc27 => ?_) (fun hc27 => ?_)
      · try simp only [decide_eq_true_eq, decide_eq_false_iff_not, Bool.not_eq_true', Bool.not_eq_false', Bool.not_eq_eq_eq_not, Bool.not_true, Bool.not_false, beq_iff_eq, bne_iff_ne, ne_eq, beq_eq_false_iff_ne, bne_eq_false_iff_eq, gt_iff_lt, ge_iff_le, Int.not_lt, Int.not_le] at hc27
        rw [if_pos (by omega)] at hR
        refine c_seq (fun K17 hK17 => ?_)
        refine c_reg ?_ -- region 10 expr.go:137
        refine wl (ro_move rfl) ?_
        refine wl_call rfl en_176 (next176 (hP.farN hL) (hcx.tk.farN hL) hne (by omega)) ?_
        rintro _ u2 ⟨rfl, hP1, F9⟩
        replace h6 := F9.blkO h6 (by omega)
        replace hT1 := (hT1.thruN hL).thru (hG.cx.go hF) F9
        replace hF := hF.trans' F9 (fun _ _ h => h)
        have hSm2 := hSm.trans (Sm.adv hpe)
        refine wl_nil (x_then (hK17 _ _ ?_))
        clear hK17 K17
        refine forget [(0, _), (1, _), (5, _), (6, _)] ⟨rfl, rfl, rfl, rfl, trivial⟩ (fun e => ?_)
        refine c_seq (fun K18 hK18 => ?_)
        by_cases hk2 : s1.adv.k = 2
        · skip
          refine c_reg ?_ -- region 11 expr.go:138
          refine wl (ro_move rfl) ?_
          refine wl_call rfl en_219 (name219 (x := 0) hP1 (hG.cx.go hF).tk hne (by decide)) ?_
          rintro v u3 ⟨F9, hv⟩
          rw [if_neg (by omega), if_neg (by omega)] at hv
          obtain ⟨b7, p7, rfl, hb7, h7, hP2⟩ := hv
          have hne67 : b6 < b7 := Nat.lt_of_lt_of_le h6.lt hb7
          replace h6 := F9.blkO h6 (by omega)
          replace hT1 := hT1.thru (hG.cx.go hF) F9
          replace hF := hF.trans' F9 (fun _ _ h => h)
          unfold nameP at hR
          rw [if_neg (by omega), if_neg (by omega)] at hR
          refine wl (ro_assign rfl) ?_
          refine wl_nil (x_then (hK18 _ _ ?_))
          clear hK18 K18
          refine c_seq (fun K19 hK19 => ?_)
          refine c_seq (fun K20 hK20 => ?_)
          refine c_reg ?_ -- region 12 expr.go:139
          refine wl (ro_move rfl) ?_
          refine wl (ro_eqPtrNil rfl pt_305 rfl) ?_
          refine wl_nil (x_then (hK20 _ _ ?_))
          clear hK20 K20
          refine wc_condF rfl ?_
          refine c_skip (x_then (hK19 _ _ ?_))
          clear hK19 K19
          refine c_pi [(0, false), (1, false), (2, false), (3, false), (4, false), (5, false), (6, false), (7, false), (8, false), (9, false), (10, false), (11, false), (12, true), (13, false), (14, false), (15, true), (16, false), (17, false)] (fun w => Blk w.heap b6 (tkc s1.cur) 182 ∧ Blk w.heap b7 [i64c p7, S s1.adv.cur.s] 349) mixed (by kernel_rfl) rfl (by kernel_rfl) (po_blk (po_blk (po_then (po_blk (po_then (po_bp)))))) (⟨h6, h7⟩) ?_ -- region 14 expr.go:142
          refine pi_ro rfl (fun w hS => ro_fieldAddr (k := 1) rfl fo_182_1) ?_
          refine pi_ro rfl (fun w hS => ro_loadB rfl sc_3 (hS.1) rfl) ?_
          refine pi_ro rfl (fun w hS => ro_move rfl) ?_
          refine pi_ro rfl (fun w hS => ro_move rfl) ?_
          refine pi_ro rfl (fun w hS => ro_nilCheck rfl) ?_
          refine pi_ro rfl (fun w hS => ro_fieldAddr (k := 0) rfl fo_349_0) ?_
          refine pi_ro rfl (fun w hS => ro_loadB rfl sc_3 (hS.2) rfl) ?_
          refine pi_ro rfl (fun w hS => ro_move rfl) ?_
          refine pi_ro rfl (fun w hS => ro_nilCheck rfl) ?_
          refine pi_ro rfl (fun w hS => ro_fieldAddr (k := 1) rfl fo_349_1) ?_
          refine pi_ro rfl (fun w hS => ro_loadB rfl sc_9 (hS.2) rfl) ?_
          refine pi_ro rfl (fun w hS => ro_build rfl bld_375_0_1) ?_
          refine pi_box rfl rfl rfl (fun w1 F ↦ ⟨F.blkN h6, F.blkN h7⟩) ?_
          intro b47 u4 hb47 h47 F47'
          have hb47' : u3.heap.size ≤ b47 := hb47
          have F47 : Fram none' u3 u4 := (Fram.refl none' u3).thenDrew.thenN F47'
          replace h6 := F47.blkN h6
          replace h7 := F47.blkN h7
          replace hT1 := hT1.thruN F47
          have hF4 := hF.thenN F47
          refine pi_ro rfl (fun w hS => ro_mkIface rfl (by kernel_rfl)) ?_
          refine pi_ro rfl (fun w hS => ro_build rfl bld_377_0_1_2) ?_
          refine pi_box rfl rfl rfl (fun w1 F ↦ ⟨F.blkN h6, F.blkN h7⟩) ?_
          intro b50 u5 hb50 h50 F50'
          have hb50' : u4.heap.size ≤ b50 := hb50
          have F50 : Fram none' u4 u5 := by first | exact F50' | exact (Fram.refl none' u4).thenDrew.thenN F50'
          replace hT1 := hT1.thruN F50
          have hT47 : TrM u5 (N63 w ow) 0 (Ex.str s1.adv.cur.s) [.iface 374 (ptr b47)] := TrM_str.2 ⟨b47, p7, rfl, F50.blkN h47, nw_new (by have := hF.size; omega)⟩
          have hF5 := hF4.thenN F50
          have hP5 := (hP2.farN F47).farN F50
          have hpe2 := hG.pe.cm hSm2.toCm
          refine pi_ro rfl (fun w hS => ro_mkIface rfl (by kernel_rfl)) ?_
          refine pi_ro rfl (fun w hS => ro_assign rfl) ?_
          refine pi_nil (x_blk (x_blk (x_then ?_)))
          exact ⟨g, by omega, _, _, s1.adv.adv, by omega, hR, TrM_index.2 ⟨b50, _, _, _, rfl, ⟨h50, nw_new (by have := hF4.size; omega)⟩, hT1, hT47⟩, hP5, hSm2.trans (Sm.adv hpe2), hF5, kp _ ⟨rfl, rfl, rfl, trivial⟩⟩
        · skip
          refine c_reg ?_ -- region 11 expr.go:138
          refine wl (ro_move rfl) ?_
          refine wl_call rfl en_219 (name219 (x := 0) hP1 (hG.cx.go hF).tk hne (by decide)) ?_
          rintro v u3 ⟨F9, hv⟩
          rw [if_pos hk2] at hv
          obtain ⟨rfl, hE⟩ := hv
          unfold nameP at hR
          rw [if_pos hk2] at hR
          cases failP_inj hR
          replace hF := hF.trans' F9 (fun _ _ h => h)
          refine wl (ro_assign rfl) ?_
          refine wl_nil (x_then (hK18 _ _ ?_))
          clear hK18 K18
          refine c_seq (fun K21 hK21 => ?_)
          refine c_seq (fun K22 hK22 => ?_)
          refine c_reg ?_ -- region 12 expr.go:139
          refine wl (ro_move rfl) ?_
          refine wl (ro_eqPtrNil rfl pt_305 rfl) ?_
          refine wl_nil (x_then (hK22 _ _ ?_))
          clear hK22 K22
          refine wc_condT rfl ?_
          refine c_seq (fun K23 hK23 => ?_)
          refine c_reg ?_ -- region 13 expr.go:140
          refine wl (ro_assign rfl) ?_
          refine wl_nil (x_then (hK23 _ _ ?_))
          clear hK23 K23
          refine c_ret (x_thenR (x_blkR (x_blkR (x_thenR (x_blkR (x_thenR ?_))))))
          refine bp_ret Tryz.results183 rfl ?_
          exact ⟨hF, rfl, hE⟩
      · try simp only [decide_eq_true_eq, decide_eq_false_iff_not, Bool.not_eq_true', Bool.not_eq_false', Bool.not_eq_eq_eq_not, Bool.not_true, Bool.not_false, beq_iff_eq, bne_iff_ne, ne_eq, beq_eq_false_iff_ne, bne_eq_false_iff_eq, gt_iff_lt, ge_iff_le, Int.not_lt, Int.not_le] at hc27
        rw [if_neg (by omega)] at hR
        refine c_seq (fun K24 hK24 => ?_)
        refine c_reg ?_ -- region 15 expr.go:143
        refine wl (ro_cmp rfl rfl rfl) ?_
        refine wl (ro_assign rfl) ?_
        refine wl_nil (x_then (hK24 _ _ ?_))
        clear hK24 K24
        refine wc_cond rfl (fun hc52 => ?_) (fun hc52 => ?_)
        · try simp only [decide_eq_true_eq, decide_eq_false_iff_not, Bool.not_eq_true', Bool.not_eq_false', Bool.not_eq_eq_eq_not, Bool.not_true, Bool.not_false, beq_iff_eq, bne_iff_ne, ne_eq, beq_eq_false_iff_ne, bne_eq_false_iff_eq, gt_iff_lt, ge_iff_le, Int.not_lt, Int.not_le] at hc52
          rw [if_pos (by omega)] at hR
          refine c_seq (fun K25 hK25 => ?_)
          refine c_reg ?_ -- region 16 expr.go:144
          refine wl (ro_move rfl) ?_
          refine wl_call rfl en_176 (next176 (hP.farN hL) (hcx.tk.farN hL) hne (by omega)) ?_
          rintro _ u2 ⟨rfl, hP1, F9⟩
          replace h6 := F9.blkO h6 (by omega)
          replace hT1 := (hT1.thruN hL).thru (hG.cx.go hF) F9
          replace hF := hF.trans' F9 (fun _ _ h => h)
          have hSm2 := hSm.trans (Sm.adv hpe)
          refine wl_nil (x_then (hK25 _ _ ?_))
          clear hK25 K25
          refine forget [(0, _), (1, _), (5, _), (6, _)] ⟨rfl, rfl, rfl, rfl, trivial⟩ (fun e => ?_)
          refine c_seq (fun K26 hK26 => ?_)
          rcases bdP_some hR with ⟨⟨ee, pp⟩, hq, rfl⟩ | ⟨t2, s2, hq, hR⟩
          · skip
            refine c_reg ?_ -- region 17 expr.go:145
            refine wl (ro_move rfl) ?_
            refine wl (ro_move rfl) ?_
            refine wl (ro_arith rfl rfl rfl (Go.IntWalk.i64_in _ (by omega))) ?_
            refine wl_call rfl en_180 (ih.e0 (r := 1) (lv := lv + 1) ⟨hG.cx.go hF, hP1, hG.pe.cm hSm2.toCm, by omega, by rw [hSm2.lo]; have := hG.lo; omega, by omega⟩ (by decide) (by decide) (par_mono (by omega) 0 (lv + 1) 1 0 dumT s1.adv _ hq)) ?_
            rintro v u3 hr
            obtain ⟨hF, rfl, hE⟩ := hr.thru hF
            refine wl (ro_assign rfl) ?_
            refine wl_nil (x_then (hK26 _ _ ?_))
            clear hK26 K26
            refine c_seq (fun K27 hK27 => ?_)
            refine c_seq (fun K28 hK28 => ?_)
            refine c_reg ?_ -- region 18 expr.go:146
            refine wl (ro_move rfl) ?_
            refine wl (ro_eqNilN rfl ifc_290) ?_
            refine wl (ro_move rfl) ?_
            refine wlg_no rfl ?_
            refine wlg_no rfl ?_
            refine wlg_no rfl ?_
            refine wl (ro_pick rfl rfl rfl) ?_
            refine wl_nil (x_then (hK28 _ _ ?_))
            clear hK28 K28
            refine wc_condT rfl ?_
            refine c_seq (fun K29 hK29 => ?_)
            refine c_reg ?_ -- region 19 expr.go:147
            refine wl (ro_assign rfl) ?_
            refine wl_nil (x_then (hK29 _ _ ?_))
            clear hK29 K29
            refine c_ret (x_thenR (x_blkR (x_blkR (x_thenR (x_blkR (x_thenR ?_))))))
            refine bp_ret Tryz.results183 rfl ?_
            exact ⟨hF, rfl, hE⟩
          · skip
            refine c_reg ?_ -- region 17 expr.go:145
            refine wl (ro_move rfl) ?_
            refine wl (ro_move rfl) ?_
            refine wl (ro_arith rfl rfl rfl (Go.IntWalk.i64_in _ (by omega))) ?_
            refine wl_call rfl en_180 (ih.e0 (r := 1) (lv := lv + 1) ⟨hG.cx.go hF, hP1, hG.pe.cm hSm2.toCm, by omega, by rw [hSm2.lo]; have := hG.lo; omega, by omega⟩ (by decide) (by decide) (par_mono (by omega) 0 (lv + 1) 1 0 dumT s1.adv _ hq)) ?_
            rintro v u3 hr
            have hSm3 : Sm s1.adv s2 := ((par_q g).i0 (hG.pe.cm hSm2.toCm) t2 s2 hq).2.1
            replace h6 := hr.1.blkO h6 (by omega)
            replace hT1 := hT1.thru (hG.cx.go hF) hr.1
            obtain ⟨hF, hT2, hP2⟩ := hr.thru hF
            obtain ⟨T2, b2, rfl⟩ := hT2.ifc (.inl rfl)
            refine wl (ro_assign rfl) ?_
            refine wl_nil (x_then (hK26 _ _ ?_))
            clear hK26 K26
            refine c_seq (fun K30 hK30 => ?_)
            refine c_seq (fun K31 hK31 => ?_)
            refine c_reg ?_ -- region 18 expr.go:146
            refine wl (ro_move rfl) ?_
            refine wl (ro_eqNilI rfl ifc_290) ?_
            refine wl (ro_move rfl) ?_
            refine wlg_yes rfl (ro_move rfl) ?_
            refine wlg_call rfl rfl en_222 (expect222 hP2 (hG.cx.go hF).tk hne (by decide)) ?_
            rintro _ u4 ⟨rfl, hq2, F9⟩
            replace h6 := F9.blkO h6 (by omega)
            replace hT1 := hT1.thru (hG.cx.go hF) F9
            replace hT2 := hT2.thru (hG.cx.go hF) F9
            replace hF := hF.trans' F9 (fun _ _ h => h)
            unfold expP at hR
            refine wlg_yes rfl (ro_not rfl) ?_
            refine wl (ro_pick rfl rfl rfl) ?_
            refine wl_nil (x_then (hK31 _ _ ?_))
            clear hK31 K31
            refine wc_cond rfl (fun hc66 => ?_) (fun hc66 => ?_)
            · try simp only [decide_eq_true_eq, decide_eq_false_iff_not, Bool.not_eq_true', Bool.not_eq_false', Bool.not_eq_eq_eq_not, Bool.not_true, Bool.not_false, beq_iff_eq, bne_iff_ne, ne_eq, beq_eq_false_iff_ne, bne_eq_false_iff_eq, gt_iff_lt, ge_iff_le, Int.not_lt, Int.not_le] at hc66
              refine c_seq (fun K32 hK32 => ?_)
              refine c_reg ?_ -- region 19 expr.go:147
              refine wl (ro_assign rfl) ?_
              refine wl_nil (x_then (hK32 _ _ ?_))
              clear hK32 K32
              refine c_ret (x_thenR (x_blkR (x_blkR (x_thenR (x_blkR (x_thenR ?_))))))
              refine bp_ret Tryz.results183 rfl ?_
              rw [if_neg (by omega)] at hR hq2
              cases failP_inj hR
              exact ⟨hF, rfl, hq2⟩
            · try simp only [decide_eq_true_eq, decide_eq_false_iff_not, Bool.not_eq_true', Bool.not_eq_false', Bool.not_eq_eq_eq_not, Bool.not_true, Bool.not_false, beq_iff_eq, bne_iff_ne, ne_eq, beq_eq_false_iff_ne, bne_eq_false_iff_eq, gt_iff_lt, ge_iff_le, Int.not_lt, Int.not_le] at hc66
              refine c_skip (x_then (hK30 _ _ ?_))
              clear hK30 K30
              refine c_reg ?_ -- region 20 expr.go:149
              refine wl (ro_fieldAddr (k := 1) rfl fo_182_1) ?_
              refine wl (ro_loadB rfl sc_3 (by assumption) rfl) ?_
              refine wl (ro_move rfl) ?_
              refine wl (ro_move rfl) ?_
              refine wl (ro_build rfl bld_377_0_1_2) ?_
              refine wl_box rfl rfl (fun b72 w3 hbb72 h72 F3 => ?_)
              have hbsb72 := Nat.le_trans hF.size hbb72
              have hneb6b72 : b6 < b72 := Nat.lt_of_lt_of_le h6.lt hbb72
              replace hF := hF.thenDrew.thenN F3
              replace h6 := F3.blkN h6
              have hF72 := (F3)
              refine wl (ro_mkIface rfl (by kernel_rfl)) ?_
              refine wl (ro_assign rfl) ?_
              refine wl_nil (x_blk (x_blk (x_then ?_)))
              rw [if_pos (by omega)] at hR hq2
              exact ⟨g, by omega, _, _, s2.adv, by omega, hR, TrM_index.2 ⟨b72, _, _, _, rfl, ⟨h72, nw_new (by omega)⟩, hT1.thruN hF72, hT2.thruN hF72⟩, hq2.farN hF72, (hSm2.trans hSm3).trans (Sm.adv (hG.pe.cm (hSm2.trans hSm3).toCm)), hF, kp _ ⟨rfl, rfl, rfl, trivial⟩⟩
        · try simp only [decide_eq_true_eq, decide_eq_false_iff_not, Bool.not_eq_true', Bool.not_eq_false', Bool.not_eq_eq_eq_not, Bool.not_true, Bool.not_false, beq_iff_eq, bne_iff_ne, ne_eq, beq_eq_false_iff_ne, bne_eq_false_iff_eq, gt_iff_lt, ge_iff_le, Int.not_lt, Int.not_le] at hc52
          rw [if_neg (by omega)] at hR
          refine c_seq (fun K33 hK33 => ?_)
          refine c_reg ?_ -- region 21 expr.go:150
          refine wl (ro_cmp rfl rfl rfl) ?_
          refine wl (ro_assign rfl) ?_
          refine wl_nil (x_then (hK33 _ _ ?_))
          clear hK33 K33
          refine wc_cond rfl (fun hc74 => ?_) (fun hc74 => ?_)
          · try simp only [decide_eq_true_eq, decide_eq_false_iff_not, Bool.not_eq_true', Bool.not_eq_false', Bool.not_eq_eq_eq_not, Bool.not_true, Bool.not_false, beq_iff_eq, bne_iff_ne, ne_eq, beq_eq_false_iff_ne, bne_eq_false_iff_eq, gt_iff_lt, ge_iff_le, Int.not_lt, Int.not_le] at hc74
            rw [if_pos (by omega)] at hR
            refine c_seq (fun K34 hK34 => ?_)
            refine c_reg ?_ -- region 22 expr.go:151
            refine wl (ro_move rfl) ?_
            refine wl_call rfl en_176 (next176 (hP.farN hL) (hcx.tk.farN hL) hne (by omega)) ?_
            rintro _ u2 ⟨rfl, hP1, F9⟩
            replace h6 := F9.blkO h6 (by omega)
            replace hT1 := (hT1.thruN hL).thru (hG.cx.go hF) F9
            replace hF := hF.trans' F9 (fun _ _ h => h)
            have hSm2 := hSm.trans (Sm.adv hpe)
            refine wl_nil (x_then (hK34 _ _ ?_))
            clear hK34 K34
            refine forget [(0, _), (1, _), (5, _), (6, _)] ⟨rfl, rfl, rfl, rfl, trivial⟩ (fun e => ?_)
            refine c_seq (fun K35 hK35 => ?_)
            rcases bdP_some hR with ⟨⟨ee, pp⟩, hq, rfl⟩ | ⟨t2, s2, hq, hR⟩
            · skip
              refine c_reg ?_ -- region 23 expr.go:152
              refine wl (ro_move rfl) ?_
              refine wl (ro_move rfl) ?_
              refine wl (ro_arith rfl rfl rfl (Go.IntWalk.i64_in _ (by omega))) ?_
              refine wl_call rfl en_225 (ih.l5 (r := 40) (lv := lv + 1) ⟨hG.cx.go hF, hP1, hG.pe.cm hSm2.toCm, by omega, by rw [hSm2.lo]; have := hG.lo; omega, by omega⟩ (.inl rfl) (par_mono (by omega) 5 (lv + 1) 40 0 dumT s1.adv _ hq)) ?_
              rintro v u3 hr
              obtain ⟨hF, rfl, hE⟩ := hr.thru hF
              refine wl (ro_move rfl) ?_
              refine wl (ro_extract rfl rfl) ?_
              refine wl (ro_extract rfl rfl) ?_
              refine wl (ro_assign rfl) ?_
              refine wl (ro_assign rfl) ?_
              refine wl_nil (x_then (hK35 _ _ ?_))
              clear hK35 K35
              refine c_seq (fun K36 hK36 => ?_)
              refine c_seq (fun K37 hK37 => ?_)
              refine c_reg ?_ -- region 24 expr.go:153
              refine wl (ro_move rfl) ?_
              refine wl (ro_not rfl) ?_
              refine wl_nil (x_then (hK37 _ _ ?_))
              clear hK37 K37
              refine wc_condT rfl ?_
              refine c_seq (fun K38 hK38 => ?_)
              refine c_reg ?_ -- region 25 expr.go:154
              refine wl (ro_assign rfl) ?_
              refine wl_nil (x_then (hK38 _ _ ?_))
              clear hK38 K38
              refine c_ret (x_thenR (x_blkR (x_blkR (x_thenR (x_blkR (x_thenR ?_))))))
              refine bp_ret Tryz.results183 rfl ?_
              exact ⟨hF, rfl, hE⟩
            · skip
              refine c_reg ?_ -- region 23 expr.go:152
              refine wl (ro_move rfl) ?_
              refine wl (ro_move rfl) ?_
              refine wl (ro_arith rfl rfl rfl (Go.IntWalk.i64_in _ (by omega))) ?_
              refine wl_call rfl en_225 (ih.l5 (r := 40) (lv := lv + 1) ⟨hG.cx.go hF, hP1, hG.pe.cm hSm2.toCm, by omega, by rw [hSm2.lo]; have := hG.lo; omega, by omega⟩ (.inl rfl) (par_mono (by omega) 5 (lv + 1) 40 0 dumT s1.adv _ hq)) ?_
              rintro v u3 hr
              have hSm3 : Sm s1.adv s2 := ((par_q g).i5 (hG.pe.cm hSm2.toCm) (.inl rfl) (fun _ => by decide) t2 s2 hq).2.2.1
              replace h6 := hr.1.blkO h6 (by omega)
              replace hT1 := hT1.thru (hG.cx.go hF) hr.1
              obtain ⟨hF, U, us, rfl, hU, hT2, hP2⟩ := hr.thru hF
              obtain ⟨ua, uc, rfl⟩ := OwT.form hU
              refine wl (ro_move rfl) ?_
              refine wl (ro_extract rfl rfl) ?_
              refine wl (ro_extract rfl rfl) ?_
              refine wl (ro_assign rfl) ?_
              refine wl (ro_assign rfl) ?_
              refine wl_nil (x_then (hK35 _ _ ?_))
              clear hK35 K35
              refine c_seq (fun K39 hK39 => ?_)
              refine c_seq (fun K40 hK40 => ?_)
              refine c_reg ?_ -- region 24 expr.go:153
              refine wl (ro_move rfl) ?_
              refine wl (ro_not rfl) ?_
              refine wl_nil (x_then (hK40 _ _ ?_))
              clear hK40 K40
              refine wc_condF rfl ?_
              refine c_skip (x_then (hK39 _ _ ?_))
              clear hK39 K39
              refine c_reg ?_ -- region 26 expr.go:156
              refine wl (ro_fieldAddr (k := 1) rfl fo_182_1) ?_
              refine wl (ro_loadB rfl sc_3 (by assumption) rfl) ?_
              refine wl (ro_move rfl) ?_
              refine wl (ro_move rfl) ?_
              refine wl (ro_build rfl bld_380_0_1_2) ?_
              refine wl_box rfl rfl (fun b92 w4 hbb92 h92 F4 => ?_)
              have hbsb92 := Nat.le_trans hF.size hbb92
              have hneb6b92 : b6 < b92 := Nat.lt_of_lt_of_le h6.lt hbb92
              replace hF := hF.thenDrew.thenN F4
              replace h6 := F4.blkN h6
              have hF92 := (F4)
              refine wl (ro_mkIface rfl (by kernel_rfl)) ?_
              refine wl (ro_assign rfl) ?_
              refine wl_nil (x_blk (x_blk (x_then ?_)))
              exact ⟨g, by omega, _, _, s2, by omega, hR, TrM_call.2 ⟨b92, _, _, _, us, rfl, ⟨h92, nw_new (by omega)⟩, hT1.thruN hF92, hU.thruN hF92, hT2.thruN hF92⟩, hP2.farN hF92, hSm2.trans hSm3, hF, kp _ ⟨rfl, rfl, rfl, trivial⟩⟩
          · try simp only [decide_eq_true_eq, decide_eq_false_iff_not, Bool.not_eq_true', Bool.not_eq_false', Bool.not_eq_eq_eq_not, Bool.not_true, Bool.not_false, beq_iff_eq, bne_iff_ne, ne_eq, beq_eq_false_iff_ne, bne_eq_false_iff_eq, gt_iff_lt, ge_iff_le, Int.not_lt, Int.not_le] at hc74
            rw [if_neg (by omega)] at hR
            cases okP_inj hR
            refine c_seq (fun K41 hK41 => ?_)
            refine c_reg ?_ -- region 8 expr.go:158
            refine wl (ro_move rfl) ?_
            refine wl (ro_assign rfl) ?_
            refine wl_nil (x_then (hK41 _ _ ?_))
            clear hK41 K41
            refine c_ret (x_blkR (x_blkR (x_thenR (x_blkR (x_thenR ?_)))))
            refine bp_ret Tryz.results183 rfl ?_
            exact ⟨hF, hT1.thruN hL, hP.farN hL⟩
end Go.Proofs.Qxb6500568aGreatDoor
