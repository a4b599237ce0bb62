import Derived.Test.Qxb6500568aGreatDoorEm
/- The real parser: operators by their ranks. -/
namespace Go.Proofs.Qxb6500568aGreatDoor
open Ieee
set_option linter.unusedVariables false
set_option linter.unusedSimpArgs false

def kdK (k : Nat) : Nat := if k = 22 then 25 else if k = 23 then 24 else 22
def opK (k : Nat) : Nat := if k ≤ 23 then 0 else if k ≤ 29 then k - 13 else if k = 30 then 20 else k - 30
theorem bnd_at : ∀ {k : Nat}, 22 ≤ k → k ≤ 36 → bndL[k - 22]? = some [i64c (rankK k), i64c (kdK k), u64c (opK k)] := by
  intro k h1 h2
  have : k = 22 ∨ k = 23 ∨ k = 24 ∨ k = 25 ∨ k = 26 ∨ k = 27 ∨ k = 28 ∨ k = 29 ∨ k = 30 ∨ k = 31 ∨ k = 32 ∨ k = 33 ∨ k = 34 ∨ k = 35 ∨ k = 36 := by omega
  rcases this with rfl | rfl | rfl | rfl | rfl | rfl | rfl | rfl | rfl | rfl | rfl | rfl | rfl | rfl | rfl <;> rfl
theorem binT_M {w : World} {ow : Nat → Nat} {k b p : Nat} {x y : Tr} {v u : Value} (h1 : 22 ≤ k) (h2 : k ≤ 36) (hb : NB w ow b [i64c p, i64c (kdK k), u64c (opK k), v, u] 371) (hx : TrM w ow 0 x [v]) (hy : TrM w ow 0 y [u]) : TrM w ow 0 (binT k x y) [.iface 369 (ptr b)] := by
  unfold binT
  unfold kdK opK at hb
  split
  · rename_i e; subst e; exact TrM_lor.2 ⟨b, p, v, u, rfl, hb, hx, hy⟩
  · split
    · rename_i _ e; subst e; exact TrM_land.2 ⟨b, p, v, u, rfl, hb, hx, hy⟩
    · rename_i n1 n2
      rw [if_neg n1, if_neg n2, if_neg (by omega)] at hb
      split
      · rename_i h; rw [if_pos h] at hb; exact TrM_bin.2 ⟨b, p, v, u, rfl, hb, hx, hy⟩
      · rename_i h
        rw [if_neg h] at hb
        split
        · rename_i h; rw [if_pos h] at hb; exact TrM_bin.2 ⟨b, p, v, u, rfl, hb, hx, hy⟩
        · rename_i h; rw [if_neg h] at hb; exact TrM_bin.2 ⟨b, p, v, u, rfl, hb, hx, hy⟩
theorem rankK_bd {k : Nat} : 1 ≤ rankK k ∧ rankK k ≤ 6 := by
  unfold rankK
  constructor <;> (repeat' split) <;> omega
set_option maxHeartbeats 8000000 in
theorem expr180 {f : Nat} {w : World} {ow : Nat → Nat} {pb tb cap : Nat} {L : List Tok} {s : PS} {lv r : Nat} {ρ : Int} {R : PO} (ih : PAll f) (hG : PGo w ow pb tb cap L s lv ρ) (hr1 : 1 ≤ r) (hr2 : r ≤ 7) (hR : parP (f + 1) 0 lv r 0 dumT s = some R) : Ret Tryz.prog 180 [ptr pb, .int .i64 ρ, i64c r] w (Rs1 w ow pb tb cap L 0 R) := by
  have hP := hG.pr
  have hT := hG.cx.tk
  have hne := hG.cx.ne
  have hρ := hG.rm
  have hPl := hG.cx.pl
  have hl13 := hG.l13
  have hF : Fram (one pb) w w := Fram.refl _ _
  replace hR : pExpr (parP f) lv r s = some R := hR
  unfold pExpr at hR
  refine ret_of Tryz.func180 rfl Tryz.ntmps180 rfl ?_
  refine c_seq (fun K1 hK1 => ?_)
  refine c_reg ?_ -- region 0 expr.go:74
  refine wl (ro_assign rfl) ?_
  refine wl_nil (x_then (hK1 _ _ ?_))
  clear hK1 K1
  refine forget [(0, _), (1, _), (2, _)] ⟨rfl, rfl, rfl, trivial⟩ (fun e => ?_)
  refine c_seq (fun K2 hK2 => ?_)
  rcases bdP_some hR with ⟨⟨ee, pp⟩, hq, rfl⟩ | ⟨t1, s1, hq, hR⟩
  · skip
    refine c_reg ?_ -- region 1 expr.go:75
    refine wl (ro_move rfl) ?_
    refine wl (ro_move rfl) ?_
    refine wl_call rfl en_223 (ih.u2 hG hq) ?_
    rintro v u3 ⟨hF, rfl, hE⟩
    refine wl (ro_assign rfl) ?_
    refine wl_nil (x_then (hK2 _ _ ?_))
    clear hK2 K2
    refine forget [(0, _), (1, _), (2, _), (7, _)] ⟨rfl, rfl, rfl, rfl, trivial⟩ (fun e => ?_)
    refine c_seq (fun K3 hK3 => ?_)
    refine c_block ?_
    -- loop@r2: live slots [0, 1, 2, 7]
    refine c_loopG (fun n a' w' => n = 0 ∧ w' = u3 ∧ ∃ e, a' = Fr 68 (upds e [(7, .nilIface)]) []) 0 ⟨rfl, rfl, kp _ ⟨rfl, trivial⟩⟩ ?_
    rintro n a' w1 ⟨rfl, rfl, e, rfl⟩
    refine c_seq (fun K4 hK4 => ?_)
    refine c_seq (fun K5 hK5 => ?_)
    refine c_reg ?_ -- region 2 expr.go:76
    refine wl (ro_move rfl) ?_
    refine wl (ro_neqNilN rfl ifc_290) ?_
    refine wl_nil (x_then (hK5 _ _ ?_))
    clear hK5 K5
    refine wc_condF rfl ?_
    refine c_exit (x_thenX (x_thenX (x_blkX (x_then (hK3 _ _ ?_)))))
    clear hK4 K4 hK3 K3
    refine forget [] trivial (fun e => ?_)
    refine c_seq (fun K6 hK6 => ?_)
    refine c_reg ?_ -- region 17 expr.go:97
    refine wl (ro_assign rfl) ?_
    refine wl_nil (x_then (hK6 _ _ ?_))
    clear hK6 K6
    refine c_ret ?_
    refine bp_ret Tryz.results180 rfl ?_
    exact ⟨hF, rfl, hE⟩
  · skip
    refine c_reg ?_ -- region 1 expr.go:75
    refine wl (ro_move rfl) ?_
    refine wl (ro_move rfl) ?_
    refine wl_call rfl en_223 (ih.u2 hG hq) ?_
    rintro v u3 ⟨hF, hT1, hP1⟩
    obtain ⟨hq1, hSm1, hq3, hlv⟩ := (par_q f).i2 hG.pe t1 s1 hq
    refine wl (ro_assign rfl) ?_
    refine wl_nil (x_then (hK2 _ _ ?_))
    clear hK2 K2
    refine forget [(0, _), (1, _), (2, _), (7, _)] ⟨rfl, rfl, rfl, rfl, trivial⟩ (fun e => ?_)
    refine c_seq (fun K7 hK7 => ?_)
    refine c_block ?_
    -- loop@r2: live slots [0, 1, 2, 7]
    refine c_loopG (fun n a' w' => ∃ (x : Tr) (v : Value) (s1 : PS), n ≤ f ∧ parP n 1 lv r 0 x s1 = some R ∧ TrM w' (N63 w ow) 0 x [v] ∧ PrV w' pb tb cap L s1 ∧ Sm s s1 ∧ Fram (one pb) w w' ∧ ∃ e, a' = Fr 68 (upds e [(0, ptr pb), (1, .int .i64 ρ), (2, i64c r), (7, v)]) []) f ⟨t1, v, s1, Nat.le_refl _, hR, hT1, hP1, hSm1, hF, kp _ ⟨rfl, rfl, rfl, rfl, trivial⟩⟩ ?_
    clear hF hR hT1 hP1 hP hT hq hSm1 hq1 hq3
    clear s1 t1
    rintro n a' u1 ⟨x, v, s1, hn, hR, hT1, hP, hSm, hF, e, rfl⟩
    obtain ⟨TT, bb, rfl⟩ := hT1.ifc (.inl rfl)
    obtain ⟨i, hX, hi, hs⟩ := hP.ex
    unfold prc at hX
    have hkk : s1.k = s1.cur.k := rfl
    have hwu := hF.size
    have hcx := hG.cx.go hF
    have hpe := hG.pe.cm hSm.toCm
    obtain ⟨g, rfl⟩ : ∃ g, n = g + 1 := by
      cases n with
      | zero => cases hR
      | succ g => exact ⟨g, rfl⟩
    replace hR : pClimb (parP g) lv r x s1 = some R := hR
    unfold pClimb at hR
    have hL : Fram none' u1 u1 := Fram.refl _ _
    have hXl := hX.lt
    have hrk := rankK_bd (k := s1.k)
    refine c_seq (fun K8 hK8 => ?_)
    refine c_seq (fun K9 hK9 => ?_)
    refine c_reg ?_ -- region 2 expr.go:76
    refine wl (ro_move rfl) ?_
    refine wl (ro_neqNilI rfl ifc_290) ?_
    refine wl_nil (x_then (hK9 _ _ ?_))
    clear hK9 K9
    refine wc_condT rfl ?_
    refine c_skip (x_then (hK8 _ _ ?_))
    clear hK8 K8
    refine c_block ?_
    refine forget [(0, _), (1, _), (2, _), (7, _)] ⟨rfl, rfl, rfl, rfl, trivial⟩ (fun e => ?_)
    refine c_seq (fun K10 hK10 => ?_)
    refine c_reg ?_ -- region 3 expr.go:77
    refine wl (ro_move rfl) ?_
    refine wl (ro_nilCheck rfl) ?_
    refine wl (ro_fieldAddr (k := 2) rfl fo_186_2) ?_
    refine wl (ro_loadAggB rfl ag_182 (by assumption) rfl rfl) ?_
    refine wl_new (ze_182) (fun b8 w1 hbb8 h8 F1 => ?_)
    have hbsb8 := Nat.le_trans hF.size hbb8
    have hnepbb8 : pb < b8 := Nat.lt_of_lt_of_le hX.lt hbb8
    have hbsb8 := Nat.le_trans hL.size hbb8
    replace hF := hF.thenDrew.thenN F1
    replace hX := F1.blkN hX
    replace hL := hL.thenDrew.thenN F1
    refine wl_puta rfl rfl ((by (try exact vlc_cells _); all_goals simp [Value.oneCell', i64c, icv, u64c, u8c, ptr, S])) sz_182 (rfl) h8 ((by simp)) (rfl) (fun w2 h8 F2 => ?_)
    replace hF := hF.thenDrew.thenO F2 (by first | exact .inr (by omega) | exact .inl rfl | exact .inl (by assumption) | assumption)
    replace hX := F2.blkO hX (by omega)
    replace hL := hL.thenDrew.thenO F2 (by first | exact .inr (by omega) | exact .inl rfl | exact .inl (by assumption) | assumption)
    refine wl_nil (x_then (hK10 _ _ ?_))
    clear hK10 K10
    refine c_seq (fun K11 hK11 => ?_)
    refine c_seq (fun K12 hK12 => ?_)
    refine c_reg ?_ -- region 4 expr.go:78
    refine wl (ro_fieldAddr (k := 0) rfl fo_182_0) ?_
    refine wl (ro_loadB rfl sc_180 (by assumption) rfl) ?_
    refine wl (ro_cmp rfl rfl rfl) ?_
    refine wl_fork rfl (fun hg23 => ?_) (fun hg23 => ?_)
    · try simp only [decide_eq_true_eq, decide_eq_false_iff_not, Bool.not_eq_true', Bool.not_eq_false', Bool.not_eq_eq_eq_not, Bool.not_true, Bool.not_false, beq_iff_eq, bne_iff_ne, ne_eq, beq_eq_false_iff_ne, bne_eq_false_iff_eq, gt_iff_lt, ge_iff_le, Int.not_lt, Int.not_le] at hg23
      refine wlg_no rfl ?_
      refine wlg_no rfl ?_
      refine wlg_no rfl ?_
      refine wl (ro_pick rfl rfl rfl) ?_
      refine wl_nil (x_then (hK12 _ _ ?_))
      clear hK12 K12
      refine wc_condT rfl ?_
      refine c_seq (fun K13 hK13 => ?_)
      refine c_reg ?_ -- region 5 expr.go:79
      refine wl (ro_move rfl) ?_
      refine wl (ro_assign rfl) ?_
      refine wl_nil (x_then (hK13 _ _ ?_))
      clear hK13 K13
      refine c_ret (x_thenR (x_blkR (x_thenR (x_blkR (x_thenR ?_)))))
      refine bp_ret Tryz.results180 rfl ?_
      rw [if_neg (by unfold isBin; rw [Bool.and_eq_true, decide_eq_true_eq, decide_eq_true_eq]; omega)] at hR
      cases okP_inj hR
      exact ⟨hF, hT1.thruN hL, hP.farN hL⟩
    · try simp only [decide_eq_true_eq, decide_eq_false_iff_not, Bool.not_eq_true', Bool.not_eq_false', Bool.not_eq_eq_eq_not, Bool.not_true, Bool.not_false, beq_iff_eq, bne_iff_ne, ne_eq, beq_eq_false_iff_ne, bne_eq_false_iff_eq, gt_iff_lt, ge_iff_le, Int.not_lt, Int.not_le] at hg23
      refine wlg_yes rfl (ro_fieldAddr (k := 0) rfl fo_182_0) ?_
      refine wlg_yes rfl (ro_loadB rfl sc_180 (by assumption) rfl) ?_
      refine wlg_yes rfl (ro_cmp rfl rfl rfl) ?_
      refine wl (ro_pick rfl rfl rfl) ?_
      refine wl_nil (x_then (hK12 _ _ ?_))
      clear hK12 K12
      refine wc_cond rfl (fun hc27 => ?_) (fun hc27 => ?_)
      · try simp only [decide_eq_true_eq, decide_eq_false_iff_not, Bool.not_eq_true', Bool.not_eq_false', Bool.not_eq_eq_eq_not, Bool.not_true, Bool.not_false, beq_iff_eq, bne_iff_ne, ne_eq, beq_eq_false_iff_ne, bne_eq_false_iff_eq, gt_iff_lt, ge_iff_le, Int.not_lt, Int.not_le] at hc27
        refine c_seq (fun K14 hK14 => ?_)
        refine c_reg ?_ -- region 5 expr.go:79
        refine wl (ro_move rfl) ?_
        refine wl (ro_assign rfl) ?_
        refine wl_nil (x_then (hK14 _ _ ?_))
        clear hK14 K14
        refine c_ret (x_thenR (x_blkR (x_thenR (x_blkR (x_thenR ?_)))))
        refine bp_ret Tryz.results180 rfl ?_
        rw [if_neg (by unfold isBin; rw [Bool.and_eq_true, decide_eq_true_eq, decide_eq_true_eq]; omega)] at hR
        cases okP_inj hR
        exact ⟨hF, hT1.thruN hL, hP.farN hL⟩
      · try simp only [decide_eq_true_eq, decide_eq_false_iff_not, Bool.not_eq_true', Bool.not_eq_false', Bool.not_eq_eq_eq_not, Bool.not_true, Bool.not_false, beq_iff_eq, bne_iff_ne, ne_eq, beq_eq_false_iff_ne, bne_eq_false_iff_eq, gt_iff_lt, ge_iff_le, Int.not_lt, Int.not_le] at hc27
        refine c_skip (x_then (hK11 _ _ ?_))
        clear hK11 K11
        refine forget [(0, _), (1, _), (2, _), (7, _), (8, _), (24, _), (25, _), (26, _)] ⟨rfl, rfl, rfl, rfl, rfl, rfl, rfl, rfl, trivial⟩ (fun e => ?_)
        refine c_seq (fun K15 hK15 => ?_)
        obtain ⟨gb, go, gcap, g1, g2, g3, g4, g5, g6⟩ := (hG.cx.go hF).gv.bi.ex
        have hrow := g2 (s1.cur.k - 22) _ (bnd_at (k := s1.k) (by omega) (by omega))
        refine c_reg ?_ -- region 6 expr.go:81
        refine wl (ro_load (a := ⟨3, 0, none⟩) rfl sc_368 g1) ?_
        refine wl (ro_fieldAddr (k := 0) rfl fo_182_0) ?_
        refine wl (ro_loadB rfl sc_180 (by assumption) rfl) ?_
        refine wl (ro_arith rfl rfl rfl (Go.IntWalk.i64_in _ (by omega))) ?_
        refine wl (ro_indexAddr (et := 367) (k := 3) rfl rfl se_368 ((show ((s1.cur.k : Int) - 22) = ((s1.cur.k - 22 : Nat) : Int) by omega)) ((by omega))) ?_
        refine wl (ro_loadAgg (cs := [i64c (rankK s1.k), i64c (kdK s1.k), u64c (opK s1.k)]) rfl ag_367 rfl hrow) ?_
        refine wl_new (ze_367) (fun b9 w3 hbb9 h9 F3 => ?_)
        have hbsb9 := Nat.le_trans hF.size hbb9
        have hnepbb9 : pb < b9 := Nat.lt_of_lt_of_le hX.lt hbb9
        have hbsb9 := Nat.le_trans hL.size hbb9
        have hneb8b9 : b8 < b9 := Nat.lt_of_lt_of_le h8.lt hbb9
        replace hF := hF.thenDrew.thenN F3
        replace hX := F3.blkN hX
        replace hL := hL.thenDrew.thenN F3
        replace h8 := F3.blkN h8
        refine wl_puta rfl rfl ((by (try exact vlc_cells _); all_goals simp [Value.oneCell', i64c, icv, u64c, u8c, ptr, S])) sz_367 (rfl) h9 ((by simp)) (rfl) (fun w4 h9 F4 => ?_)
        replace hF := hF.thenDrew.thenO F4 (by first | exact .inr (by omega) | exact .inl rfl | exact .inl (by assumption) | assumption)
        replace hX := F4.blkO hX (by omega)
        replace hL := hL.thenDrew.thenO F4 (by first | exact .inr (by omega) | exact .inl rfl | exact .inl (by assumption) | assumption)
        replace h8 := F4.blkO h8 (by omega)
        refine wl_nil (x_then (hK15 _ _ ?_))
        clear hK15 K15
        refine c_seq (fun K16 hK16 => ?_)
        refine c_seq (fun K17 hK17 => ?_)
        refine c_reg ?_ -- region 7 expr.go:82
        refine wl (ro_fieldAddr (k := 0) rfl fo_367_0) ?_
        refine wl (ro_loadB rfl sc_3 (by assumption) rfl) ?_
        refine wl (ro_move rfl) ?_
        refine wl (ro_cmp rfl rfl rfl) ?_
        refine wl_nil (x_then (hK17 _ _ ?_))
        clear hK17 K17
        refine wc_cond rfl (fun hc38 => ?_) (fun hc38 => ?_)
        · try simp only [decide_eq_true_eq, decide_eq_false_iff_not, Bool.not_eq_true', Bool.not_eq_false', Bool.not_eq_eq_eq_not, Bool.not_true, Bool.not_false, beq_iff_eq, bne_iff_ne, ne_eq, beq_eq_false_iff_ne, bne_eq_false_iff_eq, gt_iff_lt, ge_iff_le, Int.not_lt, Int.not_le] at hc38
          refine c_seq (fun K18 hK18 => ?_)
          refine c_reg ?_ -- region 8 expr.go:83
          refine wl (ro_move rfl) ?_
          refine wl (ro_assign rfl) ?_
          refine wl_nil (x_then (hK18 _ _ ?_))
          clear hK18 K18
          refine c_ret (x_thenR (x_blkR (x_thenR (x_blkR (x_thenR ?_)))))
          refine bp_ret Tryz.results180 rfl ?_
          rw [if_neg (by omega)] at hR
          cases okP_inj hR
          exact ⟨hF, hT1.thruN hL, hP.farN hL⟩
        · try simp only [decide_eq_true_eq, decide_eq_false_iff_not, Bool.not_eq_true', Bool.not_eq_false', Bool.not_eq_eq_eq_not, Bool.not_true, Bool.not_false, beq_iff_eq, bne_iff_ne, ne_eq, beq_eq_false_iff_ne, bne_eq_false_iff_eq, gt_iff_lt, ge_iff_le, Int.not_lt, Int.not_le] at hc38
          rw [if_pos ⟨by unfold isBin; rw [Bool.and_eq_true, decide_eq_true_eq, decide_eq_true_eq]; omega, by omega⟩] at hR
          refine c_skip (x_then (hK16 _ _ ?_))
          clear hK16 K16
          refine forget [(0, _), (1, _), (2, _), (7, _), (8, _), (9, _), (24, _), (25, _), (26, _)] ⟨rfl, rfl, rfl, rfl, rfl, rfl, rfl, rfl, rfl, trivial⟩ (fun e => ?_)
          refine c_seq (fun K19 hK19 => ?_)
          refine c_reg ?_ -- region 9 expr.go:85
          refine wl (ro_move rfl) ?_
          refine wl_call rfl en_176 (next176 (hP.farN hL) (hcx.tk.farN hL) hne (by omega)) ?_
          rintro _ u2 ⟨rfl, hP1, F9⟩
          replace h8 := F9.blkO h8 (by omega)
          replace h9 := F9.blkO h9 (by omega)
          replace hT1 := (hT1.thruN hL).thru (hG.cx.go hF) F9
          replace hF := hF.trans' F9 (fun _ _ h => h)
          have hSm2 := hSm.trans (Sm.adv hpe)
          refine wl_nil (x_then (hK19 _ _ ?_))
          clear hK19 K19
          refine forget [(0, _), (1, _), (2, _), (7, _), (8, _), (9, _), (24, _), (25, _), (26, _)] ⟨rfl, rfl, rfl, rfl, rfl, rfl, rfl, rfl, rfl, trivial⟩ (fun e => ?_)
          refine c_seq (fun K20 hK20 => ?_)
          refine c_reg ?_ -- region 10 expr.go:86
          refine wl (ro_assign rfl) ?_
          refine wl_nil (x_then (hK20 _ _ ?_))
          clear hK20 K20
          refine c_seq (fun K21 hK21 => ?_)
          refine c_seq (fun K22 hK22 => ?_)
          refine c_reg ?_ -- region 11 expr.go:87
          refine wl (ro_fieldAddr (k := 0) rfl fo_367_0) ?_
          refine wl (ro_loadB rfl sc_3 (by assumption) rfl) ?_
          refine wl (ro_cmp rfl rfl rfl) ?_
          refine wl_nil (x_then (hK22 _ _ ?_))
          clear hK22 K22
          refine wc_cond rfl (fun hc44 => ?_) (fun hc44 => ?_)
          · try simp only [decide_eq_true_eq, decide_eq_false_iff_not, Bool.not_eq_true', Bool.not_eq_false', Bool.not_eq_eq_eq_not, Bool.not_true, Bool.not_false, beq_iff_eq, bne_iff_ne, ne_eq, beq_eq_false_iff_ne, bne_eq_false_iff_eq, gt_iff_lt, ge_iff_le, Int.not_lt, Int.not_le] at hc44
            rw [if_pos (by omega)] at hR
            rcases bdP_some hR with ⟨⟨ee, pp⟩, hq, rfl⟩ | ⟨t2, s2, hq, hR⟩
            · skip
              refine c_reg ?_ -- region 12 expr.go:88
              refine wl (ro_move rfl) ?_
              refine wl (ro_move rfl) ?_
              refine wl (ro_arith rfl rfl rfl (Go.IntWalk.i64_in _ (by omega))) ?_
              refine wl_call rfl en_180 (ih.e0 (r := 4) (lv := lv + 1) ⟨hG.cx.go hF, hP1, hG.pe.cm hSm2.toCm, by omega, by rw [hSm2.lo]; have := hG.lo; omega, by omega⟩ (by omega) (by omega) (par_mono (by omega) 0 _ _ 0 dumT s1.adv _ hq)) ?_
              rintro v u3 hr
              obtain ⟨hF, rfl, hE⟩ := hr.thru hF
              refine wl (ro_assign rfl) ?_
              refine wl_nil (x_then (hK21 _ _ ?_))
              clear hK21 K21
              refine c_seq (fun K23 hK23 => ?_)
              refine c_seq (fun K24 hK24 => ?_)
              refine c_reg ?_ -- region 14 expr.go:92
              refine wl (ro_move rfl) ?_
              refine wl (ro_eqNilN rfl ifc_290) ?_
              refine wl_nil (x_then (hK24 _ _ ?_))
              clear hK24 K24
              refine wc_condT rfl ?_
              refine c_seq (fun K25 hK25 => ?_)
              refine c_reg ?_ -- region 15 expr.go:93
              refine wl (ro_assign rfl) ?_
              refine wl_nil (x_then (hK25 _ _ ?_))
              clear hK25 K25
              refine c_ret (x_thenR (x_blkR (x_thenR (x_blkR (x_thenR ?_)))))
              refine bp_ret Tryz.results180 rfl ?_
              exact ⟨hF, rfl, hE⟩
            · skip
              refine c_reg ?_ -- region 12 expr.go:88
              refine wl (ro_move rfl) ?_
              refine wl (ro_move rfl) ?_
              refine wl (ro_arith rfl rfl rfl (Go.IntWalk.i64_in _ (by omega))) ?_
              refine wl_call rfl en_180 (ih.e0 (r := 4) (lv := lv + 1) ⟨hG.cx.go hF, hP1, hG.pe.cm hSm2.toCm, by omega, by rw [hSm2.lo]; have := hG.lo; omega, by omega⟩ (by omega) (by omega) (par_mono (by omega) 0 _ _ 0 dumT s1.adv _ hq)) ?_
              rintro v u3 hr
              have hSm3 : Sm s1.adv s2 := ((par_q g).i0 (hG.pe.cm hSm2.toCm) t2 s2 hq).2.1
              replace h8 := hr.1.blkO h8 (by omega)
              replace h9 := hr.1.blkO h9 (by omega)
              replace hT1 := hT1.thru (hG.cx.go hF) hr.1
              obtain ⟨hF, hT2, hP2⟩ := hr.thru hF
              obtain ⟨T2, b2, rfl⟩ := hT2.ifc (.inl rfl)
              refine wl (ro_assign rfl) ?_
              refine wl_nil (x_then (hK21 _ _ ?_))
              clear hK21 K21
              refine c_seq (fun K26 hK26 => ?_)
              refine c_seq (fun K27 hK27 => ?_)
              refine c_reg ?_ -- region 14 expr.go:92
              refine wl (ro_move rfl) ?_
              refine wl (ro_eqNilI rfl ifc_290) ?_
              refine wl_nil (x_then (hK27 _ _ ?_))
              clear hK27 K27
              refine wc_condF rfl ?_
              refine c_skip (x_then (hK26 _ _ ?_))
              clear hK26 K26
              refine c_reg ?_ -- region 16 expr.go:95
              refine wl (ro_fieldAddr (k := 1) rfl fo_182_1) ?_
              refine wl (ro_loadB rfl sc_3 (by assumption) rfl) ?_
              refine wl (ro_fieldAddr (k := 1) rfl fo_367_1) ?_
              refine wl (ro_loadB rfl sc_3 (by assumption) rfl) ?_
              refine wl (ro_fieldAddr (k := 2) rfl fo_367_2) ?_
              refine wl (ro_loadB rfl sc_117 (by assumption) rfl) ?_
              refine wl (ro_move rfl) ?_
              refine wl (ro_move rfl) ?_
              refine wl (ro_build rfl bld_371_0_1_2_3_4) ?_
              refine wl_box rfl rfl (fun b66 w5 hbb66 h66 F5 => ?_)
              have hbsb66 := Nat.le_trans hF.size hbb66
              have hneb8b66 : b8 < b66 := Nat.lt_of_lt_of_le h8.lt hbb66
              have hneb9b66 : b9 < b66 := Nat.lt_of_lt_of_le h9.lt hbb66
              replace hF := hF.thenDrew.thenN F5
              replace h8 := F5.blkN h8
              replace h9 := F5.blkN h9
              have hF66 := (F5)
              refine wl (ro_mkIface rfl (by kernel_rfl)) ?_
              refine wl (ro_assign rfl) ?_
              refine wl_nil (x_blk (x_then ?_))
              exact ⟨g, by omega, _, _, s2, by omega, hR, binT_M (by omega) (by omega) ⟨h66, nw_new (by omega)⟩ (hT1.thruN hF66) (hT2.thruN hF66), hP2.farN hF66, hSm2.trans hSm3, hF, kp _ ⟨rfl, rfl, rfl, rfl, trivial⟩⟩
          · try simp only [decide_eq_true_eq, decide_eq_false_iff_not, Bool.not_eq_true', Bool.not_eq_false', Bool.not_eq_eq_eq_not, Bool.not_true, Bool.not_false, beq_iff_eq, bne_iff_ne, ne_eq, beq_eq_false_iff_ne, bne_eq_false_iff_eq, gt_iff_lt, ge_iff_le, Int.not_lt, Int.not_le] at hc44
            rw [if_neg (by omega)] at hR
            rcases bdP_some hR with ⟨⟨ee, pp⟩, hq, rfl⟩ | ⟨t2, s2, hq, hR⟩
            · skip
              refine c_reg ?_ -- region 13 expr.go:90
              refine wl (ro_move rfl) ?_
              refine wl (ro_move rfl) ?_
              refine wl (ro_fieldAddr (k := 0) rfl fo_367_0) ?_
              refine wl (ro_loadB rfl sc_3 (by assumption) rfl) ?_
              refine wl (ro_arith rfl rfl rfl (Go.IntWalk.i64_in _ (by omega))) ?_
              refine wl_call rfl en_180 (ih.e0 (r := rankK s1.k + 1) (lv := lv) ⟨hG.cx.go hF, hP1, hG.pe.cm hSm2.toCm, by omega, by rw [hSm2.lo]; have := hG.lo; omega, by omega⟩ (by omega) (by omega) (par_mono (by omega) 0 _ _ 0 dumT s1.adv _ hq)) ?_
              rintro v u3 hr
              obtain ⟨hF, rfl, hE⟩ := hr.thru hF
              refine wl (ro_assign rfl) ?_
              refine wl_nil (x_then (hK21 _ _ ?_))
              clear hK21 K21
              refine c_seq (fun K28 hK28 => ?_)
              refine c_seq (fun K29 hK29 => ?_)
              refine c_reg ?_ -- region 14 expr.go:92
              refine wl (ro_move rfl) ?_
              refine wl (ro_eqNilN rfl ifc_290) ?_
              refine wl_nil (x_then (hK29 _ _ ?_))
              clear hK29 K29
              refine wc_condT rfl ?_
              refine c_seq (fun K30 hK30 => ?_)
              refine c_reg ?_ -- region 15 expr.go:93
              refine wl (ro_assign rfl) ?_
              refine wl_nil (x_then (hK30 _ _ ?_))
              clear hK30 K30
              refine c_ret (x_thenR (x_blkR (x_thenR (x_blkR (x_thenR ?_)))))
              refine bp_ret Tryz.results180 rfl ?_
              exact ⟨hF, rfl, hE⟩
            · skip
              refine c_reg ?_ -- region 13 expr.go:90
              refine wl (ro_move rfl) ?_
              refine wl (ro_move rfl) ?_
              refine wl (ro_fieldAddr (k := 0) rfl fo_367_0) ?_
              refine wl (ro_loadB rfl sc_3 (by assumption) rfl) ?_
              refine wl (ro_arith rfl rfl rfl (Go.IntWalk.i64_in _ (by omega))) ?_
              refine wl_call rfl en_180 (ih.e0 (r := rankK s1.k + 1) (lv := lv) ⟨hG.cx.go hF, hP1, hG.pe.cm hSm2.toCm, by omega, by rw [hSm2.lo]; have := hG.lo; omega, by omega⟩ (by omega) (by omega) (par_mono (by omega) 0 _ _ 0 dumT s1.adv _ hq)) ?_
              rintro v u3 hr
              have hSm3 : Sm s1.adv s2 := ((par_q g).i0 (hG.pe.cm hSm2.toCm) t2 s2 hq).2.1
              replace h8 := hr.1.blkO h8 (by omega)
              replace h9 := hr.1.blkO h9 (by omega)
              replace hT1 := hT1.thru (hG.cx.go hF) hr.1
              obtain ⟨hF, hT2, hP2⟩ := hr.thru hF
              obtain ⟨T2, b2, rfl⟩ := hT2.ifc (.inl rfl)
              refine wl (ro_assign rfl) ?_
              refine wl_nil (x_then (hK21 _ _ ?_))
              clear hK21 K21
              refine c_seq (fun K31 hK31 => ?_)
              refine c_seq (fun K32 hK32 => ?_)
              refine c_reg ?_ -- region 14 expr.go:92
              refine wl (ro_move rfl) ?_
              refine wl (ro_eqNilI rfl ifc_290) ?_
              refine wl_nil (x_then (hK32 _ _ ?_))
              clear hK32 K32
              refine wc_condF rfl ?_
              refine c_skip (x_then (hK31 _ _ ?_))
              clear hK31 K31
              refine c_reg ?_ -- region 16 expr.go:95
              refine wl (ro_fieldAddr (k := 1) rfl fo_182_1) ?_
              refine wl (ro_loadB rfl sc_3 (by assumption) rfl) ?_
              refine wl (ro_fieldAddr (k := 1) rfl fo_367_1) ?_
              refine wl (ro_loadB rfl sc_3 (by assumption) rfl) ?_
              refine wl (ro_fieldAddr (k := 2) rfl fo_367_2) ?_
              refine wl (ro_loadB rfl sc_117 (by assumption) rfl) ?_
              refine wl (ro_move rfl) ?_
              refine wl (ro_move rfl) ?_
              refine wl (ro_build rfl bld_371_0_1_2_3_4) ?_
              refine wl_box rfl rfl (fun b66 w6 hbb66 h66 F6 => ?_)
              have hbsb66 := Nat.le_trans hF.size hbb66
              have hneb8b66 : b8 < b66 := Nat.lt_of_lt_of_le h8.lt hbb66
              have hneb9b66 : b9 < b66 := Nat.lt_of_lt_of_le h9.lt hbb66
              replace hF := hF.thenDrew.thenN F6
              replace h8 := F6.blkN h8
              replace h9 := F6.blkN h9
              have hF66 := (F6)
              refine wl (ro_mkIface rfl (by kernel_rfl)) ?_
              refine wl (ro_assign rfl) ?_
              refine wl_nil (x_blk (x_then ?_))
              exact ⟨g, by omega, _, _, s2, by omega, hR, binT_M (by omega) (by omega) ⟨h66, nw_new (by omega)⟩ (hT1.thruN hF66) (hT2.thruN hF66), hP2.farN hF66, hSm2.trans hSm3, hF, kp _ ⟨rfl, rfl, rfl, rfl, trivial⟩⟩
end Go.Proofs.Qxb6500568aGreatDoor
