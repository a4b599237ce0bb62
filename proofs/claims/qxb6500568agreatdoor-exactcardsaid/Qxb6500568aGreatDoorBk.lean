import Derived.Test.Qxb6500568aGreatDoorBj
/- The real numbers: New, Format. -/
namespace Go.Proofs.Qxb6500568aGreatDoor
open Ieee
set_option linter.unusedVariables false
set_option linter.unusedSimpArgs false

theorem New13 {w : World} : Ret Tryz.prog 13 [] w (fun v w' => ∃ p bb l, v = ptr p ∧ w.heap.size ≤ p ∧ w.heap.size ≤ bb ∧ bb ≠ p ∧ Blk w'.heap p [.slice (some ⟨bb, 0, none⟩) 24 24] 72 ∧ Blk w'.heap bb l 5 ∧ l.length = 24 ∧ Fram none' w w') := by
  have hF : Fram none' w w := Fram.refl _ _
  refine ret_of Tryz.func13 rfl Tryz.ntmps13 rfl ?_
  refine c_seq (fun K1 hK1 => ?_)
  refine c_reg ?_ -- region 0 num.go:24
  refine wl (ro_assign rfl) ?_
  refine wl_nil (x_then (hK1 _ _ ?_))
  clear hK1 K1
  refine forget [] trivial (fun e => ?_)
  refine c_seq (fun K2 hK2 => ?_)
  refine c_reg ?_ -- region 1 num.go:24
  refine wl_make (len := 24) (cap := 24) rfl rfl se_70 ze_5 (by simp) (by omega) (by omega) rfl bb_5 (fun b1 w1 hbb1 hB F1 => ?_)
  have hbsb1 := Nat.le_trans hF.size hbb1
  replace hF := hF.thenDrew.thenN F1
  refine wl (ro_build rfl bld_72_0) ?_
  refine wl_box rfl rfl (fun b3 w2 hbb3 hP F2 => ?_)
  have hbsb3 := Nat.le_trans hF.size hbb3
  have hneb1b3 : b1 < b3 := Nat.lt_of_lt_of_le hB.lt hbb3
  replace hF := hF.thenDrew.thenN F2
  replace hB := F2.blkN hB
  refine wl (ro_assign rfl) ?_
  refine wl_nil (x_then (hK2 _ _ ?_))
  clear hK2 K2
  refine c_ret ?_
  refine bp_ret Tryz.results13 rfl ?_
  exact ⟨b3, b1, _, rfl, by omega, by omega, by omega, hP, hB, by simp, hF⟩
theorem fCmp3 {a b : Nat} (ha : rgW a ≤ infB) (hb : rgW b ≤ infB) : fCmp 3 a b = decide (okey a < okey b) := by rw [cmpN ha hb]; rfl
theorem fCmp5 {a b : Nat} (ha : rgW a ≤ infB) (hb : rgW b ≤ infB) : fCmp 5 a b = decide (okey b < okey a) := by rw [cmpN ha hb]; rfl
theorem fCmp1 {a b : Nat} (ha : rgW a ≤ infB) (hb : rgW b ≤ infB) : fCmp 1 a b = decide (okey a = okey b) := by rw [cmpN ha hb]; rfl
theorem okey_rg (x : Nat) : okey (rgW x) = (rgW x : Int) := by unfold okey; rw [ng_rg, rg_rg]; rfl
theorem flr_pos {x : Nat} (hf : rgW x < infB) : fFlr (rgW x) = double.nearest false (truW x) 0 := by
  rw [flr_fin (rgW_lt x) (by rw [rg_rg]; exact hf), ng_rg, pm_rg, pe_rg]
  simp only [Bool.false_eq_true, false_and, if_false, Nat.add_zero]
  rfl
theorem flr_whoI {x r : Nat} (h1 : rgW x < 4845873199050653696) (hr : nrm r = fFlr (rgW x)) : fCmp 1 (rgW x) r = whoW x := by
  have hf : rgW x < infB := by unfold infB; omega
  rw [flr_pos hf] at hr
  have hrr : r = double.nearest false (truW x) 0 := by
    unfold nrm at hr
    by_cases c : isNaNW r = true
    · rw [if_pos c] at hr
      have := nearest_noNaN false (truW x) 0
      rw [← hr] at this
      exact absurd this (by decide)
    · rw [if_neg c] at hr; exact hr
  rw [hrr, fCmp1 (by rw [rg_rg]; omega) (nearest_le _ _ _)]
  have hb := back_eq (rgW_lt x) (by rw [rg_rg]; omega)
  rw [ng_rg, tru_rg, who_rg] at hb
  have e1 : sgI false (truW x) = (truW x : Int) := rfl
  rw [e1, Int.natAbs_natCast, show decide ((truW x : Int) < 0) = false by simp] at hb
  by_cases c : whoW x = true
  · rw [c]; simp; exact (hb.2 c).symm
  · have : whoW x = false := by simpa using c
    rw [this]; simp; exact fun h => c (hb.1 h.symm)
theorem fmt_sg (x : Nat) (hn : isNaNW x = false) (hi : rgW x ≠ infB) : fmtN x = (if ngW x then [45] else []) ++ (if rgW x = 0 then [48] else if 0 ≤ odE x ∧ odE x < 53 ∧ odP x * 2 ^ (odE x).toNat < 9007199254740992 then dgT (odP x * 2 ^ (odE x).toNat) else dgT (odP x) ++ (112 :: itT (odE x))) := by
  unfold fmtN; rw [hn, if_neg (by simp), if_neg hi]
theorem take_map_str {l : List Value} {o : List UInt8} (h : l.take o.length = o.map u8c) (k : Nat) (y : UInt8) (hk : o[k]? = some y) : l[k]? = some (u8c y) := by
  have hlt := (List.getElem?_eq_some_iff.1 hk).1
  have : (l.take o.length)[k]? = l[k]? := List.getElem?_take_of_lt hlt
  rw [← this, h, List.getElem?_map, hk]; rfl

theorem Format297 {w : World} {p bb x : Nat} {l : List Value} (hx : W64 x) (hP : Blk w.heap p [.slice (some ⟨bb, 0, none⟩) 24 24] 72) (hB : Blk w.heap bb l 5) (hl : l.length = 24) (hne : bb ≠ p) :
    Ret Tryz.prog 297 [ptr p, u64c x] w (fun v w' => v = S (fmtN x) ∧ (∃ l', Blk w'.heap bb l' 5 ∧ l'.length = 24) ∧ Fram (one bb) w w') := by
  have hF : Fram (one bb) w w := Fram.refl _ _
  have cM : okey 9218868437227405311 = 9218868437227405311 := by decide
  have cm : okey 18442240474082181119 = -9218868437227405311 := by decide
  have c53 : okey 4845873199050653696 = 4845873199050653696 := by decide
  have hx' := hx
  unfold W64 at hx'
  have hlen := fmtN_len hx
  refine ret_of Tryz.func297 rfl Tryz.ntmps297 rfl ?_
  refine c_seq (fun K1 hK1 => ?_)
  refine c_reg ?_ -- region 0 text.go:25
  refine wl (ro_assign rfl) ?_
  refine wl_nil (x_then (hK1 _ _ ?_))
  clear hK1 K1
  refine forget [(0, _), (1, _)] ⟨rfl, rfl, trivial⟩ (fun e => ?_)
  refine c_seq (fun K2 hK2 => ?_)
  refine c_reg ?_ -- region 1 text.go:26
  refine wl (ro_move rfl) ?_
  refine wl (ro_from rfl) ?_
  refine wl (ro_assign rfl) ?_
  refine wl_nil (x_then (hK2 _ _ ?_))
  clear hK2 K2
  refine c_seq (fun K3 hK3 => ?_)
  refine c_seq (fun K4 hK4 => ?_)
  refine c_reg ?_ -- region 2 text.go:27
  refine wl (ro_move rfl) ?_
  refine wl (ro_move rfl) ?_
  refine wl (ro_fcmp rfl rfl hx hx rfl) ?_
  refine wl_nil (x_then (hK4 _ _ ?_))
  clear hK4 K4
  rw [cmp_self]
  refine wc_cond rfl (fun hc18 => ?_) (fun hc18 => ?_)
  · try simp only [decide_eq_true_eq, decide_eq_false_iff_not, Bool.not_eq_true', Bool.not_eq_false', Bool.not_eq_eq_eq_not, Bool.not_true, Bool.not_false, beq_iff_eq, bne_iff_ne, ne_eq, beq_eq_false_iff_ne, bne_eq_false_iff_eq, gt_iff_lt, ge_iff_le, Int.not_lt, Int.not_le] at hc18
    refine c_seq (fun K5 hK5 => ?_)
    refine c_reg ?_ -- region 3 text.go:28
    refine wl (ro_assign rfl) ?_
    refine wl_nil (x_then (hK5 _ _ ?_))
    clear hK5 K5
    refine c_ret (x_thenR ?_)
    refine bp_ret Tryz.results297 rfl ?_
    exact ⟨by unfold fmtN; rw [if_pos hc18]; rfl, ⟨l, hB, hl⟩, hF⟩
  · try simp only [decide_eq_true_eq, decide_eq_false_iff_not, Bool.not_eq_true', Bool.not_eq_false', Bool.not_eq_eq_eq_not, Bool.not_true, Bool.not_false, beq_iff_eq, bne_iff_ne, ne_eq, beq_eq_false_iff_ne, bne_eq_false_iff_eq, gt_iff_lt, ge_iff_le, Int.not_lt, Int.not_le] at hc18
    have hna : rgW x ≤ infB := by unfold isNaNW at hc18; simp at hc18; omega
    obtain ⟨hmx1, hmx2⟩ := okey_max hna
    refine c_skip (x_then (hK3 _ _ ?_))
    clear hK3 K3
    refine c_seq (fun K6 hK6 => ?_)
    refine c_seq (fun K7 hK7 => ?_)
    refine c_reg ?_ -- region 4 text.go:30
    refine wl (ro_move rfl) ?_
    refine wl (ro_fcmp (b := 9218868437227405311) rfl rfl hx (by decide) rfl) ?_
    refine wl_nil (x_then (hK7 _ _ ?_))
    clear hK7 K7
    rw [fCmp5 hna (by decide), cM]
    refine wc_cond rfl (fun hc20 => ?_) (fun hc20 => ?_)
    · try simp only [decide_eq_true_eq, decide_eq_false_iff_not, Bool.not_eq_true', Bool.not_eq_false', Bool.not_eq_eq_eq_not, Bool.not_true, Bool.not_false, beq_iff_eq, bne_iff_ne, ne_eq, beq_eq_false_iff_ne, bne_eq_false_iff_eq, gt_iff_lt, ge_iff_le, Int.not_lt, Int.not_le] at hc20
      obtain ⟨hi, hg⟩ := hmx1.1 hc20
      refine c_seq (fun K8 hK8 => ?_)
      refine c_reg ?_ -- region 5 text.go:31
      refine wl (ro_assign rfl) ?_
      refine wl_nil (x_then (hK8 _ _ ?_))
      clear hK8 K8
      refine c_ret (x_thenR ?_)
      refine bp_ret Tryz.results297 rfl ?_
      exact ⟨by unfold fmtN; rw [hc18, hg, if_neg (by simp), if_neg (by simp), if_pos hi]; rfl, ⟨l, hB, hl⟩, hF⟩
    · try simp only [decide_eq_true_eq, decide_eq_false_iff_not, Bool.not_eq_true', Bool.not_eq_false', Bool.not_eq_eq_eq_not, Bool.not_true, Bool.not_false, beq_iff_eq, bne_iff_ne, ne_eq, beq_eq_false_iff_ne, bne_eq_false_iff_eq, gt_iff_lt, ge_iff_le, Int.not_lt, Int.not_le] at hc20
      refine c_skip (x_then (hK6 _ _ ?_))
      clear hK6 K6
      refine c_seq (fun K9 hK9 => ?_)
      refine c_seq (fun K10 hK10 => ?_)
      refine c_reg ?_ -- region 6 text.go:33
      refine wl (ro_move rfl) ?_
      refine wl (ro_fcmp (b := 18442240474082181119) rfl rfl hx (by decide) rfl) ?_
      refine wl_nil (x_then (hK10 _ _ ?_))
      clear hK10 K10
      rw [fCmp3 hna (by decide), cm]
      refine wc_cond rfl (fun hc22 => ?_) (fun hc22 => ?_)
      · try simp only [decide_eq_true_eq, decide_eq_false_iff_not, Bool.not_eq_true', Bool.not_eq_false', Bool.not_eq_eq_eq_not, Bool.not_true, Bool.not_false, beq_iff_eq, bne_iff_ne, ne_eq, beq_eq_false_iff_ne, bne_eq_false_iff_eq, gt_iff_lt, ge_iff_le, Int.not_lt, Int.not_le] at hc22
        obtain ⟨hi, hg⟩ := hmx2.1 hc22
        refine c_seq (fun K11 hK11 => ?_)
        refine c_reg ?_ -- region 7 text.go:34
        refine wl (ro_assign rfl) ?_
        refine wl_nil (x_then (hK11 _ _ ?_))
        clear hK11 K11
        refine c_ret (x_thenR ?_)
        refine bp_ret Tryz.results297 rfl ?_
        exact ⟨by unfold fmtN; rw [hc18, hg, if_neg (by simp), if_pos rfl, if_pos hi]; rfl, ⟨l, hB, hl⟩, hF⟩
      · try simp only [decide_eq_true_eq, decide_eq_false_iff_not, Bool.not_eq_true', Bool.not_eq_false', Bool.not_eq_eq_eq_not, Bool.not_true, Bool.not_false, beq_iff_eq, bne_iff_ne, ne_eq, beq_eq_false_iff_ne, bne_eq_false_iff_eq, gt_iff_lt, ge_iff_le, Int.not_lt, Int.not_le] at hc22
        have hni : rgW x ≠ infB := by
          intro hi
          cases hg : ngW x
          · have := hmx1.2 ⟨hi, hg⟩; omega
          · have := hmx2.2 ⟨hi, hg⟩; omega
        have hf : rgW x < infB := by omega
        have hfm := fmt_sg x hc18 hni
        refine c_skip (x_then (hK9 _ _ ?_))
        clear hK9 K9
        refine forget [(0, _), (1, _), (5, _)] ⟨rfl, rfl, rfl, trivial⟩ (fun e => ?_)
        refine c_seq (fun K12 hK12 => ?_)
        refine c_reg ?_ -- region 8 text.go:36
        refine wl (ro_move rfl) ?_
        refine wl (ro_nilCheck rfl) ?_
        refine wl (ro_fieldAddr (k := 0) rfl fo_72_0) ?_
        refine wl (ro_loadB rfl sc_70 (by assumption) rfl) ?_
        refine wl (ro_assign rfl) ?_
        refine wl_nil (x_then (hK12 _ _ ?_))
        clear hK12 K12
        refine forget [(1, _), (5, _), (6, _)] ⟨rfl, rfl, rfl, trivial⟩ (fun e => ?_)
        refine c_seq (fun K13 hK13 => ?_)
        refine c_reg ?_ -- region 9 text.go:37
        refine wl (ro_assign rfl) ?_
        refine wl_nil (x_then (hK13 _ _ ?_))
        clear hK13 K13
        refine forget [(1, _), (5, _), (6, _), (7, _)] ⟨rfl, rfl, rfl, rfl, trivial⟩ (fun e => ?_)
        refine c_seq (fun K14 hK14 => ?_)
        refine c_reg ?_ -- region 10 text.go:38
        refine wl (ro_move rfl) ?_
        refine wl (ro_shrU rfl rfl (by decide)) ?_
        refine wl (ro_assign rfl) ?_
        refine wl_nil (x_then (hK14 _ _ ?_))
        clear hK14 K14
        refine forget [(1, _), (5, _), (6, _), (7, _), (8, _)] ⟨rfl, rfl, rfl, rfl, rfl, trivial⟩ (fun e => ?_)
        refine c_seq (fun K15 hK15 => ?_)
        refine c_reg ?_ -- region 11 text.go:39
        refine wl (ro_move rfl) ?_
        refine wl (ro_assign rfl) ?_
        refine wl_nil (x_then (hK15 _ _ ?_))
        clear hK15 K15
        refine c_mid (fun a' w' => ∃ (T : List UInt8) (l1 : List Value), T = (if ngW x then [45] else []) ∧ l1.length = 24 ∧ l1.take T.length = T.map u8c ∧ Blk w'.heap bb l1 5 ∧ Fram (one bb) w w' ∧ ∃ e, a' = Fr 113 (upds e [(1, u64c x), (6, .slice (some ⟨bb, 0, none⟩) 24 24), (7, i64c T.length), (8, u64c (x / 2 ^ 52)), (9, fl (rgW x))]) []) ?_ ?_
        · skip
          refine c_seq (fun K16 hK16 => ?_)
          refine c_reg ?_ -- region 12 text.go:40
          refine wl (ro_move rfl) ?_
          refine wl (ro_shrU (a := x / 2 ^ 52) (b := 11) rfl rfl (by decide)) ?_
          refine wl (ro_cmpU rfl rfl rfl) ?_
          refine wl_nil (x_then (hK16 _ _ ?_))
          clear hK16 K16
          refine wc_cond rfl (fun hc32 => ?_) (fun hc32 => ?_)
          · try simp only [decide_eq_true_eq, decide_eq_false_iff_not, Bool.not_eq_true', Bool.not_eq_false', Bool.not_eq_eq_eq_not, Bool.not_true, Bool.not_false, beq_iff_eq, bne_iff_ne, ne_eq, beq_eq_false_iff_ne, bne_eq_false_iff_eq, gt_iff_lt, ge_iff_le, Int.not_lt, Int.not_le] at hc32
            have hng : ngW x = true := by unfold ngW; simp; omega
            refine c_seq (fun K17 hK17 => ?_)
            refine c_reg ?_ -- region 13 text.go:41
            refine wl (ro_move rfl) ?_
            refine wl (ro_move rfl) ?_
            refine wl (ro_indexAddr (et := 5) (k := 1) rfl rfl se_70 ((rfl : (0 : Int) = ((0 : Nat) : Int))) ((by decide))) ?_
            refine wl_put rfl rfl rfl sz_5 hB ((by rw [hl]; decide)) (rfl) (fun w1 hB F1 => ?_)
            replace hF := hF.thenDrew.thenO F1 (by first | exact .inr (by omega) | exact .inl rfl | exact .inl (by assumption) | assumption)
            replace hP := F1.blkO hP (by omega)
            refine wl_nil (x_then (hK17 _ _ ?_))
            clear hK17 K17
            refine forget [(1, _), (5, _), (6, _), (7, _), (8, _)] ⟨rfl, rfl, rfl, rfl, rfl, trivial⟩ (fun e => ?_)
            refine c_seq (fun K18 hK18 => ?_)
            refine c_reg ?_ -- region 14 text.go:42
            refine wl (ro_move rfl) ?_
            refine wl (ro_arith (k := .i64) rfl rfl rfl (Go.IntWalk.i64_in _ (by omega))) ?_
            refine wl (ro_assign rfl) ?_
            refine wl_nil (x_then (hK18 _ _ ?_))
            clear hK18 K18
            refine c_reg ?_ -- region 15 text.go:43
            refine wl (ro_move rfl) ?_
            refine wl (ro_fneg rfl hx) ?_
            refine wl (ro_assign rfl) ?_
            refine wl_nil (x_then ?_)
            have hnw : negW x = rgW x := by unfold negW rgW; rw [if_pos hng]; unfold ngW at hng; simp at hng; omega
            refine ⟨[45], _, by rw [hng]; rfl, ?_, ?_, hB, hF, kp _ ⟨rfl, rfl, rfl, rfl, by rw [← hnw]; rfl, trivial⟩⟩
            · rw [List.length_set]; exact hl
            · show List.take (0 + 1) (l.set 0 _) = _
              rw [take_set_succ _ _ _ (by omega)]; rfl
          · try simp only [decide_eq_true_eq, decide_eq_false_iff_not, Bool.not_eq_true', Bool.not_eq_false', Bool.not_eq_eq_eq_not, Bool.not_true, Bool.not_false, beq_iff_eq, bne_iff_ne, ne_eq, beq_eq_false_iff_ne, bne_eq_false_iff_eq, gt_iff_lt, ge_iff_le, Int.not_lt, Int.not_le] at hc32
            refine c_skip (x_then ?_)
            have hng : ngW x = false := by unfold ngW; simp; omega
            have hrx : rgW x = x := by unfold rgW; unfold ngW at hng; simp at hng; omega
            exact ⟨[], l, by rw [hng]; rfl, hl, rfl, hB, hF, kp _ ⟨rfl, rfl, rfl, rfl, by rw [hrx]; rfl, trivial⟩⟩
        clear hB hF hP hl
        rintro a' u1 ⟨T, l1, hT, hl1, hTl, hB, hF, e, rfl⟩
        have hT1 : T.length ≤ 1 := by rw [hT]; split <;> simp
        rw [← hT] at hfm
        refine c_mid (fun a' w' => ¬ (rgW x < 4845873199050653696 ∧ whoW x = true) ∧ Blk w'.heap bb l1 5 ∧ Fram (one bb) w w' ∧ ∃ e, a' = Fr 113 (upds e [(1, u64c x), (6, .slice (some ⟨bb, 0, none⟩) 24 24), (7, i64c T.length), (8, u64c (x / 2 ^ 52))]) []) ?_ ?_
        · skip
          refine c_seq (fun K19 hK19 => ?_)
          refine c_reg ?_ -- region 16 text.go:45
          refine wl (ro_move rfl) ?_
          refine wl (ro_fcmp (b := 4845873199050653696) rfl rfl (rgW_lt x) (by decide) rfl) ?_
          refine wl_fork rfl (fun hg42 => ?_) (fun hg42 => ?_)
          · try simp only [decide_eq_true_eq, decide_eq_false_iff_not, Bool.not_eq_true', Bool.not_eq_false', Bool.not_eq_eq_eq_not, Bool.not_true, Bool.not_false, beq_iff_eq, bne_iff_ne, ne_eq, beq_eq_false_iff_ne, bne_eq_false_iff_eq, gt_iff_lt, ge_iff_le, Int.not_lt, Int.not_le] at hg42
            refine wlg_yes rfl (ro_move rfl) ?_
            refine wlg_yes rfl (ro_move rfl) ?_
            refine wlg_call rfl rfl en_299 (Floor299 (rgW_lt x)) ?_
            rintro _ u2 ⟨r, rfl, hr, hrW, F2⟩
            replace hF := hF.transG F2 (by intro k hk h; simp only [one, none'] at h ⊢ <;> omega)
            replace hB := F2.blkF hB (by intro h; simp only [one, none'] at h <;> omega)
            refine wlg_yes rfl (ro_fcmp rfl rfl (rgW_lt x) hrW rfl) ?_
            refine wl (ro_pick rfl rfl rfl) ?_
            refine wl_nil (x_then (hK19 _ _ ?_))
            clear hK19 K19
            refine wc_cond rfl (fun hc47 => ?_) (fun hc47 => ?_)
            · try simp only [decide_eq_true_eq, decide_eq_false_iff_not, Bool.not_eq_true', Bool.not_eq_false', Bool.not_eq_eq_eq_not, Bool.not_true, Bool.not_false, beq_iff_eq, bne_iff_ne, ne_eq, beq_eq_false_iff_ne, bne_eq_false_iff_eq, gt_iff_lt, ge_iff_le, Int.not_lt, Int.not_le] at hc47
              have hsm : rgW x < 4845873199050653696 := by
                rw [fCmp3 (by rw [rg_rg]; exact hna) (by decide), c53, okey_rg] at hg42
                simp at hg42
                omega
              have hwho : whoW x = true := by rw [← flr_whoI hsm hr]; exact hc47
              have htl := rg53 (Nat.le_of_lt hsm)
              have hfin : fmtN x = T ++ dgT (truW x) := by
                rw [hfm]
                by_cases hz : rgW x = 0
                · rw [if_pos hz]
                  have : truW x = 0 := by unfold truW; rw [pm_zero.2 hz, Nat.zero_mul, Nat.zero_div]
                  rw [this]; rfl
                · obtain ⟨q1, q2, q3, q4⟩ := fmt_whole hz hsm hwho
                  rw [if_neg hz, if_pos ⟨q1, q2, q3⟩, q4]
              have hdl : (dgT (truW x)).length ≤ 16 := dgT_len (k := 15) (by omega) (by omega)
              refine c_seq (fun K20 hK20 => ?_)
              refine c_reg ?_ -- region 17 text.go:46
              refine wl (ro_move rfl) ?_
              refine wl (ro_move rfl) ?_
              refine wl (ro_move rfl) ?_
              refine wl ((show RO _ _ _ _ _ (u64c (truW x)) from ro_f2i (a := rgW x) (k := .u64) (m := (truW x : Int)) rfl (by kernel_rfl) in_117 (by have := f2i (k := .u64) (rgW_lt x) (by rw [rg_rg]; omega) (by rw [ng_rg, tru_rg]; show (0 : Int) ≤ (truW x : Int) ∧ (truW x : Int) ≤ 18446744073709551615; omega); rw [ng_rg, tru_rg] at this; exact this))) ?_
              refine wl_call rfl en_301 (lay301 (T := T) hB hl1 hTl (by unfold W64; omega) (by omega)) ?_
              rintro _ u3 ⟨rfl, ⟨l2, hB2, hl2, hT2⟩, F3⟩
              refine wl (ro_assign rfl) ?_
              refine wl_nil (x_then (hK20 _ _ ?_))
              clear hK20 K20
              refine forget [(6, _), (7, _)] ⟨rfl, rfl, trivial⟩ (fun e => ?_)
              refine c_seq (fun K21 hK21 => ?_)
              refine c_reg ?_ -- region 18 text.go:47
              refine wl (ro_move rfl) ?_
              refine wl (ro_move rfl) ?_
              refine wl (ro_sliceH (h := (T ++ dgT (truW x)).length) rfl rfl se_70 rfl (by rw [List.length_append]; omega)) ?_
              refine wl (ro_toS (o := T ++ dgT (truW x)) rfl se_70 (by kernel_rfl) st_9 hB2 rfl (take_map_str hT2)) ?_
              refine wl (ro_assign rfl) ?_
              refine wl_nil (x_then (hK21 _ _ ?_))
              clear hK21 K21
              refine c_ret (x_thenR ?_)
              refine bp_ret Tryz.results297 rfl ?_
              exact ⟨by rw [hfin], ⟨l2, hB2, hl2⟩, hF.thenO F3 (.inl rfl)⟩
            · try simp only [decide_eq_true_eq, decide_eq_false_iff_not, Bool.not_eq_true', Bool.not_eq_false', Bool.not_eq_eq_eq_not, Bool.not_true, Bool.not_false, beq_iff_eq, bne_iff_ne, ne_eq, beq_eq_false_iff_ne, bne_eq_false_iff_eq, gt_iff_lt, ge_iff_le, Int.not_lt, Int.not_le] at hc47
              skip
              refine c_skip (x_then ?_)
              refine ⟨?_, hB, hF, kp _ ⟨rfl, rfl, rfl, rfl, trivial⟩⟩
              rintro ⟨h1, h2⟩
              rw [flr_whoI h1 hr, h2] at hc47
              cases hc47
          · try simp only [decide_eq_true_eq, decide_eq_false_iff_not, Bool.not_eq_true', Bool.not_eq_false', Bool.not_eq_eq_eq_not, Bool.not_true, Bool.not_false, beq_iff_eq, bne_iff_ne, ne_eq, beq_eq_false_iff_ne, bne_eq_false_iff_eq, gt_iff_lt, ge_iff_le, Int.not_lt, Int.not_le] at hg42
            refine wlg_no rfl ?_
            refine wlg_no rfl ?_
            refine wlg_no rfl ?_
            refine wlg_no rfl ?_
            refine wl (ro_pick rfl rfl rfl) ?_
            refine wl_nil (x_then (hK19 _ _ ?_))
            clear hK19 K19
            refine wc_condF rfl ?_
            refine c_skip (x_then ?_)
            refine ⟨?_, hB, hF, kp _ ⟨rfl, rfl, rfl, rfl, trivial⟩⟩
            rintro ⟨h1, h2⟩
            rw [fCmp3 (by rw [rg_rg]; exact hna) (by decide), c53, okey_rg] at hg42
            simp at hg42
            omega
        clear hB hF
        rintro a' u5 ⟨hnw, hB, hF, e, rfl⟩
        have hz : rgW x ≠ 0 := by
          intro hz
          apply hnw
          refine ⟨by omega, ?_⟩
          unfold whoW
          rw [pm_zero.2 hz, Nat.zero_mul, Nat.zero_mod]; rfl
        have hpm := pm_lt x
        have hpe1 := pe_ge x
        have hpe2 := pe_le hf
        rw [if_neg hz, if_neg (fmt_part hz hf hnw)] at hfm
        refine c_seq (fun K22 hK22 => ?_)
        refine c_reg ?_ -- region 19 text.go:49
        refine wl (ro_move rfl) ?_
        refine wl (ro_assign rfl) ?_
        refine wl_nil (x_then (hK22 _ _ ?_))
        clear hK22 K22
        refine forget [(6, _), (7, _), (8, _), (10, _)] ⟨rfl, rfl, rfl, rfl, trivial⟩ (fun e => ?_)
        refine c_seq (fun K23 hK23 => ?_)
        refine c_reg ?_ -- region 20 text.go:50
        refine wl (ro_move rfl) ?_
        refine wl (ro_move rfl) ?_
        refine wl (ro_shlX (a := x / 2 ^ 52) (b := 52) rfl rfl (by decide) (by unfold W64; omega)) ?_
        refine wl (ro_xorU rfl (by unfold W64 at *; omega)) ?_
        refine wl ((show RO _ _ _ _ _ (u64c (x % 2 ^ 52)) from and_lo52 x hx ▸ ro_andU (a := x) (b := x / 2 ^ 52 * 2 ^ 52 ^^^ (2 ^ 64 - 1)) rfl rfl hx (Nat.xor_lt_two_pow (show x / 2 ^ 52 * 2 ^ 52 < 2 ^ 64 by omega) (by decide)))) ?_
        refine wl (ro_assign rfl) ?_
        refine wl_nil (x_then (hK23 _ _ ?_))
        clear hK23 K23
        refine forget [(6, _), (7, _), (8, _), (10, _)] ⟨rfl, rfl, rfl, rfl, trivial⟩ (fun e => ?_)
        refine c_seq (fun K24 hK24 => ?_)
        refine c_reg ?_ -- region 21 text.go:51
        refine wl (ro_move rfl) ?_
        refine wl (ro_lowU (a := x / 2 ^ 52) (k := 11) rfl rfl (by unfold W64; omega) (by omega)) ?_
        refine wl (ro_conv (a := ((x / 2 ^ 52 % 2 ^ 11 : Nat) : Int)) rfl sc_117 in_3 (Go.IntWalk.i64_in _ (by omega))) ?_
        refine wl (ro_arith (k := .i64) (a := ((x / 2 ^ 52 % 2 ^ 11 : Nat) : Int)) rfl rfl rfl (Go.IntWalk.i64_in _ (by omega))) ?_
        refine wl (ro_assign rfl) ?_
        refine wl_nil (x_then (hK24 _ _ ?_))
        clear hK24 K24
        refine c_mid (fun a' w' => Blk w'.heap bb l1 5 ∧ Fram (one bb) w w' ∧ ∃ e, a' = Fr 113 (upds e [(6, .slice (some ⟨bb, 0, none⟩) 24 24), (7, i64c T.length), (10, u64c (pmW x)), (11, icv (peW x))]) []) ?_ ?_
        · skip
          refine c_seq (fun K25 hK25 => ?_)
          refine c_reg ?_ -- region 22 text.go:52
          refine wl (ro_move rfl) ?_
          refine wl (ro_cmp rfl rfl rfl) ?_
          refine wl_nil (x_then (hK25 _ _ ?_))
          clear hK25 K25
          refine wc_cond rfl (fun hc68 => ?_) (fun hc68 => ?_)
          · try simp only [decide_eq_true_eq, decide_eq_false_iff_not, Bool.not_eq_true', Bool.not_eq_false', Bool.not_eq_eq_eq_not, Bool.not_true, Bool.not_false, beq_iff_eq, bne_iff_ne, ne_eq, beq_eq_false_iff_ne, bne_eq_false_iff_eq, gt_iff_lt, ge_iff_le, Int.not_lt, Int.not_le] at hc68
            refine c_reg ?_ -- region 23 text.go:53
            refine wl (ro_assign rfl) ?_
            refine wl_nil (x_then ?_)
            have hlt : rgW x < 4503599627370496 := by unfold rgW; omega
            have q1 : pmW x = x % 2 ^ 52 := by unfold pmW; rw [if_pos hlt]; unfold rgW at hlt ⊢; omega
            have q2 : peW x = -1074 := by unfold peW; rw [if_pos hlt]
            exact ⟨hB, hF, kp _ ⟨rfl, rfl, by rw [q1]; rfl, by rw [q2]; rfl, trivial⟩⟩
          · try simp only [decide_eq_true_eq, decide_eq_false_iff_not, Bool.not_eq_true', Bool.not_eq_false', Bool.not_eq_eq_eq_not, Bool.not_true, Bool.not_false, beq_iff_eq, bne_iff_ne, ne_eq, beq_eq_false_iff_ne, bne_eq_false_iff_eq, gt_iff_lt, ge_iff_le, Int.not_lt, Int.not_le] at hc68
            refine c_reg ?_ -- region 24 text.go:55
            refine wl (ro_move rfl) ?_
            refine wl (ro_or52 (a := x % 2 ^ 52) rfl (by omega)) ?_
            refine wl (ro_assign rfl) ?_
            refine wl_nil (x_then ?_)
            have hlt : ¬ rgW x < 4503599627370496 := by unfold rgW; omega
            have q1 : pmW x = x % 2 ^ 52 + 4503599627370496 := by unfold pmW; rw [if_neg hlt]; unfold rgW; omega
            have q2 : peW x = ((x / 2 ^ 52 % 2 ^ 11 : Nat) : Int) - 1075 := by unfold peW; rw [if_neg hlt]; unfold rgW; omega
            exact ⟨hB, hF, kp _ ⟨rfl, rfl, by rw [q1]; rfl, by rw [q2]; rfl, trivial⟩⟩
        clear hB hF
        rintro a' u6 ⟨hB, hF, e, rfl⟩
        refine c_seq (fun K26 hK26 => ?_)
        refine c_reg ?_ -- region 25 text.go:57
        refine wl (ro_assign rfl) ?_
        refine wl_nil (x_then (hK26 _ _ ?_))
        clear hK26 K26
        refine c_seq (fun K27 hK27 => ?_)
        refine c_seq (fun K28 hK28 => ?_)
        refine c_reg ?_ -- region 26 text.go:58
        refine wl (ro_assign rfl) ?_
        refine wl_nil (x_then (hK28 _ _ ?_))
        clear hK28 K28
        refine c_block ?_
        -- loop@r27: live slots [6, 7, 10, 11, 12, 13]
        refine c_loopG (fun m a' w' => ∃ t : Nat, t ≤ 52 ∧ m = 52 - t ∧ pmW x % 2 ^ t = 0 ∧ Blk w'.heap bb l1 5 ∧ Fram (one bb) w w' ∧ ∃ e, a' = Fr 113 (upds e [(6, .slice (some ⟨bb, 0, none⟩) 24 24), (7, i64c T.length), (10, u64c (pmW x)), (11, icv (peW x)), (12, i64c t), (13, u64c (2 ^ t))]) []) 52 ⟨0, by omega, by omega, by rw [Nat.pow_zero, Nat.mod_one], hB, hF, kp _ ⟨rfl, rfl, rfl, rfl, rfl, rfl, trivial⟩⟩ ?_
        clear hB hF
        rintro m a' u7 ⟨t, ht, hm, hmt, hB, hF, e, rfl⟩
        have htp := Nat.two_pow_pos t
        have hdm := Nat.div_add_mod (pmW x) (2 ^ t)
        rw [hmt, Nat.add_zero, Nat.mul_comm] at hdm
        have ht64 : 2 ^ t ≤ 4503599627370496 := Nat.pow_le_pow_right (n := 2) (j := 52) (by omega) ht
        refine c_seq (fun K29 hK29 => ?_)
        refine c_seq (fun K30 hK30 => ?_)
        refine c_reg ?_ -- region 27 text.go:58
        refine wl (ro_move rfl) ?_
        refine wl (ro_move rfl) ?_
        refine wl ((show RO _ _ _ _ _ (u64c (pmW x / 2 ^ t % 2 * 2 ^ t)) from and_bit (pmW x) t ▸ ro_andU (a := pmW x) (b := 2 ^ t) rfl rfl (show pmW x < 2 ^ 64 by omega) (show 2 ^ t < 2 ^ 64 by omega))) ?_
        refine wl (ro_cmpU rfl rfl rfl) ?_
        refine wl_nil (x_then (hK30 _ _ ?_))
        clear hK30 K30
        refine wc_cond rfl (fun hc74 => ?_) (fun hc74 => ?_)
        · try simp only [decide_eq_true_eq, decide_eq_false_iff_not, Bool.not_eq_true', Bool.not_eq_false', Bool.not_eq_eq_eq_not, Bool.not_true, Bool.not_false, beq_iff_eq, bne_iff_ne, ne_eq, beq_eq_false_iff_ne, bne_eq_false_iff_eq, gt_iff_lt, ge_iff_le, Int.not_lt, Int.not_le] at hc74
          have hev : pmW x / 2 ^ t % 2 = 0 := by
            rcases Nat.mul_eq_zero.1 hc74 with h | h <;> omega
          have hmt' : pmW x % 2 ^ (t + 1) = 0 := by
            rw [← hdm, Nat.pow_succ, Nat.mul_comm (2 ^ t) 2, Nat.mul_mod_mul_right, hev, Nat.zero_mul]
          have ht52 : t < 52 := by
            rcases Nat.lt_or_ge t 52 with h | h
            · exact h
            · exfalso
              have e52 : t = 52 := by omega
              subst e52
              have hz0 : pmW x ≠ 0 := fun c => hz (pm_zero.1 c)
              omega
          refine c_skip (x_then (hK29 _ _ ?_))
          clear hK29 K29
          refine forget [(6, _), (7, _), (10, _), (11, _), (12, _), (13, _)] ⟨rfl, rfl, rfl, rfl, rfl, rfl, trivial⟩ (fun e => ?_)
          refine c_seq (fun K31 hK31 => ?_)
          refine c_block ?_
          refine c_reg ?_ -- region 29 text.go:59
          refine wl (ro_move rfl) ?_
          refine wl (ro_arith (k := .i64) (a := (t : Int)) (r := ((t + 1 : Nat) : Int)) rfl rfl (by show some ((t : Int) + 1) = _; congr 1) (Go.IntWalk.i64_in _ (by omega))) ?_
          refine wl (ro_assign rfl) ?_
          refine wl_nil (x_blk (x_then (hK31 _ _ ?_)))
          clear hK31 K31
          refine c_reg ?_ -- region 28 text.go:58
          refine wl (ro_move rfl) ?_
          refine wl (ro_shlX (a := 2 ^ t) (b := 1) rfl rfl (by decide) (by unfold W64; omega)) ?_
          refine wl (ro_assign rfl) ?_
          refine wl_nil (x_then ?_)
          exact ⟨52 - (t + 1), by omega, t + 1, by omega, rfl, hmt', hB, hF, kp _ ⟨rfl, rfl, rfl, rfl, rfl, by rw [Nat.pow_succ 2 t]; rfl, trivial⟩⟩
        · try simp only [decide_eq_true_eq, decide_eq_false_iff_not, Bool.not_eq_true', Bool.not_eq_false', Bool.not_eq_eq_eq_not, Bool.not_true, Bool.not_false, beq_iff_eq, bne_iff_ne, ne_eq, beq_eq_false_iff_ne, bne_eq_false_iff_eq, gt_iff_lt, ge_iff_le, Int.not_lt, Int.not_le] at hc74
          have hod : pmW x / 2 ^ t % 2 = 1 := by
            rcases Nat.mod_two_eq_zero_or_one (pmW x / 2 ^ t) with h | h
            · rw [h, Nat.zero_mul] at hc74; exact absurd rfl hc74
            · exact h
          obtain ⟨ho, hoe⟩ := od_uniq hz hdm.symm hod
          have hol : odP x ≤ pmW x := by rw [← ho]; exact Nat.div_le_self _ _
          have hdo : (dgT (odP x)).length ≤ 16 := dgT_len (k := 15) (by omega) (by omega)
          refine c_exit (x_thenX (x_thenX (x_blkX (x_then (hK27 _ _ ?_)))))
          clear hK29 K29 hK27 K27
          refine forget [(6, _), (7, _), (10, _), (11, _), (12, _)] ⟨rfl, rfl, rfl, rfl, rfl, trivial⟩ (fun e => ?_)
          refine c_seq (fun K32 hK32 => ?_)
          refine c_reg ?_ -- region 30 text.go:61
          refine wl (ro_move rfl) ?_
          refine wl (ro_move rfl) ?_
          refine wl (ro_conv (a := (t : Int)) rfl sc_3 in_206 (Go.IntWalk.u64_in _ (by omega))) ?_
          refine wl ((show RO _ _ _ _ _ (u64c (odP x)) from ho ▸ ro_shrU (a := pmW x) (b := t) rfl rfl (by omega))) ?_
          refine wl (ro_assign rfl) ?_
          refine wl_nil (x_then (hK32 _ _ ?_))
          clear hK32 K32
          refine forget [(6, _), (7, _), (10, _), (11, _), (12, _)] ⟨rfl, rfl, rfl, rfl, rfl, trivial⟩ (fun e => ?_)
          refine c_seq (fun K33 hK33 => ?_)
          refine c_reg ?_ -- region 31 text.go:62
          refine wl (ro_move rfl) ?_
          refine wl (ro_move rfl) ?_
          refine wl ((show RO _ _ _ _ _ (icv (odE x)) from hoe ▸ ro_arith (k := .i64) (a := peW x) (b := (t : Int)) rfl rfl rfl (Go.IntWalk.i64_in _ (by omega)))) ?_
          refine wl (ro_assign rfl) ?_
          refine wl_nil (x_then (hK33 _ _ ?_))
          clear hK33 K33
          refine forget [(6, _), (7, _), (10, _), (11, _)] ⟨rfl, rfl, rfl, rfl, trivial⟩ (fun e => ?_)
          refine c_seq (fun K34 hK34 => ?_)
          refine c_reg ?_ -- region 32 text.go:63
          refine wl (ro_move rfl) ?_
          refine wl (ro_move rfl) ?_
          refine wl (ro_move rfl) ?_
          refine wl_call rfl en_301 (lay301 (T := T) hB hl1 hTl (by unfold W64; omega) (by omega)) ?_
          rintro _ u8 ⟨rfl, ⟨l2, hB2, hl2, hT2⟩, F8⟩
          replace hF := hF.thenO F8 (.inl rfl)
          clear hB
          obtain ⟨T2, hTT⟩ : ∃ T2, T2 = T ++ dgT (odP x) := ⟨_, rfl⟩
          rw [← hTT] at hT2 ⊢
          have hT2l : T2.length ≤ 17 := by rw [hTT, List.length_append]; omega
          refine wl (ro_assign rfl) ?_
          refine wl_nil (x_then (hK34 _ _ ?_))
          clear hK34 K34
          refine forget [(6, _), (7, _), (11, _)] ⟨rfl, rfl, rfl, trivial⟩ (fun e => ?_)
          refine c_seq (fun K35 hK35 => ?_)
          refine c_reg ?_ -- region 33 text.go:64
          refine wl (ro_move rfl) ?_
          refine wl (ro_move rfl) ?_
          refine wl (ro_indexAddr (et := 5) (k := 1) rfl rfl se_70 (rfl) ((by omega))) ?_
          refine wl_put rfl rfl rfl sz_5 hB2 ((by omega)) (rfl) (fun w2 hB2 F2 => ?_)
          replace hF := hF.thenDrew.thenO F2 (by first | exact .inr (by omega) | exact .inl rfl | exact .inl (by assumption) | assumption)
          refine wl_nil (x_then (hK35 _ _ ?_))
          clear hK35 K35
          refine forget [(6, _), (7, _), (11, _)] ⟨rfl, rfl, rfl, trivial⟩ (fun e => ?_)
          refine c_seq (fun K36 hK36 => ?_)
          refine c_reg ?_ -- region 34 text.go:65
          refine wl (ro_move rfl) ?_
          refine wl (ro_arith (k := .i64) (a := (T2.length : Int)) (r := ((T2.length + 1 : Nat) : Int)) rfl rfl (by show some ((T2.length : Int) + 1) = _; congr 1) (Go.IntWalk.i64_in _ (by omega))) ?_
          refine wl (ro_assign rfl) ?_
          refine wl_nil (x_then (hK36 _ _ ?_))
          clear hK36 K36
          refine c_mid (fun a' w' => ∃ (T3 : List UInt8) (E : Nat) (l3 : List Value), T3 ++ dgT E = T2 ++ 112 :: itT (odE x) ∧ E ≤ 1100 ∧ T3.length ≤ 19 ∧ l3.length = 24 ∧ l3.take T3.length = T3.map u8c ∧ Blk w'.heap bb l3 5 ∧ Fram (one bb) w w' ∧ ∃ e, a' = Fr 113 (upds e [(6, .slice (some ⟨bb, 0, none⟩) 24 24), (7, i64c T3.length), (11, i64c E)]) []) ?_ ?_
          · skip
            refine c_seq (fun K37 hK37 => ?_)
            have hTp : (l2.set (0 + T2.length * 1) (Value.int .u8 112)).take (T2 ++ [112]).length = (T2 ++ [112]).map u8c := by
              rw [show (T2 ++ ([112] : List UInt8)).length = 0 + T2.length * 1 + 1 by simp, take_set_succ _ _ _ (by omega), show 0 + T2.length * 1 = T2.length by omega, hT2, List.map_append]
              rfl
            refine c_reg ?_ -- region 35 text.go:66
            refine wl (ro_move rfl) ?_
            refine wl (ro_cmp rfl rfl rfl) ?_
            refine wl_nil (x_then (hK37 _ _ ?_))
            clear hK37 K37
            refine wc_cond rfl (fun hc96 => ?_) (fun hc96 => ?_)
            · try simp only [decide_eq_true_eq, decide_eq_false_iff_not, Bool.not_eq_true', Bool.not_eq_false', Bool.not_eq_eq_eq_not, Bool.not_true, Bool.not_false, beq_iff_eq, bne_iff_ne, ne_eq, beq_eq_false_iff_ne, bne_eq_false_iff_eq, gt_iff_lt, ge_iff_le, Int.not_lt, Int.not_le] at hc96
              refine c_seq (fun K38 hK38 => ?_)
              refine c_reg ?_ -- region 36 text.go:67
              refine wl (ro_move rfl) ?_
              refine wl (ro_move rfl) ?_
              refine wl (ro_indexAddr (et := 5) (k := 1) rfl rfl se_70 (rfl) ((by omega))) ?_
              refine wl_put rfl rfl rfl sz_5 hB2 ((by rw [List.length_set]; omega)) (rfl) (fun w3 hB2 F3 => ?_)
              replace hF := hF.thenDrew.thenO F3 (by first | exact .inr (by omega) | exact .inl rfl | exact .inl (by assumption) | assumption)
              refine wl_nil (x_then (hK38 _ _ ?_))
              clear hK38 K38
              refine forget [(6, _), (7, _), (11, _)] ⟨rfl, rfl, rfl, trivial⟩ (fun e => ?_)
              refine c_seq (fun K39 hK39 => ?_)
              refine c_reg ?_ -- region 37 text.go:68
              refine wl (ro_move rfl) ?_
              refine wl (ro_arith (k := .i64) (a := ((T2.length + 1 : Nat) : Int)) (r := ((T2.length + 1 + 1 : Nat) : Int)) rfl rfl (by show some (((T2.length + 1 : Nat) : Int) + 1) = _; congr 1) (Go.IntWalk.i64_in _ (by omega))) ?_
              refine wl (ro_assign rfl) ?_
              refine wl_nil (x_then (hK39 _ _ ?_))
              clear hK39 K39
              refine c_reg ?_ -- region 38 text.go:69
              refine wl (ro_move rfl) ?_
              refine wl (ro_neg rfl (by omega)) ?_
              refine wl (ro_assign rfl) ?_
              refine wl_nil (x_then ?_)
              refine ⟨T2 ++ [112] ++ [45], (-odE x).toNat, _, ?_, by omega, by simp; omega, ?_, ?_, hB2, hF, kp _ ⟨rfl, ?_, ?_, trivial⟩⟩
              · unfold itT; rw [if_pos hc96]; simp
              · rw [List.length_set, List.length_set]; exact hl2
              · rw [show (T2 ++ ([112] : List UInt8) ++ ([45] : List UInt8)).length = 0 + (T2.length + 1) * 1 + 1 by simp, take_set_succ _ _ _ (by rw [List.length_set]; omega), show 0 + (T2.length + 1) * 1 = (T2 ++ ([112] : List UInt8)).length by simp, hTp, List.map_append (l₁ := T2 ++ [112])]
                rfl
              · rw [show (T2 ++ ([112] : List UInt8) ++ ([45] : List UInt8)).length = T2.length + 1 + 1 by simp]; rfl
              · show some (Value.int .i64 (-odE x)) = some (.int .i64 _)
                congr 2
                omega
            · try simp only [decide_eq_true_eq, decide_eq_false_iff_not, Bool.not_eq_true', Bool.not_eq_false', Bool.not_eq_eq_eq_not, Bool.not_true, Bool.not_false, beq_iff_eq, bne_iff_ne, ne_eq, beq_eq_false_iff_ne, bne_eq_false_iff_eq, gt_iff_lt, ge_iff_le, Int.not_lt, Int.not_le] at hc96
              refine c_skip (x_then ?_)
              refine ⟨T2 ++ [112], (odE x).toNat, _, ?_, by omega, by simp; omega, ?_, hTp, hB2, hF, kp _ ⟨rfl, ?_, ?_, trivial⟩⟩
              · unfold itT; rw [if_neg (by omega)]; simp
              · rw [List.length_set]; exact hl2
              · rw [show (T2 ++ ([112] : List UInt8)).length = T2.length + 1 by simp]; rfl
              · show some (Value.int .i64 (odE x)) = some (.int .i64 _)
                congr 2
                omega
          clear hB2 hF
          rintro a' u9 ⟨T3, E, l3, hTE, hE, hT3, hl3, hTl3, hB3, hF, e, rfl⟩
          have hEl : (dgT E).length ≤ 4 := dgT_len (k := 3) (by omega) (by omega)
          refine c_seq (fun K40 hK40 => ?_)
          refine c_reg ?_ -- region 39 text.go:71
          refine wl (ro_move rfl) ?_
          refine wl (ro_move rfl) ?_
          refine wl (ro_move rfl) ?_
          refine wl (ro_conv (a := (E : Int)) rfl sc_3 in_117 (Go.IntWalk.u64_in _ (by omega))) ?_
          refine wl_call rfl en_301 (lay301 (T := T3) (u := E) hB3 hl3 hTl3 (by unfold W64; omega) (by omega)) ?_
          rintro _ u10 ⟨rfl, ⟨l4, hB4, hl4, hT4⟩, F9⟩
          replace hF := hF.thenO F9 (.inl rfl)
          refine wl (ro_assign rfl) ?_
          refine wl_nil (x_then (hK40 _ _ ?_))
          clear hK40 K40
          refine forget [(6, _), (7, _)] ⟨rfl, rfl, trivial⟩ (fun e => ?_)
          refine c_seq (fun K41 hK41 => ?_)
          refine c_reg ?_ -- region 40 text.go:72
          refine wl (ro_move rfl) ?_
          refine wl (ro_move rfl) ?_
          refine wl (ro_sliceH (h := (T3 ++ dgT E).length) rfl rfl se_70 rfl (by rw [List.length_append]; omega)) ?_
          refine wl (ro_toS (o := T3 ++ dgT E) rfl se_70 (by kernel_rfl) st_9 hB4 rfl (take_map_str hT4)) ?_
          refine wl (ro_assign rfl) ?_
          refine wl_nil (x_then (hK41 _ _ ?_))
          clear hK41 K41
          refine c_ret ?_
          refine bp_ret Tryz.results297 rfl ?_
          exact ⟨by rw [hfm, hTE, hTT, List.append_assoc], ⟨l4, hB4, hl4⟩, hF⟩
end Go.Proofs.Qxb6500568aGreatDoor
