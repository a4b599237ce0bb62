import Derived.Test.Qxb6500568aGreatDoorRf
import Derived.Test.Qxb6500568aGreatDoorDl
/- The check of a table: points, unpack. -/
namespace Go.Proofs.Qxb6500568aGreatDoor
open Ieee
set_option linter.unusedVariables false
set_option linter.unusedSimpArgs false
set_option linter.unusedSectionVars false

theorem numCheck206 {w : World} {nb bb : Nat} (hN : Blk w.heap nb [.slice (some ⟨bb, 0, none⟩) 24 24] 72) : Ret Tryz.prog 206 [ptr nb] w (fun r w' => r = .bool true ∧ Fram none' w w') := by
  have hF : Fram none' w w := Fram.refl _ _
  refine ret_of Tryz.func206 rfl Tryz.ntmps206 rfl ?_
  refine c_seq (fun K1 hK1 => ?_)
  refine c_reg ?_ -- region 0 num.go:45
  refine wl (ro_assign rfl) ?_
  refine wl_nil (x_then (hK1 _ _ ?_))
  clear hK1 K1
  refine forget [(0, _)] ⟨rfl, trivial⟩ (fun e => ?_)
  refine c_seq (fun K2 hK2 => ?_)
  refine c_reg ?_ -- region 1 num.go:45
  refine wl (ro_move rfl) ?_
  refine wl (ro_nilCheck rfl) ?_
  refine wl (ro_fieldAddr (k := 0) rfl fo_72_0) ?_
  refine wl (ro_loadB rfl sc_70 (hN) rfl) ?_
  refine wl (ro_lenL rfl se_70) ?_
  refine wl (ro_cmp rfl rfl rfl) ?_
  refine wl (ro_assign rfl) ?_
  refine wl_nil (x_then (hK2 _ _ ?_))
  clear hK2 K2
  refine c_ret ?_
  refine bp_ret Tryz.results206 rfl ?_
  exact ⟨rfl, hF⟩
theorem unpack277 {w : World} {k : PV} (hT : k.T < 8) (hN : k.N < 4294967296) (hS : k.S = []) : Ret Tryz.prog 277 [u64c (packV k)] w (fun r w' => r = pv k ∧ Fram none' w w') := by
  have hF : Fram none' w w := Fram.refl _ _
  have e1 : packV k / 4294967296 = k.T := by unfold packV; omega
  have e2 : packV k % 4294967296 = k.N := by unfold packV; omega
  refine ret_of Tryz.func277 rfl Tryz.ntmps277 rfl ?_
  refine c_seq (fun K1 hK1 => ?_)
  refine c_reg ?_ -- region 0 index.go:15
  refine wl_new (ze_119) (fun b2 w1 hbb2 h2 F1 => ?_)
  have hbsb2 := Nat.le_trans hF.size hbb2
  replace hF := hF.thenDrew.thenN F1
  refine wl_nil (x_then (hK1 _ _ ?_))
  clear hK1 K1
  refine forget [(0, _), (2, _)] ⟨rfl, rfl, trivial⟩ (fun e => ?_)
  refine c_seq (fun K2 hK2 => ?_)
  refine c_reg ?_ -- region 1 index.go:15
  refine wl (ro_move rfl) ?_
  refine wl (ro_shrU (a := packV k) (b := 32) rfl rfl (by decide)) ?_
  refine wl (ro_conv (a := ((packV k / 2 ^ 32 : Nat) : Int)) rfl sc_117 in_3 (Go.IntWalk.i64_in _ (by omega))) ?_
  refine wl (ro_move rfl) ?_
  refine wl (ro_and32U (a := packV k) rfl (by unfold W64 packV; omega)) ?_
  refine wl (ro_build rfl bld_119_0_1) ?_
  refine wl_puta rfl rfl ((by (try exact vlc_cells _); all_goals simp [Value.oneCell', i64c, icv, u64c, u8c, ptr, S])) sz_119 (rfl) h2 ((by simp)) (rfl) (fun w2 h2 F2 => ?_)
  replace hF := hF.thenDrew.thenO F2 (by first | exact .inr (by omega) | exact .inl rfl | exact .inl (by assumption) | assumption)
  refine wl_nil (x_then (hK2 _ _ ?_))
  clear hK2 K2
  refine c_ret ?_
  refine bq_ret (res1 Tryz.results277 (rv_c rfl ag_119 (h2) (rfl))) ?_
  refine ⟨?_, hF⟩
  show Value.agg #[.int .i64 ((packV k / 2 ^ 32 : Nat) : Int), u64c (packV k % 4294967296), S []] = Value.agg #[i64c k.T, u64c k.N, S k.S]
  rw [show packV k / 2 ^ 32 = k.T from e1, e2, hS]
  rfl
/-- the places seen. -/
def seenC (G : Nat → Bool) : List Value := cel 32 (fun p => .bool (G p))
set_option maxHeartbeats 4000000 in
theorem points276 {w : World} {ab o sb p g : Nat} {l lo : List Value} {n cap : Nat} {G : Nat → Bool} {k v : PV} (hA : Blk w.heap ab l 251) (hl : l[o]? = some (.slice (some ⟨g, 0, none⟩) n cap)) (hO : Blk w.heap g lo 263) (hp : p < n) (hn : n ≤ 32) (hx : (lo.drop (0 + p * 6)).take 6 = enc (k, v)) (hSn : Blk w.heap sb (seenC G) 425) (hG : G p = false) :
    Ret Tryz.prog 276 [ptrAt ab o, i32c p, pv k, ptr sb] w (fun r w' => r = .bool true ∧ Blk w'.heap sb (seenC (Gup G p)) 425 ∧ Fram (one sb) w w') := by
  have hF : Fram (one sb) w w := Fram.refl _ _
  have n1 : ab ≠ sb := hA.ne_type hSn (by decide)
  have n2 : g ≠ sb := hO.ne_type hSn (by decide)
  have hx3 : (lo.drop (0 + p * 6)).take 3 = pvc k := by
    have := congrArg (List.take 3) hx
    rw [List.take_take] at this
    exact this
  refine ret_of Tryz.func276 rfl Tryz.ntmps276 rfl ?_
  refine c_seq (fun K1 hK1 => ?_)
  refine c_reg ?_ -- region 0 check.go:113
  refine wl_box (cs := (pvc k)) rfl rfl (fun b6 w1 hbb6 h6 F1 => ?_)
  have hbsb6 := Nat.le_trans hF.size hbb6
  have hneabb6 : ab < b6 := Nat.lt_of_lt_of_le hA.lt hbb6
  have hnegb6 : g < b6 := Nat.lt_of_lt_of_le hO.lt hbb6
  have hnesbb6 : sb < b6 := Nat.lt_of_lt_of_le hSn.lt hbb6
  replace hF := hF.thenDrew.thenN F1
  replace hA := F1.blkN hA
  replace hO := F1.blkN hO
  replace hSn := F1.blkN hSn
  refine wl (ro_assign rfl) ?_
  refine wl_nil (x_then (hK1 _ _ ?_))
  clear hK1 K1
  refine c_seq (fun K2 hK2 => ?_)
  refine c_seq (fun K3 hK3 => ?_)
  refine c_reg ?_ -- region 1 check.go:114
  refine wl (ro_move rfl) ?_
  refine wl (ro_cmp rfl rfl rfl) ?_
  refine wl_fork rfl (fun hg11 => ?_) (fun hg11 => ?_)
  · try simp only [decide_eq_true_eq, decide_eq_false_iff_not, Bool.not_eq_true', Bool.not_eq_false', Bool.not_eq_eq_eq_not, Bool.not_true, Bool.not_false, beq_iff_eq, bne_iff_ne, ne_eq, beq_eq_false_iff_ne, bne_eq_false_iff_eq, gt_iff_lt, ge_iff_le, Int.not_lt, Int.not_le] at hg11
    exfalso; omega
  · try simp only [decide_eq_true_eq, decide_eq_false_iff_not, Bool.not_eq_true', Bool.not_eq_false', Bool.not_eq_eq_eq_not, Bool.not_true, Bool.not_false, beq_iff_eq, bne_iff_ne, ne_eq, beq_eq_false_iff_ne, bne_eq_false_iff_eq, gt_iff_lt, ge_iff_le, Int.not_lt, Int.not_le] at hg11
    refine wlg_yes rfl (ro_move rfl) ?_
    refine wlg_yes rfl (ro_conv rfl sc_21 in_3 (Go.IntWalk.i64_in _ (by omega))) ?_
    refine wlg_yes rfl (ro_move rfl) ?_
    refine wlg_yes rfl (ro_nilCheck rfl) ?_
    refine wlg_yes rfl (ro_fieldAddr (k := 0) rfl fo_251_0) ?_
    refine wlg_yes rfl (ro_loadB rfl sc_246 (hA) (hl)) ?_
    refine wlg_yes rfl (ro_lenL rfl se_246) ?_
    refine wlg_yes rfl (ro_cmp rfl rfl rfl) ?_
    refine wl (ro_pick rfl rfl rfl) ?_
    refine wl_fork rfl (fun hg21 => ?_) (fun hg21 => ?_)
    · try simp only [decide_eq_true_eq, decide_eq_false_iff_not, Bool.not_eq_true', Bool.not_eq_false', Bool.not_eq_eq_eq_not, Bool.not_true, Bool.not_false, beq_iff_eq, bne_iff_ne, ne_eq, beq_eq_false_iff_ne, bne_eq_false_iff_eq, gt_iff_lt, ge_iff_le, Int.not_lt, Int.not_le] at hg21
      exfalso; omega
    · try simp only [decide_eq_true_eq, decide_eq_false_iff_not, Bool.not_eq_true', Bool.not_eq_false', Bool.not_eq_eq_eq_not, Bool.not_true, Bool.not_false, beq_iff_eq, bne_iff_ne, ne_eq, beq_eq_false_iff_ne, bne_eq_false_iff_eq, gt_iff_lt, ge_iff_le, Int.not_lt, Int.not_le] at hg21
      refine wlg_yes rfl (ro_move rfl) ?_
      refine wlg_yes rfl (ro_move rfl) ?_
      refine wlg_yes rfl (ro_nilCheck rfl) ?_
      refine wlg_yes rfl (ro_indexAddrA (et := 4) (k := 1) rfl rfl ar_425 (rfl) ((by omega))) ?_
      refine wlg_yes rfl (ro_loadB rfl sc_4 (hSn) ((by unfold seenC; exact cel_at (k := p) (v := .bool false) (by omega) (by omega) (by rw [hG])))) ?_
      refine wl (ro_pick rfl rfl rfl) ?_
      refine wl_nil (x_then (hK3 _ _ ?_))
      clear hK3 K3
      refine wc_cond rfl (fun hc27 => ?_) (fun hc27 => ?_)
      · try simp only [decide_eq_true_eq, decide_eq_false_iff_not, Bool.not_eq_true', Bool.not_eq_false', Bool.not_eq_eq_eq_not, Bool.not_true, Bool.not_false, beq_iff_eq, bne_iff_ne, ne_eq, beq_eq_false_iff_ne, bne_eq_false_iff_eq, gt_iff_lt, ge_iff_le, Int.not_lt, Int.not_le] at hc27
        exfalso; cases hc27
      · try simp only [decide_eq_true_eq, decide_eq_false_iff_not, Bool.not_eq_true', Bool.not_eq_false', Bool.not_eq_eq_eq_not, Bool.not_true, Bool.not_false, beq_iff_eq, bne_iff_ne, ne_eq, beq_eq_false_iff_ne, bne_eq_false_iff_eq, gt_iff_lt, ge_iff_le, Int.not_lt, Int.not_le] at hc27
        refine c_skip (x_then (hK2 _ _ ?_))
        clear hK2 K2
        refine forget [(0, _), (1, _), (3, _), (6, _)] ⟨rfl, rfl, rfl, rfl, trivial⟩ (fun e => ?_)
        refine c_seq (fun K4 hK4 => ?_)
        refine c_reg ?_ -- region 3 check.go:117
        refine wl (ro_move rfl) ?_
        refine wl (ro_move rfl) ?_
        refine wl (ro_nilCheck rfl) ?_
        refine wl (ro_indexAddrA (et := 4) (k := 1) rfl rfl ar_425 rfl (by omega)) ?_
        refine wl_put rfl rfl rfl sz_4 hSn ((by unfold seenC; rw [cel_len]; omega)) ((cel_put p (by omega))) (fun w2 hSn F2 => ?_)
        replace hF := hF.thenDrew.thenO F2 (by first | exact .inr (by omega) | exact .inl rfl | exact .inl (by assumption) | assumption)
        replace hA := F2.blkO hA (by first | (simp only [ne_eq, n1, n2, not_false_eq_true]; done) | omega)
        replace hO := F2.blkO hO (by first | (simp only [ne_eq, n1, n2, not_false_eq_true]; done) | omega)
        replace h6 := F2.blkO h6 (by first | (simp only [ne_eq, n1, n2, not_false_eq_true]; done) | omega)
        replace hSn : Blk (w2).heap sb (seenC (Gup G p)) 425 := by
          unfold seenC
          rw [cel_congr (g := pt (fun p => .bool (G p)) p (.bool true)) (fun j _ => ?_)]
          · exact hSn
          · unfold pt Gup
            by_cases hq : j = p
            · simp [hq]
            · simp [hq]
        refine wl_nil (x_then (hK4 _ _ ?_))
        clear hK4 K4
        refine forget [(0, _), (1, _), (6, _)] ⟨rfl, rfl, rfl, trivial⟩ (fun e => ?_)
        refine c_seq (fun K5 hK5 => ?_)
        refine c_pi [(0, false), (1, false), (2, false), (3, false), (4, false), (5, false), (6, false), (7, false), (8, false), (9, false), (10, false)] (SameH _) mixed (by kernel_rfl) rfl (by kernel_rfl) (po_then (po_bp)) (sameH_now _ _) ?_ -- region 4 check.go:118
        refine pi_ro rfl (fun w hS => ro_move rfl) ?_
        refine pi_ro rfl (fun w hS => ro_nilCheck rfl) ?_
        refine pi_ro rfl (fun w hS => ro_fieldAddr (k := 0) rfl fo_251_0) ?_
        refine pi_ro rfl (fun w hS => ro_loadB rfl sc_246 (Blk.of_heap hA hS) (hl)) ?_
        refine pi_ro rfl (fun w hS => ro_move rfl) ?_
        refine pi_ro rfl (fun w hS => ro_indexAddr (et := 263) (k := 6) rfl rfl se_246 (rfl) (hp)) ?_
        refine pi_ro rfl (fun w hS => ro_fieldAddr (k := 0) rfl fo_263_0) ?_
        refine pi_ro rfl (fun w hS => ro_loadAggB rfl ag_119 (Blk.of_heap hO hS) (rfl) (hx3)) ?_
        refine pi_ro rfl (fun w hS => ro_loadAggB rfl ag_119 (Blk.of_heap h6 hS) (rfl) (rfl)) ?_
        refine pi_ro rfl (fun w hS => ro_eqPV (a := k) (b := k) (r := true) rfl rfl (congrArg some (eqV_iff.2 rfl))) ?_
        refine pi_ro rfl (fun w hS => ro_assign rfl) ?_
        refine pi_nil (x_then (hK5 _ _ ?_))
        clear hK5 K5
        refine c_ret ?_
        refine bp_ret Tryz.results276 rfl ?_
        exact ⟨rfl, hSn, hF.thenDrew⟩
end Go.Proofs.Qxb6500568aGreatDoor
