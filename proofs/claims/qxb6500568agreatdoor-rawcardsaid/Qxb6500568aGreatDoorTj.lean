import Derived.Test.Qxb6500568aGreatDoorTi
import Derived.Test.Qxb6500568aGreatDoorTf
/- The check of the compiler. -/
namespace Go.Proofs.Qxb6500568aGreatDoor
open Ieee
set_option linter.unusedVariables false
set_option linter.unusedSimpArgs false
set_option linter.unusedSectionVars false

/-- the size that the check has counted. -/
def szF (F : Fns) (x : Nat) : Nat := 1 + 7 * x + tot (F.take x)
theorem szF_all (F : Fns) : szF F F.length = (img F).length := by
  unfold szF
  rw [List.take_length, img_len]
theorem tot_take {F : Fns} {x : Nat} (h : x < F.length) : tot (F.take (x + 1)) = tot (F.take x) + fb (fsAt F x) := by
  unfold tot
  rw [List.take_add_one, List.getElem?_eq_getElem h, List.map_append, List.sum_append]
  have : fsAt F x = F[x] := by unfold fsAt; rw [List.getD_eq_getElem?_getD, List.getElem?_eq_getElem h]; rfl
  rw [this]
  simp
theorem tot_tk (F : Fns) (x : Nat) : tot (F.take x) ≤ tot F := by
  unfold tot
  conv => rhs; rw [← List.take_append_drop x F]
  rw [List.map_append, List.sum_append]
  omega
theorem kb_le (l : List PV) (i : Nat) : ((l.take i).map kb).sum ≤ (l.map kb).sum := by
  conv => rhs; rw [← List.take_append_drop i l]
  rw [List.map_append, List.sum_append]
  omega
theorem kb_take {l : List PV} {i : Nat} {v : PV} (h : l[i]? = some v) : ((l.take (i + 1)).map kb).sum = ((l.take i).map kb).sum + kb v := by
  rw [List.take_add_one, h, List.map_append, List.sum_append]
  simp
section
variable {w : World} {oc : Nat → Nat} {cb sb db : Nat}
theorem CpR.open {t : Tr} {k gb : Nat} {bv : Value} {R : List ZRow} (hC : Blk w.heap cb [ptr sb, ptr db, .slice none 0 0, .slice (some ⟨gb, 0, none⟩) 13 13, i64c (k + 1), bv] 94) (h13 : R.length = 13) (hB : Blk w.heap gb (rws fnc R) 199) (hT : TrOK t k) (h300 : ndT t ≤ 300) (hall : ∀ j r, R[j]? = some r → ∃ m, FnM (zE cb gb (ptr sb) (ptr db) bv) w oc j r m ∧ m.lps = [] ∧ CkF cb gb w oc (some (t, k)) j r m) : ∀ y, y ≤ k → ∃ r m, FV w oc cb gb (ptr sb) (ptr db) bv t k R y r m := by
  intro y hy
  have h12 := hT.k12
  obtain ⟨r, hr⟩ : ∃ r, R[y]? = some r := ⟨_, List.getElem?_eq_getElem (by omega)⟩
  obtain ⟨m, k1, k2, k3⟩ := hall y r hr
  obtain ⟨q1, q2, q3⟩ := k3 t k rfl hy
  exact ⟨r, m, hC, h13, hB, hr, hy, h12, k1, k2, q1, q2, q3, prog_ck hT h300 y hy⟩
set_option maxHeartbeats 32000000 in
theorem compCheck47 (hP : CpR w oc cb (ptr sb) (ptr db)) (hS : SyV w oc sb) (hco : ∀ u, Fram none' w u → Ret Tryz.prog 95 [ptr db] u (fun r w' => r = .bool true ∧ Fram none' u w')) :
    Ret Tryz.prog 47 [ptr cb] w (fun r w' => r = .bool true ∧ Fram none' w w') := by
  have hF : Fram none' w w := Fram.refl _ _
  obtain ⟨gb, bv, npv, n0, xs0, R, o, hC, hta, hbv, h13, hB, hck, hall⟩ := hP.ex
  obtain ⟨ba, bc, rfl⟩ := hbv.form
  have hC0 := hC
  rcases o with _ | ⟨t, k⟩
  · obtain ⟨rfl, rfl⟩ := hck
    refine ret_of Tryz.func47 rfl Tryz.ntmps47 rfl ?_
    refine c_seq (fun K1 hK1 => ?_)
    refine c_reg ?_ -- region 0 check.go:27
    refine wl (ro_assign rfl) ?_
    refine wl_nil (x_then (hK1 _ _ ?_))
    clear hK1 K1
    refine c_seq (fun K2 hK2 => ?_)
    refine c_seq (fun K3 hK3 => ?_)
    refine c_reg ?_ -- region 1 check.go:28
    refine wl (ro_move rfl) ?_
    refine wl (ro_nilCheck rfl) ?_
    refine wl (ro_fieldAddr (k := 0) rfl fo_94_0) ?_
    refine wl (ro_loadB rfl sc_40 (hC) rfl) ?_
    refine wl_call rfl en_94 (synCheck94 (hS.far hF (fun _ _ _ q ↦ q) (Xt.refl _ _))) ?_
    rintro _ w1 ⟨rfl, F1⟩
    replace hF := hF.thenDrew.thenN F1
    replace hC := F1.blkN hC
    refine wl (ro_not rfl) ?_
    refine wl_nil (x_then (hK3 _ _ ?_))
    clear hK3 K3
    refine wc_condF rfl ?_
    refine c_skip (x_then (hK2 _ _ ?_))
    clear hK2 K2
    refine c_seq (fun K4 hK4 => ?_)
    refine c_seq (fun K5 hK5 => ?_)
    refine c_reg ?_ -- region 3 check.go:31
    refine wl (ro_move rfl) ?_
    refine wl (ro_nilCheck rfl) ?_
    refine wl (ro_fieldAddr (k := 1) rfl fo_94_1) ?_
    refine wl (ro_loadB rfl sc_29 (hC) rfl) ?_
    refine wl_call rfl en_95 (hco _ hF) ?_
    rintro _ w2 ⟨rfl, F2⟩
    replace hF := hF.thenDrew.thenN F2
    replace hC := F2.blkN hC
    refine wl (ro_not rfl) ?_
    refine wl_nil (x_then (hK5 _ _ ?_))
    clear hK5 K5
    refine wc_condF rfl ?_
    refine c_skip (x_then (hK4 _ _ ?_))
    clear hK4 K4
    refine c_seq (fun K6 hK6 => ?_)
    refine c_seq (fun K7 hK7 => ?_)
    refine c_pi [(0, false), (1, false), (2, false), (3, false), (4, false), (5, false), (6, false), (7, false), (8, false), (9, false), (10, false), (11, false), (12, false), (13, false), (14, false), (15, false), (16, false), (17, false), (18, false), (19, false), (20, false), (21, false), (22, false), (23, false), (24, false), (25, false), (26, false), (27, false), (28, false), (29, false), (30, false), (31, false), (32, false), (33, false), (34, false), (35, false), (36, false), (37, false), (38, false), (39, false)] (SameH _) mixed (by kernel_rfl) rfl (by kernel_rfl) (po_then (po_then (po_bp))) (sameH_now _ _) ?_ -- region 5 check.go:34
    refine pi_ro rfl (fun w hS => ro_move rfl) ?_
    refine pi_ro rfl (fun w hS => ro_nilCheck rfl) ?_
    refine pi_ro rfl (fun w hS => ro_fieldAddr (k := 2) rfl fo_94_2) ?_
    refine pi_ro rfl (fun w hS => ro_loadB rfl sc_77 (Blk.of_heap hC hS) rfl) ?_
    refine pi_ro rfl (fun w hS => ro_sliceNil (r := false) rfl rfl se_77 rfl) ?_
    refine pi_ro rfl (fun w hS => ro_move rfl) ?_
    refine pi_gyes rfl rfl (fun w hS => ro_move rfl) ?_
    refine pi_gyes rfl rfl (fun w hS => ro_nilCheck rfl) ?_
    refine pi_gyes rfl rfl (fun w hS => ro_fieldAddr (k := 3) rfl fo_94_3) ?_
    refine pi_gyes rfl rfl (fun w hS => ro_loadB rfl sc_92 (Blk.of_heap hC hS) rfl) ?_
    refine pi_gyes rfl rfl (fun w hS => ro_lenL rfl se_92) ?_
    refine pi_gyes rfl rfl (fun w hS => ro_cmp (r := false) rfl rfl rfl) ?_
    refine pi_ro rfl (fun w hS => ro_pick rfl rfl rfl) ?_
    refine pi_ro rfl (fun w hS => ro_move rfl) ?_
    refine pi_gyes rfl rfl (fun w hS => ro_move rfl) ?_
    refine pi_gyes rfl rfl (fun w hS => ro_nilCheck rfl) ?_
    refine pi_gyes rfl rfl (fun w hS => ro_fieldAddr (k := 4) rfl fo_94_4) ?_
    refine pi_gyes rfl rfl (fun w hS => ro_loadB rfl sc_3 (Blk.of_heap hC hS) rfl) ?_
    refine pi_gyes rfl rfl (fun w hS => ro_cmp (r := false) rfl rfl rfl) ?_
    refine pi_ro rfl (fun w hS => ro_pick rfl rfl rfl) ?_
    refine pi_ro rfl (fun w hS => ro_move rfl) ?_
    refine pi_gyes rfl rfl (fun w hS => ro_move rfl) ?_
    refine pi_gyes rfl rfl (fun w hS => ro_nilCheck rfl) ?_
    refine pi_gyes rfl rfl (fun w hS => ro_fieldAddr (k := 4) rfl fo_94_4) ?_
    refine pi_gyes rfl rfl (fun w hS => ro_loadB rfl sc_3 (Blk.of_heap hC hS) rfl) ?_
    refine pi_gyes rfl rfl (fun w hS => ro_move rfl) ?_
    refine pi_gyes rfl rfl (fun w hS => ro_nilCheck rfl) ?_
    refine pi_gyes rfl rfl (fun w hS => ro_fieldAddr (k := 3) rfl fo_94_3) ?_
    refine pi_gyes rfl rfl (fun w hS => ro_loadB rfl sc_92 (Blk.of_heap hC hS) rfl) ?_
    refine pi_gyes rfl rfl (fun w hS => ro_lenL rfl se_92) ?_
    refine pi_gyes rfl rfl (fun w hS => ro_cmp (r := false) rfl rfl rfl) ?_
    refine pi_ro rfl (fun w hS => ro_pick rfl rfl rfl) ?_
    refine pi_ro rfl (fun w hS => ro_move rfl) ?_
    refine pi_gyes rfl rfl (fun w hS => ro_move rfl) ?_
    refine pi_gyes rfl rfl (fun w hS => ro_nilCheck rfl) ?_
    refine pi_gyes rfl rfl (fun w hS => ro_fieldAddr (k := 5) rfl fo_94_5) ?_
    refine pi_gyes rfl rfl (fun w hS => ro_loadB rfl sc_70 (Blk.of_heap hC hS) rfl) ?_
    refine pi_gyes rfl rfl (fun w hS => ro_lenL rfl se_70) ?_
    refine pi_gyes rfl rfl (fun w hS => ro_cmp (r := false) rfl rfl rfl) ?_
    refine pi_ro rfl (fun w hS => ro_pick rfl rfl rfl) ?_
    refine pi_nil (x_then (hK7 _ _ ?_))
    clear hK7 K7
    refine wc_condF rfl ?_
    refine c_skip (x_then (hK6 _ _ ?_))
    clear hK6 K6
    refine forget [(0, _)] ⟨rfl, trivial⟩ (fun e => ?_)
    refine c_seq (fun K8 hK8 => ?_)
    refine c_reg ?_ -- region 7 check.go:37
    refine wl (ro_move rfl) ?_
    refine wl (ro_nilCheck rfl) ?_
    refine wl (ro_fieldAddr (k := 4) rfl fo_94_4) ?_
    refine wl (ro_loadB rfl sc_3 (hC) rfl) ?_
    refine wl (ro_min rfl rfl) ?_
    refine wl (ro_assign rfl) ?_
    refine wl_nil (x_then (hK8 _ _ ?_))
    clear hK8 K8
    refine c_seq (fun K9 hK9 => ?_)
    refine c_seq (fun K10 hK10 => ?_)
    refine c_reg ?_ -- region 8 check.go:38
    refine wl (ro_move rfl) ?_
    refine wl (ro_nilCheck rfl) ?_
    refine wl (ro_fieldAddr (k := 4) rfl fo_94_4) ?_
    refine wl (ro_loadB rfl sc_3 (hC) rfl) ?_
    refine wl (ro_move rfl) ?_
    refine wl_nil (x_then (hK10 _ _ ?_))
    clear hK10 K10
    refine c_block ?_
    -- loop@r9: live slots [0, 3, 71, 72]
    refine c_loopG (fun n a' w' => n = 0 ∧ Fram none' w w' ∧ ∃ e, a' = Fr 211 (upds e [(0, ptr cb), (3, i64c 0), (71, i64c 0), (72, i64c 0)]) []) 0 ⟨rfl, hF.thenDrew, kp _ ⟨rfl, rfl, rfl, rfl, trivial⟩⟩ ?_
    clear hF hC
    rintro n a' u1 ⟨rfl, hF, e, rfl⟩
    have hC := hF.blkN hC0
    refine c_seq (fun K11 hK11 => ?_)
    refine c_reg ?_ -- region 9 check.go:38
    refine wl (ro_cmp (r := false) rfl rfl rfl) ?_
    refine wl_nil (x_then (hK11 _ _ ?_))
    clear hK11 K11
    refine forget [(0, _), (3, _), (71, _), (72, _), (73, _)] ⟨rfl, rfl, rfl, rfl, rfl, trivial⟩ (fun e => ?_)
    refine c_seq (fun K12 hK12 => ?_)
    refine wc_condF rfl ?_
    refine c_exit (x_thenX (x_thenX (x_blkX (x_then (hK9 _ _ ?_)))))
    clear hK12 K12 hK9 K9
    refine forget [(0, _), (3, _)] ⟨rfl, rfl, trivial⟩ (fun e => ?_)
    refine c_seq (fun K13 hK13 => ?_)
    refine c_reg ?_ -- region 34 check.go:63
    refine wl (ro_move rfl) ?_
    refine wl (ro_move rfl) ?_
    refine wl (ro_nilCheck rfl) ?_
    refine wl (ro_fieldAddr (k := 5) rfl fo_94_5) ?_
    refine wl (ro_loadB rfl sc_70 (hC) rfl) ?_
    refine wl (ro_lenL rfl se_70) ?_
    refine wl (ro_cmp (r := true) rfl rfl rfl) ?_
    refine wl (ro_assign rfl) ?_
    refine wl_nil (x_then (hK13 _ _ ?_))
    clear hK13 K13
    refine c_ret ?_
    refine bp_ret Tryz.results47 rfl ?_
    exact ⟨rfl, hF⟩
  · obtain ⟨hT, h300, rfl, rfl⟩ := hck
    have hfv := CpR.open hC h13 hB hT h300 hall
    have h12 := hT.k12
    obtain ⟨-, -, hln, -⟩ := prog_bd (arena_is hT) hT.w (by rw [nums0 hT]; exact List.nodup_range') (n := k + 1) (fun j hj ↦ by rw [nums0 hT, List.mem_range'_1] at hj; omega) (by omega) h300
    have himg := prog_img (arena_is hT) hT.w (by rw [nums0 hT]; exact List.nodup_range') (n := k + 1) (fun j hj ↦ by rw [nums0 hT, List.mem_range'_1] at hj; omega) (by omega) h300
    have hsz := szF_all (progF t (k + 1))
    rw [hln] at hsz
    clear hall hta h13 hB
    refine ret_of Tryz.func47 rfl Tryz.ntmps47 rfl ?_
    refine c_seq (fun K1 hK1 => ?_)
    refine c_reg ?_ -- region 0 check.go:27
    refine wl (ro_assign rfl) ?_
    refine wl_nil (x_then (hK1 _ _ ?_))
    clear hK1 K1
    refine c_seq (fun K2 hK2 => ?_)
    refine c_seq (fun K3 hK3 => ?_)
    refine c_reg ?_ -- region 1 check.go:28
    refine wl (ro_move rfl) ?_
    refine wl (ro_nilCheck rfl) ?_
    refine wl (ro_fieldAddr (k := 0) rfl fo_94_0) ?_
    refine wl (ro_loadB rfl sc_40 (hC) rfl) ?_
    refine wl_call rfl en_94 (synCheck94 (hS.far hF (fun _ _ _ q ↦ q) (Xt.refl _ _))) ?_
    rintro _ w1 ⟨rfl, F1⟩
    replace hF := hF.thenDrew.thenN F1
    replace hC := F1.blkN hC
    refine wl (ro_not rfl) ?_
    refine wl_nil (x_then (hK3 _ _ ?_))
    clear hK3 K3
    refine wc_condF rfl ?_
    refine c_skip (x_then (hK2 _ _ ?_))
    clear hK2 K2
    refine c_seq (fun K4 hK4 => ?_)
    refine c_seq (fun K5 hK5 => ?_)
    refine c_reg ?_ -- region 3 check.go:31
    refine wl (ro_move rfl) ?_
    refine wl (ro_nilCheck rfl) ?_
    refine wl (ro_fieldAddr (k := 1) rfl fo_94_1) ?_
    refine wl (ro_loadB rfl sc_29 (hC) rfl) ?_
    refine wl_call rfl en_95 (hco _ hF) ?_
    rintro _ w2 ⟨rfl, F2⟩
    replace hF := hF.thenDrew.thenN F2
    replace hC := F2.blkN hC
    refine wl (ro_not rfl) ?_
    refine wl_nil (x_then (hK5 _ _ ?_))
    clear hK5 K5
    refine wc_condF rfl ?_
    refine c_skip (x_then (hK4 _ _ ?_))
    clear hK4 K4
    refine c_seq (fun K6 hK6 => ?_)
    refine c_seq (fun K7 hK7 => ?_)
    refine c_pi [(0, false), (1, false), (2, false), (3, false), (4, false), (5, false), (6, false), (7, false), (8, false), (9, false), (10, false), (11, false), (12, false), (13, false), (14, false), (15, false), (16, false), (17, false), (18, false), (19, false), (20, false), (21, false), (22, false), (23, false), (24, false), (25, false), (26, false), (27, false), (28, false), (29, false), (30, false), (31, false), (32, false), (33, false), (34, false), (35, false), (36, false), (37, false), (38, false), (39, false)] (SameH _) mixed (by kernel_rfl) rfl (by kernel_rfl) (po_then (po_then (po_bp))) (sameH_now _ _) ?_ -- region 5 check.go:34
    refine pi_ro rfl (fun w hS => ro_move rfl) ?_
    refine pi_ro rfl (fun w hS => ro_nilCheck rfl) ?_
    refine pi_ro rfl (fun w hS => ro_fieldAddr (k := 2) rfl fo_94_2) ?_
    refine pi_ro rfl (fun w hS => ro_loadB rfl sc_77 (Blk.of_heap hC hS) rfl) ?_
    refine pi_ro rfl (fun w hS => ro_sliceNil (r := false) rfl rfl se_77 rfl) ?_
    refine pi_ro rfl (fun w hS => ro_move rfl) ?_
    refine pi_gyes rfl rfl (fun w hS => ro_move rfl) ?_
    refine pi_gyes rfl rfl (fun w hS => ro_nilCheck rfl) ?_
    refine pi_gyes rfl rfl (fun w hS => ro_fieldAddr (k := 3) rfl fo_94_3) ?_
    refine pi_gyes rfl rfl (fun w hS => ro_loadB rfl sc_92 (Blk.of_heap hC hS) rfl) ?_
    refine pi_gyes rfl rfl (fun w hS => ro_lenL rfl se_92) ?_
    refine pi_gyes rfl rfl (fun w hS => ro_cmp (r := false) rfl rfl rfl) ?_
    refine pi_ro rfl (fun w hS => ro_pick rfl rfl rfl) ?_
    refine pi_ro rfl (fun w hS => ro_move rfl) ?_
    refine pi_gyes rfl rfl (fun w hS => ro_move rfl) ?_
    refine pi_gyes rfl rfl (fun w hS => ro_nilCheck rfl) ?_
    refine pi_gyes rfl rfl (fun w hS => ro_fieldAddr (k := 4) rfl fo_94_4) ?_
    refine pi_gyes rfl rfl (fun w hS => ro_loadB rfl sc_3 (Blk.of_heap hC hS) rfl) ?_
    refine pi_gyes rfl rfl (fun w hS => ro_cmp (r := false) rfl rfl (congrArg some (decide_eq_false (by omega)))) ?_
    refine pi_ro rfl (fun w hS => ro_pick rfl rfl rfl) ?_
    refine pi_ro rfl (fun w hS => ro_move rfl) ?_
    refine pi_gyes rfl rfl (fun w hS => ro_move rfl) ?_
    refine pi_gyes rfl rfl (fun w hS => ro_nilCheck rfl) ?_
    refine pi_gyes rfl rfl (fun w hS => ro_fieldAddr (k := 4) rfl fo_94_4) ?_
    refine pi_gyes rfl rfl (fun w hS => ro_loadB rfl sc_3 (Blk.of_heap hC hS) rfl) ?_
    refine pi_gyes rfl rfl (fun w hS => ro_move rfl) ?_
    refine pi_gyes rfl rfl (fun w hS => ro_nilCheck rfl) ?_
    refine pi_gyes rfl rfl (fun w hS => ro_fieldAddr (k := 3) rfl fo_94_3) ?_
    refine pi_gyes rfl rfl (fun w hS => ro_loadB rfl sc_92 (Blk.of_heap hC hS) rfl) ?_
    refine pi_gyes rfl rfl (fun w hS => ro_lenL rfl se_92) ?_
    refine pi_gyes rfl rfl (fun w hS => ro_cmp (r := false) rfl rfl (congrArg some (decide_eq_false (by omega)))) ?_
    refine pi_ro rfl (fun w hS => ro_pick rfl rfl rfl) ?_
    refine pi_ro rfl (fun w hS => ro_move rfl) ?_
    refine pi_gyes rfl rfl (fun w hS => ro_move rfl) ?_
    refine pi_gyes rfl rfl (fun w hS => ro_nilCheck rfl) ?_
    refine pi_gyes rfl rfl (fun w hS => ro_fieldAddr (k := 5) rfl fo_94_5) ?_
    refine pi_gyes rfl rfl (fun w hS => ro_loadB rfl sc_70 (Blk.of_heap hC hS) rfl) ?_
    refine pi_gyes rfl rfl (fun w hS => ro_lenL rfl se_70) ?_
    refine pi_gyes rfl rfl (fun w hS => ro_cmp (r := false) rfl rfl (congrArg some (decide_eq_false (by omega)))) ?_
    refine pi_ro rfl (fun w hS => ro_pick rfl rfl rfl) ?_
    refine pi_nil (x_then (hK7 _ _ ?_))
    clear hK7 K7
    refine wc_condF rfl ?_
    refine c_skip (x_then (hK6 _ _ ?_))
    clear hK6 K6
    refine forget [(0, _)] ⟨rfl, trivial⟩ (fun e => ?_)
    refine c_seq (fun K8 hK8 => ?_)
    refine c_reg ?_ -- region 7 check.go:37
    refine wl (ro_move rfl) ?_
    refine wl (ro_nilCheck rfl) ?_
    refine wl (ro_fieldAddr (k := 4) rfl fo_94_4) ?_
    refine wl (ro_loadB rfl sc_3 (hC) rfl) ?_
    refine wl (ro_min rfl rfl) ?_
    refine wl (ro_assign rfl) ?_
    refine wl_nil (x_then (hK8 _ _ ?_))
    clear hK8 K8
    refine c_seq (fun K9 hK9 => ?_)
    refine c_seq (fun K10 hK10 => ?_)
    refine c_reg ?_ -- region 8 check.go:38
    refine wl (ro_move rfl) ?_
    refine wl (ro_nilCheck rfl) ?_
    refine wl (ro_fieldAddr (k := 4) rfl fo_94_4) ?_
    refine wl (ro_loadB rfl sc_3 (hC) rfl) ?_
    refine wl (ro_move rfl) ?_
    refine wl_nil (x_then (hK10 _ _ ?_))
    clear hK10 K10
    refine c_block ?_
    -- loop@r9: live slots [0, 3, 71, 72]
    refine c_loopG (fun n a' w' => ∃ x, n = k + 1 - x ∧ x ≤ k + 1 ∧ Fram none' w w' ∧ ∃ e, a' = Fr 211 (upds e [(0, ptr cb), (3, i64c (szF (progF t (k + 1)) x)), (71, i64c (k + 1)), (72, i64c x)]) []) (k + 1) ⟨0, rfl, Nat.zero_le _, hF.thenDrew, kp _ ⟨rfl, congrArg (fun z : Int => some (Value.int .i64 z)) (by show (if (1 : Int) < ((k + 1 : Nat) : Int) then (1 : Int) else ((k + 1 : Nat) : Int)) = ((1 : Nat) : Int); split <;> omega), rfl, rfl, trivial⟩⟩ ?_
    clear hF hC
    rintro n a' u1 ⟨x, rfl, hx, hF, e, rfl⟩
    have hC := hF.blkN hC0
    refine c_seq (fun K11 hK11 => ?_)
    refine c_reg ?_ -- region 9 check.go:38
    refine wl (ro_cmp rfl rfl rfl) ?_
    refine wl_nil (x_then (hK11 _ _ ?_))
    clear hK11 K11
    refine forget [(0, _), (3, _), (71, _), (72, _), (73, _)] ⟨rfl, rfl, rfl, rfl, rfl, trivial⟩ (fun e => ?_)
    refine c_seq (fun K12 hK12 => ?_)
    refine wc_cond rfl (fun hc73 => ?_) (fun hc73 => ?_)
    · try simp only [decide_eq_true_eq, decide_eq_false_iff_not, Bool.not_eq_true', Bool.not_eq_false', Bool.not_eq_eq_eq_not, Bool.not_true, Bool.not_false, beq_iff_eq, bne_iff_ne, ne_eq, beq_eq_false_iff_ne, bne_eq_false_iff_eq, gt_iff_lt, ge_iff_le, Int.not_lt, Int.not_le] at hc73
      have hxk : x ≤ k := by omega
      obtain ⟨r, m, h⟩ := hfv x hxk
      have hG0 := h.hG
      have hG := hF.blkN hG0
      have c1 := h.c1
      have c2 := h.c2
      obtain ⟨la, lc, c3⟩ := h.c3
      obtain ⟨ua, uc, c5, oU⟩ := h.c5
      obtain ⟨ka, kc, c6, oK⟩ := h.c6
      obtain ⟨ca, cc, c9, oC⟩ := h.c9
      obtain ⟨pa, pc, c10⟩ := h.c10
      obtain ⟨⟨f1, f2, f3, f4, f5, f6⟩, fk, fnd, fu0, fup, ⟨z, hz, hz5, hins, z0, z1, z2⟩⟩ := h.ck
      have hul : (fsAt (progF t (k + 1)) x).ups.length ≤ 144 := by
        obtain ⟨d, hd, hu⟩ := f6
        have := hu.len
        omega
      have htk := tot_take (F := progF t (k + 1)) (x := x) (by omega)
      have htl : tot ((progF t (k + 1)).take x) + 7 * x + 1 + (7 + fb (fsAt (progF t (k + 1)) x)) ≤ 32768 := by
        have h1 := tot_tk (progF t (k + 1)) (x + 1)
        rw [img_len] at himg
        omega
      unfold fb at htl
      have hszx : szF (progF t (k + 1)) x = 1 + 7 * x + tot ((progF t (k + 1)).take x) := rfl
      generalize hfs : fsAt (progF t (k + 1)) x = f at *
      refine c_skip (x_then (hK12 _ _ ?_))
      clear hK12 K12
      refine forget [(0, _), (3, _), (71, _), (72, _)] ⟨rfl, rfl, rfl, rfl, trivial⟩ (fun e => ?_)
      refine c_seq (fun K13 hK13 => ?_)
      refine c_block ?_
      refine c_seq (fun K14 hK14 => ?_)
      refine c_reg ?_ -- region 10 check.go:38
      refine wl (ro_move rfl) ?_
      refine wl (ro_assign rfl) ?_
      refine wl_nil (x_then (hK14 _ _ ?_))
      clear hK14 K14
      refine forget [(0, _), (3, _), (4, _), (71, _), (72, _)] ⟨rfl, rfl, rfl, rfl, rfl, trivial⟩ (fun e => ?_)
      refine c_seq (fun K15 hK15 => ?_)
      refine c_reg ?_ -- region 11 check.go:39
      refine wl (ro_move rfl) ?_
      refine wl (ro_nilCheck rfl) ?_
      refine wl (ro_fieldAddr (k := 3) rfl fo_94_3) ?_
      refine wl (ro_loadB rfl sc_92 (hC) rfl) ?_
      refine wl (ro_move rfl) ?_
      refine wl (ro_indexAddr (et := 199) (k := 11) rfl rfl se_92 (rfl) ((by omega))) ?_
      refine wl (ro_assign rfl) ?_
      refine wl_nil (x_then (hK15 _ _ ?_))
      clear hK15 K15
      refine c_seq (fun K16 hK16 => ?_)
      refine c_seq (fun K17 hK17 => ?_)
      rw [show 0 + x * 11 = x * 11 from Nat.zero_add _]
      refine c_reg ?_ -- region 12 check.go:40
      refine wl (ro_move rfl) ?_
      refine wl_call rfl en_96 (compMid96 (h.farN hF) (fun y hy ↦ by obtain ⟨r, m, q⟩ := hfv y hy; exact ⟨r, m, q.farN hF⟩) hln) ?_
      rintro _ w3 ⟨rfl, F3⟩
      replace hF := hF.thenDrew.thenN F3
      replace hC := F3.blkN hC
      replace hG := F3.blkN hG
      refine wl (ro_not rfl) ?_
      refine wl_nil (x_then (hK17 _ _ ?_))
      clear hK17 K17
      refine wc_condF rfl ?_
      refine c_skip (x_then (hK16 _ _ ?_))
      clear hK16 K16
      refine forget [(0, _), (3, _), (4, _), (5, _), (71, _), (72, _)] ⟨rfl, rfl, rfl, rfl, rfl, rfl, trivial⟩ (fun e => ?_)
      refine c_seq (fun K18 hK18 => ?_)
      refine c_reg ?_ -- region 14 check.go:43
      refine wl (ro_move rfl) ?_
      refine wl (ro_nilCheck rfl) ?_
      refine wl (ro_fieldAddr (k := 9) rfl fo_199_9) ?_
      refine wl (ro_loadB rfl sc_196 (hG) (c9)) ?_
      refine wl (ro_lenL rfl se_196) ?_
      refine wl (ro_assign rfl) ?_
      refine wl_nil (x_then (hK18 _ _ ?_))
      clear hK18 K18
      refine c_seq (fun K19 hK19 => ?_)
      refine c_seq (fun K20 hK20 => ?_)
      by_cases hx0 : x = 0
      · skip
        rw [if_pos hx0] at c1
        refine c_pi [(0, false), (1, false), (2, false), (3, false), (4, false), (5, false), (6, false), (7, false), (8, false), (9, false), (10, false), (11, false), (12, false), (13, false), (14, false), (15, false), (16, false), (17, false), (18, false), (19, false), (20, false), (21, false), (22, false), (23, false), (24, false), (25, false), (26, false), (27, false), (28, false), (29, false), (30, false), (31, false)] (SameH _) mixed (by kernel_rfl) rfl (by kernel_rfl) (po_then (po_then (po_blk (po_then (po_then (po_blk (po_then (po_bp)))))))) (sameH_now _ _) ?_ -- region 15 check.go:44
        refine pi_ro rfl (fun w hS => ro_move rfl) ?_
        refine pi_ro rfl (fun w hS => ro_nilCheck rfl) ?_
        refine pi_ro rfl (fun w hS => ro_fieldAddr (k := 3) rfl fo_199_3) ?_
        refine pi_ro rfl (fun w hS => ro_loadB rfl sc_192 (Blk.of_heap hG hS) (c3)) ?_
        refine pi_ro rfl (fun w hS => ro_lenL rfl se_192) ?_
        refine pi_ro rfl (fun w hS => ro_move rfl) ?_
        refine pi_ro rfl (fun w hS => ro_nilCheck rfl) ?_
        refine pi_ro rfl (fun w hS => ro_fieldAddr (k := 2) rfl fo_199_2) ?_
        refine pi_ro rfl (fun w hS => ro_loadB rfl sc_3 (Blk.of_heap hG hS) (c2)) ?_
        refine pi_ro rfl (fun w hS => ro_cmp (r := false) rfl rfl (congrArg some (by simp))) ?_
        refine pi_ro rfl (fun w hS => ro_move rfl) ?_
        refine pi_gyes rfl rfl (fun w hS => ro_move rfl) ?_
        refine pi_gyes rfl rfl (fun w hS => ro_nilCheck rfl) ?_
        refine pi_gyes rfl rfl (fun w hS => ro_fieldAddr (k := 10) rfl fo_199_10) ?_
        refine pi_gyes rfl rfl (fun w hS => ro_loadB rfl sc_197 (Blk.of_heap hG hS) (c10)) ?_
        refine pi_gyes rfl rfl (fun w hS => ro_lenL rfl se_197) ?_
        refine pi_gyes rfl rfl (fun w hS => ro_cmp (r := false) rfl rfl rfl) ?_
        refine pi_ro rfl (fun w hS => ro_pick rfl rfl rfl) ?_
        refine pi_ro rfl (fun w hS => ro_move rfl) ?_
        refine pi_gyes rfl rfl (fun w hS => ro_move rfl) ?_
        refine pi_gyes rfl rfl (fun w hS => ro_cmp (r := false) rfl rfl (congrArg some (decide_eq_false (by omega)))) ?_
        refine pi_ro rfl (fun w hS => ro_pick rfl rfl rfl) ?_
        refine pi_ro rfl (fun w hS => ro_move rfl) ?_
        refine pi_gyes rfl rfl (fun w hS => ro_move rfl) ?_
        refine pi_gyes rfl rfl (fun w hS => ro_cmp (r := true) rfl rfl (congrArg some (decide_eq_true (by omega)))) ?_
        refine pi_gyes rfl rfl (fun w hS => ro_move rfl) ?_
        refine pi_gyes rfl rfl (fun w hS => ro_nilCheck rfl) ?_
        refine pi_gyes rfl rfl (fun w hS => ro_fieldAddr (k := 1) rfl fo_199_1) ?_
        refine pi_gyes rfl rfl (fun w hS => ro_loadB rfl sc_128 (Blk.of_heap hG hS) (c1)) ?_
        refine pi_gyes rfl rfl (fun w hS => ro_eqPtrNil (r := true) rfl pt_128 rfl) ?_
        refine pi_gyes rfl rfl (fun w hS => ro_eqBool (r := false) rfl rfl Tryz.underlying4 rfl) ?_
        refine pi_ro rfl (fun w hS => ro_pick rfl rfl rfl) ?_
        refine pi_nil (x_then (hK20 _ _ ?_))
        clear hK20 K20
        refine wc_condF rfl ?_
        refine c_skip (x_then (hK19 _ _ ?_))
        clear hK19 K19
        refine c_seq (fun K21 hK21 => ?_)
        refine c_seq (fun K22 hK22 => ?_)
        obtain ⟨cg, ccap, cl, ev, hCb, k1, k2, k3, k4, k5⟩ := OwT.at inc_len oC z0
        have hcg0 := hCb
        cases ev
        replace hCb := hF.blkN hCb
        refine c_reg ?_ -- region 17 check.go:47
        refine wl (ro_move rfl) ?_
        refine wl (ro_nilCheck rfl) ?_
        refine wl (ro_fieldAddr (k := 9) rfl fo_199_9) ?_
        refine wl (ro_loadB rfl sc_196 (hG) (c9)) ?_
        refine wl (ro_move rfl) ?_
        refine wl (ro_arith (r := ((z : Nat) : Int)) rfl rfl (congrArg some (by omega)) (Go.IntWalk.i64_in _ (by omega))) ?_
        refine wl (ro_indexAddr (et := 203) (k := 2) rfl rfl se_196 (rfl) ((by omega))) ?_
        refine wl (ro_fieldAddr (k := 0) rfl fo_203_0) ?_
        refine wl (ro_loadB rfl sc_5 (hCb) ((row_cell3 (j := 0) (k5 z _ z0) rfl))) ?_
        refine wl (ro_cmp (r := false) rfl rfl rfl) ?_
        refine wl (ro_move rfl) ?_
        refine wlg_yes rfl (ro_move rfl) ?_
        refine wlg_yes rfl (ro_nilCheck rfl) ?_
        refine wlg_yes rfl (ro_fieldAddr (k := 9) rfl fo_199_9) ?_
        refine wlg_yes rfl (ro_loadB rfl sc_196 (hG) (c9)) ?_
        refine wlg_yes rfl (ro_move rfl) ?_
        refine wlg_yes rfl (ro_arith (r := ((z + 1 : Nat) : Int)) rfl rfl (congrArg some (by omega)) (Go.IntWalk.i64_in _ (by omega))) ?_
        refine wlg_yes rfl (ro_indexAddr (et := 203) (k := 2) rfl rfl se_196 (rfl) ((by omega))) ?_
        refine wlg_yes rfl (ro_fieldAddr (k := 0) rfl fo_203_0) ?_
        refine wlg_yes rfl (ro_loadB rfl sc_5 (hCb) ((row_cell3 (j := 0) (k5 (z + 1) _ z1) rfl))) ?_
        refine wlg_yes rfl (ro_cmp (r := false) rfl rfl rfl) ?_
        refine wl (ro_pick rfl rfl rfl) ?_
        refine wl (ro_move rfl) ?_
        refine wlg_yes rfl (ro_move rfl) ?_
        refine wlg_yes rfl (ro_nilCheck rfl) ?_
        refine wlg_yes rfl (ro_fieldAddr (k := 9) rfl fo_199_9) ?_
        refine wlg_yes rfl (ro_loadB rfl sc_196 (hG) (c9)) ?_
        refine wlg_yes rfl (ro_move rfl) ?_
        refine wlg_yes rfl (ro_arith (r := ((z + 2 : Nat) : Int)) rfl rfl (congrArg some (by omega)) (Go.IntWalk.i64_in _ (by omega))) ?_
        refine wlg_yes rfl (ro_indexAddr (et := 203) (k := 2) rfl rfl se_196 (rfl) ((by omega))) ?_
        refine wlg_yes rfl (ro_fieldAddr (k := 0) rfl fo_203_0) ?_
        refine wlg_yes rfl (ro_loadB rfl sc_5 (hCb) ((row_cell3 (j := 0) (k5 (z + 2) _ z2) rfl))) ?_
        refine wlg_yes rfl (ro_cmp (r := false) rfl rfl rfl) ?_
        refine wl (ro_pick rfl rfl rfl) ?_
        refine wl_nil (x_then (hK22 _ _ ?_))
        clear hK22 K22
        refine wc_condF rfl ?_
        refine c_skip (x_then (hK21 _ _ ?_))
        clear hK21 K21
        refine c_seq (fun K23 hK23 => ?_)
        refine c_seq (fun K24 hK24 => ?_)
        refine c_reg ?_ -- region 19 check.go:50
        refine wl (ro_move rfl) ?_
        refine wl (ro_nilCheck rfl) ?_
        refine wl (ro_fieldAddr (k := 9) rfl fo_199_9) ?_
        refine wl (ro_loadB rfl sc_196 (hG) (c9)) ?_
        refine wl (ro_lenL rfl se_196) ?_
        refine wl (ro_move rfl) ?_
        refine wl_nil (x_then (hK24 _ _ ?_))
        clear hK24 K24
        refine c_block ?_
        -- loop@r20: live slots [0, 3, 4, 5, 6, 71, 72, 100, 101, 102, 103, 104, 105, 108, 109, 112, 113, 114, 115, 116, 117, 118, 119, 132, 133, 134, 135, 136, 137, 138, 139, 140, 141, 144, 145, 146, 147, 148, 149, 150, 151, 152, 153, 158, 159, 160]
        refine c_loopG (fun n a' w' => ∃ i, n = f.code.length - i ∧ i ≤ f.code.length ∧ Fram none' w w' ∧ ∃ e, a' = Fr 211 (upds e [(0, ptr cb), (3, i64c (szF (progF t (k + 1)) x)), (4, i64c x), (5, ptrAt gb (x * 11)), (6, i64c f.code.length), (71, i64c (k + 1)), (72, i64c x), (158, .slice (some ⟨cg, 0, none⟩) f.code.length cc), (159, i64c f.code.length), (160, i64c i)]) []) f.code.length ⟨0, rfl, Nat.zero_le _, hF.thenDrew, kp _ ⟨rfl, rfl, rfl, rfl, rfl, rfl, rfl, rfl, rfl, rfl, trivial⟩⟩ ?_
        clear hF hC hG hCb
        rintro n2 a2 u2 ⟨i, rfl, hi, hF, e2, rfl⟩
        have hC := hF.blkN hC0
        have hG := hF.blkN hG0
        have hCb := hF.blkN hcg0
        refine c_seq (fun K25 hK25 => ?_)
        refine c_reg ?_ -- region 20 check.go:50
        refine wl (ro_cmp rfl rfl rfl) ?_
        refine wl_nil (x_then (hK25 _ _ ?_))
        clear hK25 K25
        refine forget [(0, _), (3, _), (4, _), (5, _), (6, _), (71, _), (72, _), (158, _), (159, _), (160, _), (161, _)] ⟨rfl, rfl, rfl, rfl, rfl, rfl, rfl, rfl, rfl, rfl, rfl, trivial⟩ (fun e => ?_)
        refine c_seq (fun K26 hK26 => ?_)
        refine wc_cond rfl (fun hc161 => ?_) (fun hc161 => ?_)
        · try simp only [decide_eq_true_eq, decide_eq_false_iff_not, Bool.not_eq_true', Bool.not_eq_false', Bool.not_eq_eq_eq_not, Bool.not_true, Bool.not_false, beq_iff_eq, bne_iff_ne, ne_eq, beq_eq_false_iff_ne, bne_eq_false_iff_eq, gt_iff_lt, ge_iff_le, Int.not_lt, Int.not_le] at hc161
          have hlt : i < f.code.length := by omega
          obtain ⟨⟨op, xx⟩, hxx⟩ : ∃ v, f.code[i]? = some v := ⟨_, List.getElem?_eq_getElem hlt⟩
          have hox := f5 (op, xx) (List.mem_of_getElem? hxx)
          refine c_skip (x_then (hK26 _ _ ?_))
          clear hK26 K26
          refine forget [(0, _), (3, _), (4, _), (5, _), (6, _), (71, _), (72, _), (158, _), (159, _), (160, _)] ⟨rfl, rfl, rfl, rfl, rfl, rfl, rfl, rfl, rfl, rfl, trivial⟩ (fun e => ?_)
          refine c_seq (fun K27 hK27 => ?_)
          refine c_block ?_
          refine c_seq (fun K28 hK28 => ?_)
          refine c_reg ?_ -- region 21 check.go:50
          refine wl (ro_indexAddr (et := 203) (k := 2) rfl rfl se_196 (rfl) (hlt)) ?_
          refine wl (ro_loadAggB rfl ag_203 (hCb) ((inc_len _)) ((k5 i _ hxx))) ?_
          refine wl_new (ze_203) (fun b8 w4 hbb8 h8 F4 => ?_)
          have hbsb8 := Nat.le_trans hF.size hbb8
          have hnecbb8 : cb < b8 := Nat.lt_of_lt_of_le hC.lt hbb8
          have hnegbb8 : gb < b8 := Nat.lt_of_lt_of_le hG.lt hbb8
          have hnecgb8 : cg < b8 := Nat.lt_of_lt_of_le hCb.lt hbb8
          replace hF := hF.thenDrew.thenN F4
          replace hC := F4.blkN hC
          replace hG := F4.blkN hG
          replace hCb := F4.blkN hCb
          refine wl_puta rfl rfl ((inc_one (op, xx))) sz_203 (rfl) h8 ((by simp)) (rfl) (fun w5 h8 F5 => ?_)
          replace hF := hF.thenDrew.thenO F5 (by first | exact .inr (by omega) | exact .inl rfl | exact .inl (by assumption) | assumption)
          replace hC := F5.blkO hC (by omega)
          replace hG := F5.blkO hG (by omega)
          replace hCb := F5.blkO hCb (by omega)
          refine wl_nil (x_then (hK28 _ _ ?_))
          clear hK28 K28
          refine forget [(0, _), (3, _), (4, _), (5, _), (6, _), (8, _), (71, _), (72, _), (158, _), (159, _), (160, _)] ⟨rfl, rfl, rfl, rfl, rfl, rfl, rfl, rfl, rfl, rfl, rfl, trivial⟩ (fun e => ?_)
          refine c_seq (fun K29 hK29 => ?_)
          refine c_reg ?_ -- region 22 check.go:51
          refine wl (ro_move rfl) ?_
          refine wl (ro_loadAggB rfl ag_203 (h8) (rfl) (rfl)) ?_
          refine wl (ro_move rfl) ?_
          refine wl_call rfl en_97 (closed97 (h.farN hF) (fun y hy ↦ by obtain ⟨r, m, q⟩ := hfv y hy; exact ⟨r, m, q.farN hF⟩) (z := z) (by rw [hfs]; exact hz) (by rw [hfs]; exact (hins i _ hxx).x) hox.2 hln) ?_
          rintro _ w6 ⟨rfl, F6⟩
          replace hF := hF.thenDrew.thenN F6
          replace hC := F6.blkN hC
          replace hG := F6.blkN hG
          replace hCb := F6.blkN hCb
          replace h8 := F6.blkN h8
          refine wl (ro_not rfl) ?_
          refine wl_nil (x_then (hK29 _ _ ?_))
          clear hK29 K29
          refine wc_condF rfl ?_
          refine c_skip (x_blk (x_then (hK27 _ _ ?_)))
          clear hK27 K27
          refine c_reg ?_ -- region 24 check.go:50
          refine wl (ro_adT (m := i) (k := 1) rfl rfl (by omega)) ?_
          refine wl (ro_move rfl) ?_
          refine wl_nil (x_then ?_)
          exact ⟨f.code.length - (i + 1), by omega, i + 1, rfl, by omega, hF, kp _ ⟨rfl, rfl, rfl, rfl, rfl, rfl, rfl, rfl, rfl, rfl, trivial⟩⟩
        · try simp only [decide_eq_true_eq, decide_eq_false_iff_not, Bool.not_eq_true', Bool.not_eq_false', Bool.not_eq_eq_eq_not, Bool.not_true, Bool.not_false, beq_iff_eq, bne_iff_ne, ne_eq, beq_eq_false_iff_ne, bne_eq_false_iff_eq, gt_iff_lt, ge_iff_le, Int.not_lt, Int.not_le] at hc161
          refine c_exit (x_thenX (x_thenX (x_blkX (x_then (hK23 _ _ ?_)))))
          clear hK26 K26 hK23 K23
          refine forget [(0, _), (3, _), (5, _), (6, _), (71, _), (72, _)] ⟨rfl, rfl, rfl, rfl, rfl, rfl, trivial⟩ (fun e => ?_)
          refine c_seq (fun K30 hK30 => ?_)
          refine c_reg ?_ -- region 25 check.go:55
          refine wl (ro_move rfl) ?_
          refine wl (ro_move rfl) ?_
          refine wl (ro_nilCheck rfl) ?_
          refine wl (ro_fieldAddr (k := 5) rfl fo_199_5) ?_
          refine wl (ro_loadB rfl sc_193 (hG) (c5)) ?_
          refine wl (ro_lenL rfl se_193) ?_
          refine wl (ro_arith (r := ((2 * f.ups.length : Nat) : Int)) rfl rfl (congrArg some (by omega)) (Go.IntWalk.i64_in _ (by omega))) ?_
          refine wl (ro_adT (m := 7) (k := 2 * f.ups.length) rfl rfl (by omega)) ?_
          refine wl (ro_move rfl) ?_
          refine wl (ro_arith (r := ((3 * f.code.length : Nat) : Int)) rfl rfl (congrArg some (by omega)) (Go.IntWalk.i64_in _ (by omega))) ?_
          refine wl (ro_adT (m := 7 + 2 * f.ups.length) (k := 3 * f.code.length) rfl rfl (by omega)) ?_
          refine wl (ro_adT (m := szF (progF t (k + 1)) x) (k := 7 + 2 * f.ups.length + 3 * f.code.length) rfl rfl (by unfold szF; omega)) ?_
          refine wl (ro_assign rfl) ?_
          refine wl_nil (x_then (hK30 _ _ ?_))
          clear hK30 K30
          refine forget [(0, _), (3, _), (5, _), (71, _), (72, _)] ⟨rfl, rfl, rfl, rfl, rfl, trivial⟩ (fun e => ?_)
          refine c_seq (fun K31 hK31 => ?_)
          refine c_reg ?_ -- region 26 check.go:56
          refine wl (ro_move rfl) ?_
          refine wl (ro_nilCheck rfl) ?_
          refine wl (ro_fieldAddr (k := 6) rfl fo_199_6) ?_
          refine wl (ro_loadB rfl sc_83 (hG) (c6)) ?_
          refine wl (ro_lenL rfl se_83) ?_
          refine wl (ro_move rfl) ?_
          refine wl_nil (x_then (hK31 _ _ ?_))
          clear hK31 K31
          refine c_block ?_
          -- loop@r27: live slots [0, 3, 71, 72, 185, 186, 187]
          refine c_loopG (fun n a' w' => ∃ i, n = f.ks.length - i ∧ i ≤ f.ks.length ∧ Fram none' w w' ∧ ∃ e, a' = Fr 211 (upds e [(0, ptr cb), (3, i64c (szF (progF t (k + 1)) x + (7 + 2 * f.ups.length + 3 * f.code.length) + ((f.ks.take i).map kb).sum)), (71, i64c (k + 1)), (72, i64c x), (185, .slice ka f.ks.length kc), (186, i64c f.ks.length), (187, i64c i)]) []) f.ks.length ⟨0, rfl, Nat.zero_le _, hF, kp _ ⟨rfl, rfl, rfl, rfl, rfl, rfl, rfl, trivial⟩⟩ ?_
          clear hF hC hG hCb
          rintro n2 a2 u2 ⟨i, rfl, hi, hF, e2, rfl⟩
          have hC := hF.blkN hC0
          refine c_seq (fun K32 hK32 => ?_)
          refine c_reg ?_ -- region 27 check.go:56
          refine wl (ro_cmp rfl rfl rfl) ?_
          refine wl_nil (x_then (hK32 _ _ ?_))
          clear hK32 K32
          refine forget [(0, _), (3, _), (71, _), (72, _), (185, _), (186, _), (187, _), (188, _)] ⟨rfl, rfl, rfl, rfl, rfl, rfl, rfl, rfl, trivial⟩ (fun e => ?_)
          refine c_seq (fun K33 hK33 => ?_)
          refine wc_cond rfl (fun hc188 => ?_) (fun hc188 => ?_)
          · try simp only [decide_eq_true_eq, decide_eq_false_iff_not, Bool.not_eq_true', Bool.not_eq_false', Bool.not_eq_eq_eq_not, Bool.not_true, Bool.not_false, beq_iff_eq, bne_iff_ne, ne_eq, beq_eq_false_iff_ne, bne_eq_false_iff_eq, gt_iff_lt, ge_iff_le, Int.not_lt, Int.not_le] at hc188
            have hlt : i < f.ks.length := by omega
            obtain ⟨v, hv⟩ : ∃ v, f.ks[i]? = some v := ⟨_, List.getElem?_eq_getElem hlt⟩
            obtain ⟨kg, kcap, kl, ev, hKb, k1', k2', k3', k4', k5'⟩ := OwT.at pvc_len oK hv
            cases ev
            replace hKb := hF.blkN hKb
            have hkv := f4 v (List.mem_of_getElem? hv)
            have hkt := kb_take hv
            have hk5 := k5' i v hv
            have hsum : szF (progF t (k + 1)) x + (7 + 2 * f.ups.length + 3 * f.code.length) + ((f.ks.take i).map kb).sum ≤ 100000 := by
              have h1 := kb_le f.ks i
              omega
            refine c_skip (x_then (hK33 _ _ ?_))
            clear hK33 K33
            refine forget [(0, _), (3, _), (71, _), (72, _), (185, _), (186, _), (187, _)] ⟨rfl, rfl, rfl, rfl, rfl, rfl, rfl, trivial⟩ (fun e => ?_)
            refine c_seq (fun K34 hK34 => ?_)
            refine c_block ?_
            refine c_seq (fun K35 hK35 => ?_)
            refine c_reg ?_ -- region 28 check.go:56
            refine wl (ro_indexAddr (et := 119) (k := 3) rfl rfl se_83 (rfl) (hlt)) ?_
            refine wl (ro_loadAggB rfl ag_119 (hKb) ((pvc_len v)) (hk5)) ?_
            refine wl_new (ze_119) (fun b10 w7 hbb10 h10 F7 => ?_)
            have hbsb10 := Nat.le_trans hF.size hbb10
            have hnecbb10 : cb < b10 := Nat.lt_of_lt_of_le hC.lt hbb10
            have hnekgb10 : kg < b10 := Nat.lt_of_lt_of_le hKb.lt hbb10
            replace hF := hF.thenDrew.thenN F7
            replace hC := F7.blkN hC
            replace hKb := F7.blkN hKb
            refine wl_puta rfl rfl ((pvc_one v)) sz_119 (rfl) h10 ((by simp)) (rfl) (fun w8 h10 F8 => ?_)
            replace hF := hF.thenDrew.thenO F8 (by first | exact .inr (by omega) | exact .inl rfl | exact .inl (by assumption) | assumption)
            replace hC := F8.blkO hC (by omega)
            replace hKb := F8.blkO hKb (by omega)
            refine wl_nil (x_then (hK35 _ _ ?_))
            clear hK35 K35
            refine forget [(0, _), (3, _), (10, _), (71, _), (72, _), (185, _), (186, _), (187, _)] ⟨rfl, rfl, rfl, rfl, rfl, rfl, rfl, rfl, trivial⟩ (fun e => ?_)
            refine c_seq (fun K36 hK36 => ?_)
            rcases hkv with ⟨q, rfl, hkx, -⟩ | ⟨q, rfl, hks⟩
            · skip
              refine c_reg ?_ -- region 29 check.go:57
              refine wl (ro_move rfl) ?_
              refine wl (ro_fieldAddr (k := 2) rfl fo_119_2) ?_
              refine wl (ro_loadB rfl sc_9 (h10) (rfl)) ?_
              refine wl (ro_lenS rfl st_9) ?_
              refine wl (ro_adT (m := 2) (k := 0) rfl rfl (by omega)) ?_
              refine wl (ro_adT (m := szF (progF t (k + 1)) x + (7 + 2 * f.ups.length + 3 * f.code.length) + ((f.ks.take i).map kb).sum) (k := 2 + 0) rfl rfl (by omega)) ?_
              refine wl (ro_assign rfl) ?_
              refine wl_nil (x_then (hK36 _ _ ?_))
              clear hK36 K36
              refine forget [(0, _), (3, _), (10, _), (71, _), (72, _), (185, _), (186, _), (187, _)] ⟨rfl, rfl, rfl, rfl, rfl, rfl, rfl, rfl, trivial⟩ (fun e => ?_)
              refine c_seq (fun K37 hK37 => ?_)
              refine c_reg ?_ -- region 30 check.go:58
              refine wl (ro_fieldAddr (k := 0) rfl fo_119_0) ?_
              refine wl (ro_loadB rfl sc_3 (h10) (rfl)) ?_
              refine wl (ro_cmp (r := true) rfl rfl rfl) ?_
              refine wl_nil (x_then (hK37 _ _ ?_))
              clear hK37 K37
              refine wc_condT rfl ?_
              refine c_reg ?_ -- region 31 check.go:59
              refine wl (ro_move rfl) ?_
              refine wl (ro_adT (m := szF (progF t (k + 1)) x + (7 + 2 * f.ups.length + 3 * f.code.length) + ((f.ks.take i).map kb).sum + (2 + 0)) (k := 7) rfl rfl (by omega)) ?_
              refine wl (ro_assign rfl) ?_
              refine wl_nil (x_blk (x_then (hK34 _ _ ?_)))
              clear hK34 K34
              refine c_reg ?_ -- region 32 check.go:56
              refine wl (ro_adT (m := i) (k := 1) rfl rfl (by omega)) ?_
              refine wl (ro_move rfl) ?_
              refine wl_nil (x_then ?_)
              refine ⟨f.ks.length - (i + 1), by omega, i + 1, rfl, by omega, hF, kp _ ⟨rfl, congrArg (fun z : Nat => some (i64c z)) ?_, rfl, rfl, rfl, rfl, rfl, trivial⟩⟩
              rw [hkt]
              show _ = _ + (_ + 9)
              omega
            · skip
              refine c_reg ?_ -- region 29 check.go:57
              refine wl (ro_move rfl) ?_
              refine wl (ro_fieldAddr (k := 2) rfl fo_119_2) ?_
              refine wl (ro_loadB rfl sc_9 (h10) (rfl)) ?_
              refine wl (ro_lenS rfl st_9) ?_
              refine wl (ro_adT (m := 2) (k := q.length) rfl rfl (by omega)) ?_
              refine wl (ro_adT (m := szF (progF t (k + 1)) x + (7 + 2 * f.ups.length + 3 * f.code.length) + ((f.ks.take i).map kb).sum) (k := 2 + q.length) rfl rfl (by omega)) ?_
              refine wl (ro_assign rfl) ?_
              refine wl_nil (x_then (hK36 _ _ ?_))
              clear hK36 K36
              refine forget [(0, _), (3, _), (10, _), (71, _), (72, _), (185, _), (186, _), (187, _)] ⟨rfl, rfl, rfl, rfl, rfl, rfl, rfl, rfl, trivial⟩ (fun e => ?_)
              refine c_seq (fun K38 hK38 => ?_)
              refine c_reg ?_ -- region 30 check.go:58
              refine wl (ro_fieldAddr (k := 0) rfl fo_119_0) ?_
              refine wl (ro_loadB rfl sc_3 (h10) (rfl)) ?_
              refine wl (ro_cmp (r := false) rfl rfl rfl) ?_
              refine wl_nil (x_then (hK38 _ _ ?_))
              clear hK38 K38
              refine wc_condF rfl ?_
              refine c_skip (x_blk (x_then (hK34 _ _ ?_)))
              clear hK34 K34
              refine c_reg ?_ -- region 32 check.go:56
              refine wl (ro_adT (m := i) (k := 1) rfl rfl (by omega)) ?_
              refine wl (ro_move rfl) ?_
              refine wl_nil (x_then ?_)
              refine ⟨f.ks.length - (i + 1), by omega, i + 1, rfl, by omega, hF, kp _ ⟨rfl, congrArg (fun z : Nat => some (i64c z)) ?_, rfl, rfl, rfl, rfl, rfl, trivial⟩⟩
              rw [hkt]
              show _ = _ + (_ + (2 + q.length))
              omega
          · try simp only [decide_eq_true_eq, decide_eq_false_iff_not, Bool.not_eq_true', Bool.not_eq_false', Bool.not_eq_eq_eq_not, Bool.not_true, Bool.not_false, beq_iff_eq, bne_iff_ne, ne_eq, beq_eq_false_iff_ne, bne_eq_false_iff_eq, gt_iff_lt, ge_iff_le, Int.not_lt, Int.not_le] at hc188
            refine c_exit (x_thenX (x_thenX (x_blkX (x_blk (x_then (hK13 _ _ ?_))))))
            clear hK33 K33 hK13 K13
            refine c_reg ?_ -- region 33 check.go:38
            refine wl (ro_adT (m := x) (k := 1) rfl rfl (by omega)) ?_
            refine wl (ro_move rfl) ?_
            refine wl_nil (x_then ?_)
            refine ⟨k + 1 - (x + 1), by omega, x + 1, rfl, by omega, hF, kp _ ⟨rfl, congrArg (fun z : Nat => some (i64c z)) ?_, rfl, rfl, trivial⟩⟩
            unfold szF
            rw [htk]
            unfold fb
            have : f.ks.take i = f.ks := List.take_of_length_le (by omega)
            rw [this]
            omega
      · skip
        rw [if_neg hx0] at c1
        refine c_pi [(0, false), (1, false), (2, false), (3, false), (4, false), (5, false), (6, false), (7, false), (8, false), (9, false), (10, false), (11, false), (12, false), (13, false), (14, false), (15, false), (16, false), (17, false), (18, false), (19, false), (20, false), (21, false), (22, false), (23, false), (24, false), (25, false), (26, false), (27, false), (28, false), (29, false), (30, false), (31, false)] (SameH _) mixed (by kernel_rfl) rfl (by kernel_rfl) (po_then (po_then (po_blk (po_then (po_then (po_blk (po_then (po_bp)))))))) (sameH_now _ _) ?_ -- region 15 check.go:44
        refine pi_ro rfl (fun w hS => ro_move rfl) ?_
        refine pi_ro rfl (fun w hS => ro_nilCheck rfl) ?_
        refine pi_ro rfl (fun w hS => ro_fieldAddr (k := 3) rfl fo_199_3) ?_
        refine pi_ro rfl (fun w hS => ro_loadB rfl sc_192 (Blk.of_heap hG hS) (c3)) ?_
        refine pi_ro rfl (fun w hS => ro_lenL rfl se_192) ?_
        refine pi_ro rfl (fun w hS => ro_move rfl) ?_
        refine pi_ro rfl (fun w hS => ro_nilCheck rfl) ?_
        refine pi_ro rfl (fun w hS => ro_fieldAddr (k := 2) rfl fo_199_2) ?_
        refine pi_ro rfl (fun w hS => ro_loadB rfl sc_3 (Blk.of_heap hG hS) (c2)) ?_
        refine pi_ro rfl (fun w hS => ro_cmp (r := false) rfl rfl (congrArg some (by simp))) ?_
        refine pi_ro rfl (fun w hS => ro_move rfl) ?_
        refine pi_gyes rfl rfl (fun w hS => ro_move rfl) ?_
        refine pi_gyes rfl rfl (fun w hS => ro_nilCheck rfl) ?_
        refine pi_gyes rfl rfl (fun w hS => ro_fieldAddr (k := 10) rfl fo_199_10) ?_
        refine pi_gyes rfl rfl (fun w hS => ro_loadB rfl sc_197 (Blk.of_heap hG hS) (c10)) ?_
        refine pi_gyes rfl rfl (fun w hS => ro_lenL rfl se_197) ?_
        refine pi_gyes rfl rfl (fun w hS => ro_cmp (r := false) rfl rfl rfl) ?_
        refine pi_ro rfl (fun w hS => ro_pick rfl rfl rfl) ?_
        refine pi_ro rfl (fun w hS => ro_move rfl) ?_
        refine pi_gyes rfl rfl (fun w hS => ro_move rfl) ?_
        refine pi_gyes rfl rfl (fun w hS => ro_cmp (r := false) rfl rfl (congrArg some (decide_eq_false (by omega)))) ?_
        refine pi_ro rfl (fun w hS => ro_pick rfl rfl rfl) ?_
        refine pi_ro rfl (fun w hS => ro_move rfl) ?_
        refine pi_gyes rfl rfl (fun w hS => ro_move rfl) ?_
        refine pi_gyes rfl rfl (fun w hS => ro_cmp (r := false) rfl rfl (congrArg some (decide_eq_false (by omega)))) ?_
        refine pi_gyes rfl rfl (fun w hS => ro_move rfl) ?_
        refine pi_gyes rfl rfl (fun w hS => ro_nilCheck rfl) ?_
        refine pi_gyes rfl rfl (fun w hS => ro_fieldAddr (k := 1) rfl fo_199_1) ?_
        refine pi_gyes rfl rfl (fun w hS => ro_loadB rfl sc_128 (Blk.of_heap hG hS) (c1)) ?_
        refine pi_gyes rfl rfl (fun w hS => ro_eqPtrNil (r := false) rfl pt_128 rfl) ?_
        refine pi_gyes rfl rfl (fun w hS => ro_eqBool (r := false) rfl rfl Tryz.underlying4 rfl) ?_
        refine pi_ro rfl (fun w hS => ro_pick rfl rfl rfl) ?_
        refine pi_nil (x_then (hK20 _ _ ?_))
        clear hK20 K20
        refine wc_condF rfl ?_
        refine c_skip (x_then (hK19 _ _ ?_))
        clear hK19 K19
        refine c_seq (fun K39 hK39 => ?_)
        refine c_seq (fun K40 hK40 => ?_)
        obtain ⟨cg, ccap, cl, ev, hCb, k1, k2, k3, k4, k5⟩ := OwT.at inc_len oC z0
        have hcg0 := hCb
        cases ev
        replace hCb := hF.blkN hCb
        refine c_reg ?_ -- region 17 check.go:47
        refine wl (ro_move rfl) ?_
        refine wl (ro_nilCheck rfl) ?_
        refine wl (ro_fieldAddr (k := 9) rfl fo_199_9) ?_
        refine wl (ro_loadB rfl sc_196 (hG) (c9)) ?_
        refine wl (ro_move rfl) ?_
        refine wl (ro_arith (r := ((z : Nat) : Int)) rfl rfl (congrArg some (by omega)) (Go.IntWalk.i64_in _ (by omega))) ?_
        refine wl (ro_indexAddr (et := 203) (k := 2) rfl rfl se_196 (rfl) ((by omega))) ?_
        refine wl (ro_fieldAddr (k := 0) rfl fo_203_0) ?_
        refine wl (ro_loadB rfl sc_5 (hCb) ((row_cell3 (j := 0) (k5 z _ z0) rfl))) ?_
        refine wl (ro_cmp (r := false) rfl rfl rfl) ?_
        refine wl (ro_move rfl) ?_
        refine wlg_yes rfl (ro_move rfl) ?_
        refine wlg_yes rfl (ro_nilCheck rfl) ?_
        refine wlg_yes rfl (ro_fieldAddr (k := 9) rfl fo_199_9) ?_
        refine wlg_yes rfl (ro_loadB rfl sc_196 (hG) (c9)) ?_
        refine wlg_yes rfl (ro_move rfl) ?_
        refine wlg_yes rfl (ro_arith (r := ((z + 1 : Nat) : Int)) rfl rfl (congrArg some (by omega)) (Go.IntWalk.i64_in _ (by omega))) ?_
        refine wlg_yes rfl (ro_indexAddr (et := 203) (k := 2) rfl rfl se_196 (rfl) ((by omega))) ?_
        refine wlg_yes rfl (ro_fieldAddr (k := 0) rfl fo_203_0) ?_
        refine wlg_yes rfl (ro_loadB rfl sc_5 (hCb) ((row_cell3 (j := 0) (k5 (z + 1) _ z1) rfl))) ?_
        refine wlg_yes rfl (ro_cmp (r := false) rfl rfl rfl) ?_
        refine wl (ro_pick rfl rfl rfl) ?_
        refine wl (ro_move rfl) ?_
        refine wlg_yes rfl (ro_move rfl) ?_
        refine wlg_yes rfl (ro_nilCheck rfl) ?_
        refine wlg_yes rfl (ro_fieldAddr (k := 9) rfl fo_199_9) ?_
        refine wlg_yes rfl (ro_loadB rfl sc_196 (hG) (c9)) ?_
        refine wlg_yes rfl (ro_move rfl) ?_
        refine wlg_yes rfl (ro_arith (r := ((z + 2 : Nat) : Int)) rfl rfl (congrArg some (by omega)) (Go.IntWalk.i64_in _ (by omega))) ?_
        refine wlg_yes rfl (ro_indexAddr (et := 203) (k := 2) rfl rfl se_196 (rfl) ((by omega))) ?_
        refine wlg_yes rfl (ro_fieldAddr (k := 0) rfl fo_203_0) ?_
        refine wlg_yes rfl (ro_loadB rfl sc_5 (hCb) ((row_cell3 (j := 0) (k5 (z + 2) _ z2) rfl))) ?_
        refine wlg_yes rfl (ro_cmp (r := false) rfl rfl rfl) ?_
        refine wl (ro_pick rfl rfl rfl) ?_
        refine wl_nil (x_then (hK40 _ _ ?_))
        clear hK40 K40
        refine wc_condF rfl ?_
        refine c_skip (x_then (hK39 _ _ ?_))
        clear hK39 K39
        refine c_seq (fun K41 hK41 => ?_)
        refine c_seq (fun K42 hK42 => ?_)
        refine c_reg ?_ -- region 19 check.go:50
        refine wl (ro_move rfl) ?_
        refine wl (ro_nilCheck rfl) ?_
        refine wl (ro_fieldAddr (k := 9) rfl fo_199_9) ?_
        refine wl (ro_loadB rfl sc_196 (hG) (c9)) ?_
        refine wl (ro_lenL rfl se_196) ?_
        refine wl (ro_move rfl) ?_
        refine wl_nil (x_then (hK42 _ _ ?_))
        clear hK42 K42
        refine c_block ?_
        -- loop@r20: live slots [0, 3, 4, 5, 6, 71, 72, 100, 101, 102, 103, 104, 105, 108, 109, 112, 113, 114, 115, 116, 117, 118, 119, 132, 133, 134, 135, 136, 137, 138, 139, 140, 141, 144, 145, 146, 147, 148, 149, 150, 151, 152, 153, 158, 159, 160]
        refine c_loopG (fun n a' w' => ∃ i, n = f.code.length - i ∧ i ≤ f.code.length ∧ Fram none' w w' ∧ ∃ e, a' = Fr 211 (upds e [(0, ptr cb), (3, i64c (szF (progF t (k + 1)) x)), (4, i64c x), (5, ptrAt gb (x * 11)), (6, i64c f.code.length), (71, i64c (k + 1)), (72, i64c x), (158, .slice (some ⟨cg, 0, none⟩) f.code.length cc), (159, i64c f.code.length), (160, i64c i)]) []) f.code.length ⟨0, rfl, Nat.zero_le _, hF.thenDrew, kp _ ⟨rfl, rfl, rfl, rfl, rfl, rfl, rfl, rfl, rfl, rfl, trivial⟩⟩ ?_
        clear hF hC hG hCb
        rintro n2 a2 u2 ⟨i, rfl, hi, hF, e2, rfl⟩
        have hC := hF.blkN hC0
        have hG := hF.blkN hG0
        have hCb := hF.blkN hcg0
        refine c_seq (fun K43 hK43 => ?_)
        refine c_reg ?_ -- region 20 check.go:50
        refine wl (ro_cmp rfl rfl rfl) ?_
        refine wl_nil (x_then (hK43 _ _ ?_))
        clear hK43 K43
        refine forget [(0, _), (3, _), (4, _), (5, _), (6, _), (71, _), (72, _), (158, _), (159, _), (160, _), (161, _)] ⟨rfl, rfl, rfl, rfl, rfl, rfl, rfl, rfl, rfl, rfl, rfl, trivial⟩ (fun e => ?_)
        refine c_seq (fun K44 hK44 => ?_)
        refine wc_cond rfl (fun hc161 => ?_) (fun hc161 => ?_)
        · try simp only [decide_eq_true_eq, decide_eq_false_iff_not, Bool.not_eq_true', Bool.not_eq_false', Bool.not_eq_eq_eq_not, Bool.not_true, Bool.not_false, beq_iff_eq, bne_iff_ne, ne_eq, beq_eq_false_iff_ne, bne_eq_false_iff_eq, gt_iff_lt, ge_iff_le, Int.not_lt, Int.not_le] at hc161
          have hlt : i < f.code.length := by omega
          obtain ⟨⟨op, xx⟩, hxx⟩ : ∃ v, f.code[i]? = some v := ⟨_, List.getElem?_eq_getElem hlt⟩
          have hox := f5 (op, xx) (List.mem_of_getElem? hxx)
          refine c_skip (x_then (hK44 _ _ ?_))
          clear hK44 K44
          refine forget [(0, _), (3, _), (4, _), (5, _), (6, _), (71, _), (72, _), (158, _), (159, _), (160, _)] ⟨rfl, rfl, rfl, rfl, rfl, rfl, rfl, rfl, rfl, rfl, trivial⟩ (fun e => ?_)
          refine c_seq (fun K45 hK45 => ?_)
          refine c_block ?_
          refine c_seq (fun K46 hK46 => ?_)
          refine c_reg ?_ -- region 21 check.go:50
          refine wl (ro_indexAddr (et := 203) (k := 2) rfl rfl se_196 (rfl) (hlt)) ?_
          refine wl (ro_loadAggB rfl ag_203 (hCb) ((inc_len _)) ((k5 i _ hxx))) ?_
          refine wl_new (ze_203) (fun b8 w9 hbb8 h8 F9 => ?_)
          have hbsb8 := Nat.le_trans hF.size hbb8
          have hnecbb8 : cb < b8 := Nat.lt_of_lt_of_le hC.lt hbb8
          have hnegbb8 : gb < b8 := Nat.lt_of_lt_of_le hG.lt hbb8
          have hnecgb8 : cg < b8 := Nat.lt_of_lt_of_le hCb.lt hbb8
          replace hF := hF.thenDrew.thenN F9
          replace hC := F9.blkN hC
          replace hG := F9.blkN hG
          replace hCb := F9.blkN hCb
          refine wl_puta rfl rfl ((inc_one (op, xx))) sz_203 (rfl) h8 ((by simp)) (rfl) (fun w10 h8 F10 => ?_)
          replace hF := hF.thenDrew.thenO F10 (by first | exact .inr (by omega) | exact .inl rfl | exact .inl (by assumption) | assumption)
          replace hC := F10.blkO hC (by omega)
          replace hG := F10.blkO hG (by omega)
          replace hCb := F10.blkO hCb (by omega)
          refine wl_nil (x_then (hK46 _ _ ?_))
          clear hK46 K46
          refine forget [(0, _), (3, _), (4, _), (5, _), (6, _), (8, _), (71, _), (72, _), (158, _), (159, _), (160, _)] ⟨rfl, rfl, rfl, rfl, rfl, rfl, rfl, rfl, rfl, rfl, rfl, trivial⟩ (fun e => ?_)
          refine c_seq (fun K47 hK47 => ?_)
          refine c_reg ?_ -- region 22 check.go:51
          refine wl (ro_move rfl) ?_
          refine wl (ro_loadAggB rfl ag_203 (h8) (rfl) (rfl)) ?_
          refine wl (ro_move rfl) ?_
          refine wl_call rfl en_97 (closed97 (h.farN hF) (fun y hy ↦ by obtain ⟨r, m, q⟩ := hfv y hy; exact ⟨r, m, q.farN hF⟩) (z := z) (by rw [hfs]; exact hz) (by rw [hfs]; exact (hins i _ hxx).x) hox.2 hln) ?_
          rintro _ w11 ⟨rfl, F11⟩
          replace hF := hF.thenDrew.thenN F11
          replace hC := F11.blkN hC
          replace hG := F11.blkN hG
          replace hCb := F11.blkN hCb
          replace h8 := F11.blkN h8
          refine wl (ro_not rfl) ?_
          refine wl_nil (x_then (hK47 _ _ ?_))
          clear hK47 K47
          refine wc_condF rfl ?_
          refine c_skip (x_blk (x_then (hK45 _ _ ?_)))
          clear hK45 K45
          refine c_reg ?_ -- region 24 check.go:50
          refine wl (ro_adT (m := i) (k := 1) rfl rfl (by omega)) ?_
          refine wl (ro_move rfl) ?_
          refine wl_nil (x_then ?_)
          exact ⟨f.code.length - (i + 1), by omega, i + 1, rfl, by omega, hF, kp _ ⟨rfl, rfl, rfl, rfl, rfl, rfl, rfl, rfl, rfl, rfl, trivial⟩⟩
        · try simp only [decide_eq_true_eq, decide_eq_false_iff_not, Bool.not_eq_true', Bool.not_eq_false', Bool.not_eq_eq_eq_not, Bool.not_true, Bool.not_false, beq_iff_eq, bne_iff_ne, ne_eq, beq_eq_false_iff_ne, bne_eq_false_iff_eq, gt_iff_lt, ge_iff_le, Int.not_lt, Int.not_le] at hc161
          refine c_exit (x_thenX (x_thenX (x_blkX (x_then (hK41 _ _ ?_)))))
          clear hK44 K44 hK41 K41
          refine forget [(0, _), (3, _), (5, _), (6, _), (71, _), (72, _)] ⟨rfl, rfl, rfl, rfl, rfl, rfl, trivial⟩ (fun e => ?_)
          refine c_seq (fun K48 hK48 => ?_)
          refine c_reg ?_ -- region 25 check.go:55
          refine wl (ro_move rfl) ?_
          refine wl (ro_move rfl) ?_
          refine wl (ro_nilCheck rfl) ?_
          refine wl (ro_fieldAddr (k := 5) rfl fo_199_5) ?_
          refine wl (ro_loadB rfl sc_193 (hG) (c5)) ?_
          refine wl (ro_lenL rfl se_193) ?_
          refine wl (ro_arith (r := ((2 * f.ups.length : Nat) : Int)) rfl rfl (congrArg some (by omega)) (Go.IntWalk.i64_in _ (by omega))) ?_
          refine wl (ro_adT (m := 7) (k := 2 * f.ups.length) rfl rfl (by omega)) ?_
          refine wl (ro_move rfl) ?_
          refine wl (ro_arith (r := ((3 * f.code.length : Nat) : Int)) rfl rfl (congrArg some (by omega)) (Go.IntWalk.i64_in _ (by omega))) ?_
          refine wl (ro_adT (m := 7 + 2 * f.ups.length) (k := 3 * f.code.length) rfl rfl (by omega)) ?_
          refine wl (ro_adT (m := szF (progF t (k + 1)) x) (k := 7 + 2 * f.ups.length + 3 * f.code.length) rfl rfl (by unfold szF; omega)) ?_
          refine wl (ro_assign rfl) ?_
          refine wl_nil (x_then (hK48 _ _ ?_))
          clear hK48 K48
          refine forget [(0, _), (3, _), (5, _), (71, _), (72, _)] ⟨rfl, rfl, rfl, rfl, rfl, trivial⟩ (fun e => ?_)
          refine c_seq (fun K49 hK49 => ?_)
          refine c_reg ?_ -- region 26 check.go:56
          refine wl (ro_move rfl) ?_
          refine wl (ro_nilCheck rfl) ?_
          refine wl (ro_fieldAddr (k := 6) rfl fo_199_6) ?_
          refine wl (ro_loadB rfl sc_83 (hG) (c6)) ?_
          refine wl (ro_lenL rfl se_83) ?_
          refine wl (ro_move rfl) ?_
          refine wl_nil (x_then (hK49 _ _ ?_))
          clear hK49 K49
          refine c_block ?_
          -- loop@r27: live slots [0, 3, 71, 72, 185, 186, 187]
          refine c_loopG (fun n a' w' => ∃ i, n = f.ks.length - i ∧ i ≤ f.ks.length ∧ Fram none' w w' ∧ ∃ e, a' = Fr 211 (upds e [(0, ptr cb), (3, i64c (szF (progF t (k + 1)) x + (7 + 2 * f.ups.length + 3 * f.code.length) + ((f.ks.take i).map kb).sum)), (71, i64c (k + 1)), (72, i64c x), (185, .slice ka f.ks.length kc), (186, i64c f.ks.length), (187, i64c i)]) []) f.ks.length ⟨0, rfl, Nat.zero_le _, hF, kp _ ⟨rfl, rfl, rfl, rfl, rfl, rfl, rfl, trivial⟩⟩ ?_
          clear hF hC hG hCb
          rintro n2 a2 u2 ⟨i, rfl, hi, hF, e2, rfl⟩
          have hC := hF.blkN hC0
          refine c_seq (fun K50 hK50 => ?_)
          refine c_reg ?_ -- region 27 check.go:56
          refine wl (ro_cmp rfl rfl rfl) ?_
          refine wl_nil (x_then (hK50 _ _ ?_))
          clear hK50 K50
          refine forget [(0, _), (3, _), (71, _), (72, _), (185, _), (186, _), (187, _), (188, _)] ⟨rfl, rfl, rfl, rfl, rfl, rfl, rfl, rfl, trivial⟩ (fun e => ?_)
          refine c_seq (fun K51 hK51 => ?_)
          refine wc_cond rfl (fun hc188 => ?_) (fun hc188 => ?_)
          · try simp only [decide_eq_true_eq, decide_eq_false_iff_not, Bool.not_eq_true', Bool.not_eq_false', Bool.not_eq_eq_eq_not, Bool.not_true, Bool.not_false, beq_iff_eq, bne_iff_ne, ne_eq, beq_eq_false_iff_ne, bne_eq_false_iff_eq, gt_iff_lt, ge_iff_le, Int.not_lt, Int.not_le] at hc188
            have hlt : i < f.ks.length := by omega
            obtain ⟨v, hv⟩ : ∃ v, f.ks[i]? = some v := ⟨_, List.getElem?_eq_getElem hlt⟩
            obtain ⟨kg, kcap, kl, ev, hKb, k1', k2', k3', k4', k5'⟩ := OwT.at pvc_len oK hv
            cases ev
            replace hKb := hF.blkN hKb
            have hkv := f4 v (List.mem_of_getElem? hv)
            have hkt := kb_take hv
            have hk5 := k5' i v hv
            have hsum : szF (progF t (k + 1)) x + (7 + 2 * f.ups.length + 3 * f.code.length) + ((f.ks.take i).map kb).sum ≤ 100000 := by
              have h1 := kb_le f.ks i
              omega
            refine c_skip (x_then (hK51 _ _ ?_))
            clear hK51 K51
            refine forget [(0, _), (3, _), (71, _), (72, _), (185, _), (186, _), (187, _)] ⟨rfl, rfl, rfl, rfl, rfl, rfl, rfl, trivial⟩ (fun e => ?_)
            refine c_seq (fun K52 hK52 => ?_)
            refine c_block ?_
            refine c_seq (fun K53 hK53 => ?_)
            refine c_reg ?_ -- region 28 check.go:56
            refine wl (ro_indexAddr (et := 119) (k := 3) rfl rfl se_83 (rfl) (hlt)) ?_
            refine wl (ro_loadAggB rfl ag_119 (hKb) ((pvc_len v)) (hk5)) ?_
            refine wl_new (ze_119) (fun b10 w12 hbb10 h10 F12 => ?_)
            have hbsb10 := Nat.le_trans hF.size hbb10
            have hnecbb10 : cb < b10 := Nat.lt_of_lt_of_le hC.lt hbb10
            have hnekgb10 : kg < b10 := Nat.lt_of_lt_of_le hKb.lt hbb10
            replace hF := hF.thenDrew.thenN F12
            replace hC := F12.blkN hC
            replace hKb := F12.blkN hKb
            refine wl_puta rfl rfl ((pvc_one v)) sz_119 (rfl) h10 ((by simp)) (rfl) (fun w13 h10 F13 => ?_)
            replace hF := hF.thenDrew.thenO F13 (by first | exact .inr (by omega) | exact .inl rfl | exact .inl (by assumption) | assumption)
            replace hC := F13.blkO hC (by omega)
            replace hKb := F13.blkO hKb (by omega)
            refine wl_nil (x_then (hK53 _ _ ?_))
            clear hK53 K53
            refine forget [(0, _), (3, _), (10, _), (71, _), (72, _), (185, _), (186, _), (187, _)] ⟨rfl, rfl, rfl, rfl, rfl, rfl, rfl, rfl, trivial⟩ (fun e => ?_)
            refine c_seq (fun K54 hK54 => ?_)
            rcases hkv with ⟨q, rfl, hkx, -⟩ | ⟨q, rfl, hks⟩
            · skip
              refine c_reg ?_ -- region 29 check.go:57
              refine wl (ro_move rfl) ?_
              refine wl (ro_fieldAddr (k := 2) rfl fo_119_2) ?_
              refine wl (ro_loadB rfl sc_9 (h10) (rfl)) ?_
              refine wl (ro_lenS rfl st_9) ?_
              refine wl (ro_adT (m := 2) (k := 0) rfl rfl (by omega)) ?_
              refine wl (ro_adT (m := szF (progF t (k + 1)) x + (7 + 2 * f.ups.length + 3 * f.code.length) + ((f.ks.take i).map kb).sum) (k := 2 + 0) rfl rfl (by omega)) ?_
              refine wl (ro_assign rfl) ?_
              refine wl_nil (x_then (hK54 _ _ ?_))
              clear hK54 K54
              refine forget [(0, _), (3, _), (10, _), (71, _), (72, _), (185, _), (186, _), (187, _)] ⟨rfl, rfl, rfl, rfl, rfl, rfl, rfl, rfl, trivial⟩ (fun e => ?_)
              refine c_seq (fun K55 hK55 => ?_)
              refine c_reg ?_ -- region 30 check.go:58
              refine wl (ro_fieldAddr (k := 0) rfl fo_119_0) ?_
              refine wl (ro_loadB rfl sc_3 (h10) (rfl)) ?_
              refine wl (ro_cmp (r := true) rfl rfl rfl) ?_
              refine wl_nil (x_then (hK55 _ _ ?_))
              clear hK55 K55
              refine wc_condT rfl ?_
              refine c_reg ?_ -- region 31 check.go:59
              refine wl (ro_move rfl) ?_
              refine wl (ro_adT (m := szF (progF t (k + 1)) x + (7 + 2 * f.ups.length + 3 * f.code.length) + ((f.ks.take i).map kb).sum + (2 + 0)) (k := 7) rfl rfl (by omega)) ?_
              refine wl (ro_assign rfl) ?_
              refine wl_nil (x_blk (x_then (hK52 _ _ ?_)))
              clear hK52 K52
              refine c_reg ?_ -- region 32 check.go:56
              refine wl (ro_adT (m := i) (k := 1) rfl rfl (by omega)) ?_
              refine wl (ro_move rfl) ?_
              refine wl_nil (x_then ?_)
              refine ⟨f.ks.length - (i + 1), by omega, i + 1, rfl, by omega, hF, kp _ ⟨rfl, congrArg (fun z : Nat => some (i64c z)) ?_, rfl, rfl, rfl, rfl, rfl, trivial⟩⟩
              rw [hkt]
              show _ = _ + (_ + 9)
              omega
            · skip
              refine c_reg ?_ -- region 29 check.go:57
              refine wl (ro_move rfl) ?_
              refine wl (ro_fieldAddr (k := 2) rfl fo_119_2) ?_
              refine wl (ro_loadB rfl sc_9 (h10) (rfl)) ?_
              refine wl (ro_lenS rfl st_9) ?_
              refine wl (ro_adT (m := 2) (k := q.length) rfl rfl (by omega)) ?_
              refine wl (ro_adT (m := szF (progF t (k + 1)) x + (7 + 2 * f.ups.length + 3 * f.code.length) + ((f.ks.take i).map kb).sum) (k := 2 + q.length) rfl rfl (by omega)) ?_
              refine wl (ro_assign rfl) ?_
              refine wl_nil (x_then (hK54 _ _ ?_))
              clear hK54 K54
              refine forget [(0, _), (3, _), (10, _), (71, _), (72, _), (185, _), (186, _), (187, _)] ⟨rfl, rfl, rfl, rfl, rfl, rfl, rfl, rfl, trivial⟩ (fun e => ?_)
              refine c_seq (fun K56 hK56 => ?_)
              refine c_reg ?_ -- region 30 check.go:58
              refine wl (ro_fieldAddr (k := 0) rfl fo_119_0) ?_
              refine wl (ro_loadB rfl sc_3 (h10) (rfl)) ?_
              refine wl (ro_cmp (r := false) rfl rfl rfl) ?_
              refine wl_nil (x_then (hK56 _ _ ?_))
              clear hK56 K56
              refine wc_condF rfl ?_
              refine c_skip (x_blk (x_then (hK52 _ _ ?_)))
              clear hK52 K52
              refine c_reg ?_ -- region 32 check.go:56
              refine wl (ro_adT (m := i) (k := 1) rfl rfl (by omega)) ?_
              refine wl (ro_move rfl) ?_
              refine wl_nil (x_then ?_)
              refine ⟨f.ks.length - (i + 1), by omega, i + 1, rfl, by omega, hF, kp _ ⟨rfl, congrArg (fun z : Nat => some (i64c z)) ?_, rfl, rfl, rfl, rfl, rfl, trivial⟩⟩
              rw [hkt]
              show _ = _ + (_ + (2 + q.length))
              omega
          · try simp only [decide_eq_true_eq, decide_eq_false_iff_not, Bool.not_eq_true', Bool.not_eq_false', Bool.not_eq_eq_eq_not, Bool.not_true, Bool.not_false, beq_iff_eq, bne_iff_ne, ne_eq, beq_eq_false_iff_ne, bne_eq_false_iff_eq, gt_iff_lt, ge_iff_le, Int.not_lt, Int.not_le] at hc188
            refine c_exit (x_thenX (x_thenX (x_blkX (x_blk (x_then (hK13 _ _ ?_))))))
            clear hK51 K51 hK13 K13
            refine c_reg ?_ -- region 33 check.go:38
            refine wl (ro_adT (m := x) (k := 1) rfl rfl (by omega)) ?_
            refine wl (ro_move rfl) ?_
            refine wl_nil (x_then ?_)
            refine ⟨k + 1 - (x + 1), by omega, x + 1, rfl, by omega, hF, kp _ ⟨rfl, congrArg (fun z : Nat => some (i64c z)) ?_, rfl, rfl, trivial⟩⟩
            unfold szF
            rw [htk]
            unfold fb
            have : f.ks.take i = f.ks := List.take_of_length_le (by omega)
            rw [this]
            omega
    · try simp only [decide_eq_true_eq, decide_eq_false_iff_not, Bool.not_eq_true', Bool.not_eq_false', Bool.not_eq_eq_eq_not, Bool.not_true, Bool.not_false, beq_iff_eq, bne_iff_ne, ne_eq, beq_eq_false_iff_ne, bne_eq_false_iff_eq, gt_iff_lt, ge_iff_le, Int.not_lt, Int.not_le] at hc73
      refine c_exit (x_thenX (x_thenX (x_blkX (x_then (hK9 _ _ ?_)))))
      clear hK12 K12 hK9 K9
      refine forget [(0, _), (3, _)] ⟨rfl, rfl, trivial⟩ (fun e => ?_)
      refine c_seq (fun K57 hK57 => ?_)
      refine c_reg ?_ -- region 34 check.go:63
      refine wl (ro_move rfl) ?_
      refine wl (ro_move rfl) ?_
      refine wl (ro_nilCheck rfl) ?_
      refine wl (ro_fieldAddr (k := 5) rfl fo_94_5) ?_
      refine wl (ro_loadB rfl sc_70 (hC) rfl) ?_
      refine wl (ro_lenL rfl se_70) ?_
      refine wl (ro_cmp (r := true) rfl rfl (congrArg some (decide_eq_true (by have : x = k + 1 := (by omega); rw [this, hsz])))) ?_
      refine wl (ro_assign rfl) ?_
      refine wl_nil (x_then (hK57 _ _ ?_))
      clear hK57 K57
      refine c_ret ?_
      refine bp_ret Tryz.results47 rfl ?_
      exact ⟨rfl, hF⟩
end
end Go.Proofs.Qxb6500568aGreatDoor
