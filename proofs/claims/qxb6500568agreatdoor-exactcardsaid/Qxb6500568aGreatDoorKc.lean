import Derived.Test.Qxb6500568aGreatDoorKb
/- The stack machine: New, wipe. -/
namespace Go.Proofs.Qxb6500568aGreatDoor
open Ieee
set_option linter.unusedVariables false
set_option linter.unusedSimpArgs false
set_option linter.unusedSectionVars false

/-- a machine as made. -/
def vl0 : VL := ⟨fun _ => (0, []), fun _ _ => (0, []), fun _ => (i64c 0, i64c 0), 0, i64c 0, i64c 21⟩
theorem New16 {w : World} {ow : Nat → Nat} {nb tp : Nat} : Ret Tryz.prog 16 [ptr nb, ptr tp] w (fun v w' => ∃ mb tb, v = ptr mb ∧ w.heap.size ≤ mb ∧ Fram none' w w' ∧ ∃ ow', Xt w ow ow' ∧ VMV ⟨mb, tb, ptr nb, ptr tp⟩ w' ow' vl0) := by
  have hF : Fram none' w w := Fram.refl _ _
  refine ret_of Tryz.func16 rfl Tryz.ntmps16 rfl ?_
  refine c_seq (fun K1 hK1 => ?_)
  refine c_reg ?_ -- region 0 vm.go:80
  refine wl (ro_assign rfl) ?_
  refine wl_nil (x_then (hK1 _ _ ?_))
  clear hK1 K1
  refine forget [(0, _), (1, _)] ⟨rfl, rfl, trivial⟩ (fun e => ?_)
  refine c_seq (fun K2 hK2 => ?_)
  refine c_reg ?_ -- region 1 vm.go:81
  refine wl (ro_move rfl) ?_
  refine wl (ro_move rfl) ?_
  refine wl_make (len := 0) (cap := 5) rfl rfl se_80 ze_269 (by simp) (by omega) (by omega) rfl bb_269 (fun b7 w1 hbb7 hB F1 => ?_)
  have hbsb7 := Nat.le_trans hF.size hbb7
  replace hF := hF.thenDrew.thenN F1
  refine wl (ro_build rfl bld_89_0_1_9_12) ?_
  refine wl_box rfl rfl (fun b9 w2 hbb9 hP F2 => ?_)
  have hbsb9 := Nat.le_trans hF.size hbb9
  have hneb7b9 : b7 < b9 := Nat.lt_of_lt_of_le hB.lt hbb9
  replace hF := hF.thenDrew.thenN F2
  replace hB := F2.blkN hB
  refine wl (ro_assign rfl) ?_
  refine wl_nil (x_then (hK2 _ _ ?_))
  clear hK2 K2
  refine c_ret ?_
  refine bp_ret Tryz.results16 rfl ?_
  have hBl := hB.lt
  have hPl := hP.lt
  refine ⟨b9, b7, rfl, by omega, hF, cut66 _ (ot (ot ow b7 409) b9 400), fun b hb ↦ by rw [cut66_xt _ _ b (by have := hF.size; omega), ot_old (by omega), ot_old (by omega)], fun _ ↦ .slice none 0 0, fun _ _ ↦ .slice none 0 0, hP, hB, fun i _ ↦ OwT.nil _ _ _ _ _, fun j _ i _ ↦ OwT.nil _ _ _ _ _, ?_, ?_, by decide, cut66_df _ _⟩
  · rw [cut66_xt _ _ _ hPl, ot_self]
  · rw [cut66_xt _ _ _ hBl, ot_old (by show b7 ≠ b9; omega), ot_self]
/-- a machine wiped. -/
def VL.wipe (L : VL) (e : Nat) : VL := { L with A := fun i => if i = 11 then L.A 11 else (0, []), nt := 0, en := i64c e }
set_option maxHeartbeats 4000000 in
theorem wipe83 {E : VE} {w : World} {ow : Nat → Nat} {L : VL} {e : Nat} (h : VMV E w ow L) : Ret Tryz.prog 83 [ptr E.mb, i64c e] w (fun r w' => r = .tuple #[] ∧ VMV E w' ow (L.wipe e) ∧ Fram (one E.mb) w w') := by
  obtain ⟨V, U, h⟩ := h
  have hF : Fram (one E.mb) w w := Fram.refl _ _
  have hM := h.m
  have a2 := h.a 2 (.inl (by decide))
  have a3 := h.a 3 (.inl (by decide))
  have a4 := h.a 4 (.inl (by decide))
  have a5 := h.a 5 (.inl (by decide))
  have a6 := h.a 6 (.inl (by decide))
  have a7 := h.a 7 (.inl (by decide))
  have a8 := h.a 8 (.inl (by decide))
  have a11 := h.a 11 (.inr rfl)
  obtain ⟨g2, c2, e2⟩ := a2.form
  obtain ⟨g3, c3, e3⟩ := a3.form
  obtain ⟨g4, c4, e4⟩ := a4.form
  obtain ⟨g5, c5, e5⟩ := a5.form
  obtain ⟨g6, c6, e6⟩ := a6.form
  obtain ⟨g7, c7, e7⟩ := a7.form
  obtain ⟨g8, c8, e8⟩ := a8.form
  unfold mbc at hM
  rw [e2, e3, e4, e5, e6, e7, e8] at hM
  rw [e2] at a2
  rw [e3] at a3
  rw [e4] at a4
  rw [e5] at a5
  rw [e6] at a6
  rw [e7] at a7
  rw [e8] at a8
  have b2 := a2.take (Nat.zero_le _)
  have b3 := a3.take (Nat.zero_le _)
  have b4 := a4.take (Nat.zero_le _)
  have b5 := a5.take (Nat.zero_le _)
  have b6 := a6.take (Nat.zero_le _)
  have b7 := a7.take (Nat.zero_le _)
  have b8 := a8.take (Nat.zero_le _)
  rw [Nat.zero_mul, List.take_zero] at b2 b3 b4 b5 b6 b7 b8
  refine ret_of Tryz.func83 rfl Tryz.ntmps83 rfl ?_
  refine c_seq (fun K1 hK1 => ?_)
  refine c_reg ?_ -- region 0 vm.go:86
  refine wl (ro_move rfl) ?_
  refine wl (ro_move rfl) ?_
  refine wl (ro_nilCheck rfl) ?_
  refine wl (ro_fieldAddr (k := 2) rfl fo_89_2) ?_
  refine wl (ro_loadB rfl sc_81 (by assumption) rfl) ?_
  refine wl (ro_sliceH (h := 0) rfl rfl se_81 rfl (by omega)) ?_
  refine wl (ro_nilCheck rfl) ?_
  refine wl (ro_fieldAddr (k := 2) rfl fo_89_2) ?_
  refine wl_put rfl rfl rfl sz_81 hM (by simp) (rfl) (fun w1 hM F1 => ?_)
  replace hF := hF.thenDrew.thenO F1 (by first | exact .inr (by omega) | exact .inl rfl | exact .inl (by assumption) | assumption)
  refine wl_nil (x_then (hK1 _ _ ?_))
  clear hK1 K1
  refine forget [(0, _), (1, _)] ⟨rfl, rfl, trivial⟩ (fun e => ?_)
  refine c_seq (fun K2 hK2 => ?_)
  refine c_reg ?_ -- region 1 vm.go:87
  refine wl (ro_move rfl) ?_
  refine wl (ro_move rfl) ?_
  refine wl (ro_nilCheck rfl) ?_
  refine wl (ro_fieldAddr (k := 3) rfl fo_89_3) ?_
  refine wl (ro_loadB rfl sc_82 (by assumption) rfl) ?_
  refine wl (ro_sliceH (h := 0) rfl rfl se_82 rfl (by omega)) ?_
  refine wl (ro_nilCheck rfl) ?_
  refine wl (ro_fieldAddr (k := 3) rfl fo_89_3) ?_
  refine wl_put rfl rfl rfl sz_82 hM (by simp) (rfl) (fun w2 hM F2 => ?_)
  replace hF := hF.thenDrew.thenO F2 (by first | exact .inr (by omega) | exact .inl rfl | exact .inl (by assumption) | assumption)
  refine wl_nil (x_then (hK2 _ _ ?_))
  clear hK2 K2
  refine forget [(0, _), (1, _)] ⟨rfl, rfl, trivial⟩ (fun e => ?_)
  refine c_seq (fun K3 hK3 => ?_)
  refine c_reg ?_ -- region 2 vm.go:88
  refine wl (ro_move rfl) ?_
  refine wl (ro_move rfl) ?_
  refine wl (ro_nilCheck rfl) ?_
  refine wl (ro_fieldAddr (k := 4) rfl fo_89_4) ?_
  refine wl (ro_loadB rfl sc_83 (by assumption) rfl) ?_
  refine wl (ro_sliceH (h := 0) rfl rfl se_83 rfl (by omega)) ?_
  refine wl (ro_nilCheck rfl) ?_
  refine wl (ro_fieldAddr (k := 4) rfl fo_89_4) ?_
  refine wl_put rfl rfl rfl sz_83 hM (by simp) (rfl) (fun w3 hM F3 => ?_)
  replace hF := hF.thenDrew.thenO F3 (by first | exact .inr (by omega) | exact .inl rfl | exact .inl (by assumption) | assumption)
  refine wl_nil (x_then (hK3 _ _ ?_))
  clear hK3 K3
  refine forget [(0, _), (1, _)] ⟨rfl, rfl, trivial⟩ (fun e => ?_)
  refine c_seq (fun K4 hK4 => ?_)
  refine c_reg ?_ -- region 3 vm.go:89
  refine wl (ro_move rfl) ?_
  refine wl (ro_move rfl) ?_
  refine wl (ro_nilCheck rfl) ?_
  refine wl (ro_fieldAddr (k := 5) rfl fo_89_5) ?_
  refine wl (ro_loadB rfl sc_84 (by assumption) rfl) ?_
  refine wl (ro_sliceH (h := 0) rfl rfl se_84 rfl (by omega)) ?_
  refine wl (ro_nilCheck rfl) ?_
  refine wl (ro_fieldAddr (k := 5) rfl fo_89_5) ?_
  refine wl_put rfl rfl rfl sz_84 hM (by simp) (rfl) (fun w4 hM F4 => ?_)
  replace hF := hF.thenDrew.thenO F4 (by first | exact .inr (by omega) | exact .inl rfl | exact .inl (by assumption) | assumption)
  refine wl_nil (x_then (hK4 _ _ ?_))
  clear hK4 K4
  refine forget [(0, _), (1, _)] ⟨rfl, rfl, trivial⟩ (fun e => ?_)
  refine c_seq (fun K5 hK5 => ?_)
  refine c_reg ?_ -- region 4 vm.go:90
  refine wl (ro_move rfl) ?_
  refine wl (ro_move rfl) ?_
  refine wl (ro_nilCheck rfl) ?_
  refine wl (ro_fieldAddr (k := 6) rfl fo_89_6) ?_
  refine wl (ro_loadB rfl sc_85 (by assumption) rfl) ?_
  refine wl (ro_sliceH (h := 0) rfl rfl se_85 rfl (by omega)) ?_
  refine wl (ro_nilCheck rfl) ?_
  refine wl (ro_fieldAddr (k := 6) rfl fo_89_6) ?_
  refine wl_put rfl rfl rfl sz_85 hM (by simp) (rfl) (fun w5 hM F5 => ?_)
  replace hF := hF.thenDrew.thenO F5 (by first | exact .inr (by omega) | exact .inl rfl | exact .inl (by assumption) | assumption)
  refine wl_nil (x_then (hK5 _ _ ?_))
  clear hK5 K5
  refine forget [(0, _), (1, _)] ⟨rfl, rfl, trivial⟩ (fun e => ?_)
  refine c_seq (fun K6 hK6 => ?_)
  refine c_reg ?_ -- region 5 vm.go:91
  refine wl (ro_move rfl) ?_
  refine wl (ro_move rfl) ?_
  refine wl (ro_nilCheck rfl) ?_
  refine wl (ro_fieldAddr (k := 7) rfl fo_89_7) ?_
  refine wl (ro_loadB rfl sc_86 (by assumption) rfl) ?_
  refine wl (ro_sliceH (h := 0) rfl rfl se_86 rfl (by omega)) ?_
  refine wl (ro_nilCheck rfl) ?_
  refine wl (ro_fieldAddr (k := 7) rfl fo_89_7) ?_
  refine wl_put rfl rfl rfl sz_86 hM (by simp) (rfl) (fun w6 hM F6 => ?_)
  replace hF := hF.thenDrew.thenO F6 (by first | exact .inr (by omega) | exact .inl rfl | exact .inl (by assumption) | assumption)
  refine wl_nil (x_then (hK6 _ _ ?_))
  clear hK6 K6
  refine forget [(0, _), (1, _)] ⟨rfl, rfl, trivial⟩ (fun e => ?_)
  refine c_seq (fun K7 hK7 => ?_)
  refine c_reg ?_ -- region 6 vm.go:92
  refine wl (ro_move rfl) ?_
  refine wl (ro_move rfl) ?_
  refine wl (ro_nilCheck rfl) ?_
  refine wl (ro_fieldAddr (k := 8) rfl fo_89_8) ?_
  refine wl (ro_loadB rfl sc_87 (by assumption) rfl) ?_
  refine wl (ro_sliceH (h := 0) rfl rfl se_87 rfl (by omega)) ?_
  refine wl (ro_nilCheck rfl) ?_
  refine wl (ro_fieldAddr (k := 8) rfl fo_89_8) ?_
  refine wl_put rfl rfl rfl sz_87 hM (by simp) (rfl) (fun w7 hM F7 => ?_)
  replace hF := hF.thenDrew.thenO F7 (by first | exact .inr (by omega) | exact .inl rfl | exact .inl (by assumption) | assumption)
  refine wl_nil (x_then (hK7 _ _ ?_))
  clear hK7 K7
  refine forget [(0, _), (1, _)] ⟨rfl, rfl, trivial⟩ (fun e => ?_)
  refine c_seq (fun K8 hK8 => ?_)
  refine c_reg ?_ -- region 7 vm.go:93
  refine wl (ro_move rfl) ?_
  refine wl (ro_move rfl) ?_
  refine wl (ro_nilCheck rfl) ?_
  refine wl (ro_fieldAddr (k := 9) rfl fo_89_9) ?_
  refine wl (ro_loadB rfl sc_80 (by assumption) rfl) ?_
  refine wl (ro_sliceH (h := 0) rfl rfl se_80 rfl (by omega)) ?_
  refine wl (ro_nilCheck rfl) ?_
  refine wl (ro_fieldAddr (k := 9) rfl fo_89_9) ?_
  refine wl_put rfl rfl rfl sz_80 hM (by simp) (rfl) (fun w8 hM F8 => ?_)
  replace hF := hF.thenDrew.thenO F8 (by first | exact .inr (by omega) | exact .inl rfl | exact .inl (by assumption) | assumption)
  refine wl_nil (x_then (hK8 _ _ ?_))
  clear hK8 K8
  refine c_reg ?_ -- region 8 vm.go:94
  refine wl (ro_move rfl) ?_
  refine wl (ro_move rfl) ?_
  refine wl (ro_nilCheck rfl) ?_
  refine wl (ro_fieldAddr (k := 12) rfl fo_89_12) ?_
  refine wl_put rfl rfl rfl sz_54 hM (by simp) (rfl) (fun w9 hM F9 => ?_)
  replace hF := hF.thenDrew.thenO F9 (by first | exact .inr (by omega) | exact .inl rfl | exact .inl (by assumption) | assumption)
  refine wl_nil ?_
  refine bp_end Tryz.results83 rfl ?_
  refine ⟨rfl, ⟨fun i ↦ if i = 2 then .slice g2 0 c2 else if i = 3 then .slice g3 0 c3 else if i = 4 then .slice g4 0 c4 else if i = 5 then .slice g5 0 c5 else if i = 6 then .slice g6 0 c6 else if i = 7 then .slice g7 0 c7 else if i = 8 then .slice g8 0 c8 else V 11, U, h.all hF hM (fun i hi ↦ ?_) rfl rfl (Nat.zero_le _)⟩, hF⟩
  have hi : i = 2 ∨ i = 3 ∨ i = 4 ∨ i = 5 ∨ i = 6 ∨ i = 7 ∨ i = 8 ∨ i = 11 := by unfold vmI at hi; omega
  rcases hi with rfl | rfl | rfl | rfl | rfl | rfl | rfl | rfl
  · exact b2
  · exact b3
  · exact b4
  · exact b5
  · exact b6
  · exact b7
  · exact b8
  · exact a11
end Go.Proofs.Qxb6500568aGreatDoor
