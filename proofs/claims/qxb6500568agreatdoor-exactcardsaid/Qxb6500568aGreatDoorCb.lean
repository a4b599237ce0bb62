import Derived.Test.Qxb6500568aGreatDoorCa
import Derived.Test.Qxb6500568aGreatDoorUg
import Derived.Test.Qxb6500568aGreatDoorGd
/- Equality of values; keys. -/
namespace Go.Proofs.Qxb6500568aGreatDoor
open Ieee
set_option linter.unusedVariables false
set_option linter.unusedSimpArgs false

section
variable {P : Program} {n : Nat} {e : Nat → Option Value} {w : World}
theorem eqSt3q_run {t t0 t1 t2 : TypeId} {q q' : IntKind} {a0 a1 c0 c1 : Int} {a2 c2 : ByteArray} (ht : st3B P t t0 t1 t2 = true) (h0 : intB P t0 q = true) (h1 : intB P t1 q' = true) (h2 : strB P t2 = true) (k : Nat) :
    (Op.equalIn (k + 1 + 1) t (.agg #[.int q a0, .int q' a1, .string a2]) (.agg #[.int q c0, .int q' c1, .string c2])).run P w = .ok (a0 == c0 && a1 == c1 && a2 == c2) w := by
  obtain ⟨hs, f0, f1, f2, hu, n0, n1, n2, y0, y1, y2, o0, o1, o2⟩ := st3B_spec ht
  have u0 := intB_spec h0
  have u1 := intB_spec h1
  have u2 := strB_spec h2
  have g0 : ∀ w, (isAgg t0).run P w = .ok false w := fun w => by unfold isAgg; simp [run_underlying u0]
  have g1 : ∀ w, (isAgg t1).run P w = .ok false w := fun w => by unfold isAgg; simp [run_underlying u1]
  have g2 : ∀ w, (isAgg t2).run P w = .ok false w := fun w => by unfold isAgg; simp [run_underlying u2]
  have e0 : ∀ (a c : Int), (Op.equalIn (k + 1) t0 (.int q a) (.int q c)).run P w = .ok (a == c) w := fun a c => Go.run_equalIn_int w k t0 q q a c u0
  have e1 : ∀ (a c : Int), (Op.equalIn (k + 1) t1 (.int q' a) (.int q' c)).run P w = .ok (a == c) w := fun a c => Go.run_equalIn_int w k t1 q' q' a c u1
  have e2 : ∀ (a c : ByteArray), (Op.equalIn (k + 1) t2 (.string a) (.string c)).run P w = .ok (a == c) w := fun a c => by
    rw [Op.equalIn]
    simp only [Sem.run_bind, run_underlying u2, Result.andThen_ok]
    rfl
  rw [Op.equalIn]
  simp only [Sem.run_bind, run_underlying hu, Result.andThen_ok]
  by_cases k0 : a0 = c0
  · by_cases k1 : a1 = c1
    · cases k2 : (a2 == c2)
      · simp [part, hs, n0, n1, n2, y0, y1, y2, o0, o1, o2, g0, g1, g2, e0, e1, e2, k0, k1, k2]
      · simp [part, hs, n0, n1, n2, y0, y1, y2, o0, o1, o2, g0, g1, g2, e0, e1, e2, k0, k1, k2]
    · simp [part, hs, n0, n1, n2, y0, y1, y2, o0, o1, o2, g0, g1, g2, e0, e1, e2, k0, k1]
  · simp [part, hs, n0, n1, n2, y0, y1, y2, o0, o1, o2, g0, g1, g2, e0, e1, e2, k0]

def eqV (a b : PV) : Bool := @decide (a = b) (PV.dec a b)
theorem eqV_iff {a b : PV} : eqV a b = true ↔ a = b := by unfold eqV; exact @decide_eq_true_iff _ (PV.dec a b)
theorem pv_eq {a b : PV} : a = b ↔ a.T = b.T ∧ a.N = b.N ∧ a.S = b.S := ⟨fun h => by rw [h]; exact ⟨rfl, rfl, rfl⟩, fun ⟨h1, h2, h3⟩ => by cases a; cases b; simp at h1 h2 h3; rw [h1, h2, h3]⟩
theorem run_eqPV (a b : PV) (k : Nat) : (Op.equalIn (k + 1 + 1) 119 (pv a) (pv b)).run Tryz.prog w = .ok (eqV a b) w := by
  have := eqSt3q_run (P := Tryz.prog) (w := w) (t := 119) (t0 := 3) (t1 := 117) (t2 := 9) (q := .i64) (q' := .u64) (a0 := a.T) (a1 := a.N) (c0 := b.T) (c1 := b.N) (a2 := ⟨a.S.toArray⟩) (c2 := ⟨b.S.toArray⟩) (by kernel_rfl) in_3 in_117 st_9 k
  have e : (((a.T : Int) == (b.T : Int)) && ((a.N : Int) == (b.N : Int)) && ((⟨a.S.toArray⟩ : ByteArray) == ⟨b.S.toArray⟩)) = eqV a b := by
    rw [ba_beq, Bool.eq_iff_iff, eqV_iff, pv_eq]
    simp only [Bool.and_eq_true, beq_iff_eq, decide_eq_true_eq, and_assoc, Int.natCast_inj]
  rw [e] at this
  exact this
theorem ro_eqPV {op : BinOp} {t' : TypeId} {x y : Operand} {a b : PV} {r : Bool} (hx : evO n e x = some (pv a)) (hy : evO n e y = some (pv b))
    (hr : (match op with | .eql => some (eqV a b) | .neq => some (!eqV a b) | _ => none) = some r) : RO Tryz.prog n e w (.binOp op 119 x y t') (.bool r) := by
  intro ds dst ty ps af g
  have key : (Op.equal 119 (pv a) (pv b)).run Tryz.prog w = .ok (eqV a b) w := run_eqPV a b 9998
  have hg : Tryz.prog.eqGuardType Tryz.prog.depth 119 = false := by kernel_rfl
  unfold pv at *
  cases op <;> simp at hr <;> simp [execOp, evO_eval hx, evO_eval hy, eqGuard, hg, binOp, key, hr]
end

theorem isNil146 {w : World} {v : PV} : Ret Tryz.prog 146 [pv v] w (fun r w' => r = .bool (eqV v vNil) ∧ Fram none' w w') := by
  have hF : Fram none' w w := Fram.refl _ _
  refine ret_of Tryz.func146 rfl Tryz.ntmps146 rfl ?_
  refine c_seq (fun K1 hK1 => ?_)
  refine c_reg ?_ -- region 0 index.go:8
  refine wl_box rfl rfl (fun b1 w1 hbb1 h1 F1 => ?_)
  have hbsb1 := Nat.le_trans hF.size hbb1
  replace hF := hF.thenDrew.thenN F1
  refine wl (ro_assign rfl) ?_
  refine wl_nil (x_then (hK1 _ _ ?_))
  clear hK1 K1
  refine forget [(1, _)] ⟨rfl, trivial⟩ (fun e => ?_)
  refine c_seq (fun K2 hK2 => ?_)
  refine c_reg ?_ -- region 1 index.go:8
  refine wl (ro_loadAggB rfl ag_119 (by assumption) rfl rfl) ?_
  refine wl (ro_build rfl bld_119) ?_
  refine wl (ro_eqPV (a := v) (b := vNil) rfl rfl rfl) ?_
  refine wl (ro_assign rfl) ?_
  refine wl_nil (x_then (hK2 _ _ ?_))
  clear hK2 K2
  refine c_ret ?_
  refine bp_ret Tryz.results146 rfl ?_
  exact ⟨rfl, hF⟩
theorem nil_T {v : PV} (h : wfV v = true) : v = vNil ↔ v.T = 0 := by
  constructor
  · rintro rfl; rfl
  · intro h0
    unfold wfV at h
    rw [if_neg (by omega)] at h
    split at h
    · rename_i hs
      exact pv_eq.2 ⟨h0, by simpa [vNil] using h, hs.1⟩
    · cases h
theorem eqV_nil {v : PV} (h : wfV v = true) : eqV v vNil = decide (v.T = 0) := by
  rw [Bool.eq_iff_iff, eqV_iff, decide_eq_true_eq, nil_T h]
theorem pack201 {w : World} {k : PV} (hT : k.T ≤ 7) (hN : k.N < 4294967296) : Ret Tryz.prog 201 [pv k] w (fun r w' => r = u64c (packV k) ∧ Fram none' w w') := by
  have hF : Fram none' w w := Fram.refl _ _
  refine ret_of Tryz.func201 rfl Tryz.ntmps201 rfl ?_
  refine c_seq (fun K1 hK1 => ?_)
  refine c_reg ?_ -- region 0 index.go:12
  refine wl_box rfl rfl (fun b1 w1 hbb1 h1 F1 => ?_)
  have hbsb1 := Nat.le_trans hF.size hbb1
  replace hF := hF.thenDrew.thenN F1
  refine wl (ro_assign rfl) ?_
  refine wl_nil (x_then (hK1 _ _ ?_))
  clear hK1 K1
  refine forget [(1, _)] ⟨rfl, trivial⟩ (fun e => ?_)
  refine c_seq (fun K2 hK2 => ?_)
  refine c_reg ?_ -- region 1 index.go:12
  refine wl (ro_fieldAddr (k := 0) rfl fo_119_0) ?_
  refine wl (ro_loadB rfl sc_3 (by assumption) rfl) ?_
  refine wl (ro_conv rfl sc_3 in_117 (Go.IntWalk.u64_in _ (by omega))) ?_
  refine wl (ro_shlU (a := k.T) (b := 32) rfl rfl (by decide)) ?_
  refine wl (ro_fieldAddr (k := 1) rfl fo_119_1) ?_
  refine wl (ro_loadB rfl sc_117 (by assumption) rfl) ?_
  refine wl (ro_orU (a := (k.T * 2 ^ 32) % 2 ^ 64) (b := k.N) rfl rfl (by omega) (by omega)) ?_
  refine wl (ro_assign rfl) ?_
  refine wl_nil (x_then (hK2 _ _ ?_))
  clear hK2 K2
  refine c_ret ?_
  refine bp_ret Tryz.results201 rfl ?_
  refine ⟨congrArg u64c ?_, hF⟩
  unfold packV
  rw [Nat.mod_eq_of_lt (by omega), Nat.mul_comm, ← Nat.two_pow_add_eq_or_of_lt (i := 32) (by omega)]
theorem norm54 {w : World} {k : PV} : Ret Tryz.prog 54 [pv k] w (fun r w' => r = pv (nrmK k) ∧ Fram none' w w') := by
  have hF : Fram none' w w := Fram.refl _ _
  refine ret_of Tryz.func54 rfl Tryz.ntmps54 rfl ?_
  refine c_seq (fun K1 hK1 => ?_)
  refine c_reg ?_ -- region 0 tablem.go:37
  refine wl_box rfl rfl (fun b1 w1 hbb1 h1 F1 => ?_)
  have hbsb1 := Nat.le_trans hF.size hbb1
  replace hF := hF.thenDrew.thenN F1
  refine wl_new (ze_119) (fun b2 w2 hbb2 h2 F2 => ?_)
  have hbsb2 := Nat.le_trans hF.size hbb2
  have hneb1b2 : b1 < b2 := Nat.lt_of_lt_of_le h1.lt hbb2
  replace hF := hF.thenDrew.thenN F2
  replace h1 := F2.blkN h1
  refine wl_nil (x_then (hK1 _ _ ?_))
  clear hK1 K1
  refine c_seq (fun K2 hK2 => ?_)
  refine c_seq (fun K3 hK3 => ?_)
  refine c_reg ?_ -- region 1 tablem.go:38
  refine wl (ro_fieldAddr (k := 0) rfl fo_119_0) ?_
  refine wl (ro_loadB rfl sc_3 (by assumption) rfl) ?_
  refine wl (ro_cmp rfl rfl rfl) ?_
  refine wl_fork rfl (fun hg6 => ?_) (fun hg6 => ?_)
  · try simp only [decide_eq_true_eq, decide_eq_false_iff_not, Bool.not_eq_true', Bool.not_eq_false', Bool.not_eq_eq_eq_not, Bool.not_true, Bool.not_false, beq_iff_eq, bne_iff_ne, ne_eq, beq_eq_false_iff_ne, bne_eq_false_iff_eq, gt_iff_lt, ge_iff_le, Int.not_lt, Int.not_le] at hg6
    refine wlg_yes rfl (ro_fieldAddr (k := 1) rfl fo_119_1) ?_
    refine wlg_yes rfl (ro_loadB rfl sc_117 (by assumption) rfl) ?_
    refine wlg_yes rfl (ro_cmpU rfl rfl rfl) ?_
    refine wl (ro_pick rfl rfl rfl) ?_
    refine wl_nil (x_then (hK3 _ _ ?_))
    clear hK3 K3
    refine wc_cond rfl (fun hc10 => ?_) (fun hc10 => ?_)
    · try simp only [decide_eq_true_eq, decide_eq_false_iff_not, Bool.not_eq_true', Bool.not_eq_false', Bool.not_eq_eq_eq_not, Bool.not_true, Bool.not_false, beq_iff_eq, bne_iff_ne, ne_eq, beq_eq_false_iff_ne, bne_eq_false_iff_eq, gt_iff_lt, ge_iff_le, Int.not_lt, Int.not_le] at hc10
      refine c_reg ?_ -- region 2 tablem.go:39
      refine wl (ro_fieldAddr (k := 1) rfl fo_119_1) ?_
      refine wl_put rfl rfl rfl sz_117 h1 (by simp) (rfl) (fun w3 h1 F3 => ?_)
      replace hF := hF.thenDrew.thenO F3 (by first | exact .inr (by omega) | exact .inl rfl | exact .inl (by assumption) | assumption)
      replace h2 := F3.blkO h2 (by omega)
      refine wl_nil (x_then (hK2 _ _ ?_))
      clear hK2 K2
      refine forget [(1, _), (2, _)] ⟨rfl, rfl, trivial⟩ (fun e => ?_)
      refine c_seq (fun K4 hK4 => ?_)
      refine c_reg ?_ -- region 3 tablem.go:41
      refine wl (ro_loadAggB rfl ag_119 (by assumption) rfl rfl) ?_
      refine wl_puta rfl rfl ((by simp [pvc, Value.oneCell', i64c, u64c, S])) sz_119 (rfl) h2 ((by simp)) (rfl) (fun w4 h2 F4 => ?_)
      replace hF := hF.thenDrew.thenO F4 (by first | exact .inr (by omega) | exact .inl rfl | exact .inl (by assumption) | assumption)
      replace h1 := F4.blkO h1 (by omega)
      refine wl_nil (x_then (hK4 _ _ ?_))
      clear hK4 K4
      refine c_ret ?_
      refine bq_ret (res1 Tryz.results54 (rv_c rfl ag_119 (h2) (rfl))) ?_
      exact ⟨by unfold nrmK; rw [if_pos ⟨by omega, hc10⟩, ← show k.T = 2 by omega]; rfl, hF⟩
    · try simp only [decide_eq_true_eq, decide_eq_false_iff_not, Bool.not_eq_true', Bool.not_eq_false', Bool.not_eq_eq_eq_not, Bool.not_true, Bool.not_false, beq_iff_eq, bne_iff_ne, ne_eq, beq_eq_false_iff_ne, bne_eq_false_iff_eq, gt_iff_lt, ge_iff_le, Int.not_lt, Int.not_le] at hc10
      refine c_skip (x_then (hK2 _ _ ?_))
      clear hK2 K2
      refine forget [(1, _), (2, _)] ⟨rfl, rfl, trivial⟩ (fun e => ?_)
      refine c_seq (fun K5 hK5 => ?_)
      refine c_reg ?_ -- region 3 tablem.go:41
      refine wl (ro_loadAggB rfl ag_119 (by assumption) rfl rfl) ?_
      refine wl_puta rfl rfl ((by simp [pvc, Value.oneCell', i64c, u64c, S])) sz_119 (rfl) h2 ((by simp)) (rfl) (fun w5 h2 F5 => ?_)
      replace hF := hF.thenDrew.thenO F5 (by first | exact .inr (by omega) | exact .inl rfl | exact .inl (by assumption) | assumption)
      replace h1 := F5.blkO h1 (by omega)
      refine wl_nil (x_then (hK5 _ _ ?_))
      clear hK5 K5
      refine c_ret ?_
      refine bq_ret (res1 Tryz.results54 (rv_c rfl ag_119 (h2) (rfl))) ?_
      exact ⟨by unfold nrmK; rw [if_neg (fun h => hc10 h.2)]; rfl, hF⟩
  · try simp only [decide_eq_true_eq, decide_eq_false_iff_not, Bool.not_eq_true', Bool.not_eq_false', Bool.not_eq_eq_eq_not, Bool.not_true, Bool.not_false, beq_iff_eq, bne_iff_ne, ne_eq, beq_eq_false_iff_ne, bne_eq_false_iff_eq, gt_iff_lt, ge_iff_le, Int.not_lt, Int.not_le] at hg6
    refine wlg_no rfl ?_
    refine wlg_no rfl ?_
    refine wlg_no rfl ?_
    refine wl (ro_pick rfl rfl rfl) ?_
    refine wl_nil (x_then (hK3 _ _ ?_))
    clear hK3 K3
    refine wc_condF rfl ?_
    refine c_skip (x_then (hK2 _ _ ?_))
    clear hK2 K2
    refine forget [(1, _), (2, _)] ⟨rfl, rfl, trivial⟩ (fun e => ?_)
    refine c_seq (fun K6 hK6 => ?_)
    refine c_reg ?_ -- region 3 tablem.go:41
    refine wl (ro_loadAggB rfl ag_119 (by assumption) rfl rfl) ?_
    refine wl_puta rfl rfl ((by simp [pvc, Value.oneCell', i64c, u64c, S])) sz_119 (rfl) h2 ((by simp)) (rfl) (fun w6 h2 F6 => ?_)
    replace hF := hF.thenDrew.thenO F6 (by first | exact .inr (by omega) | exact .inl rfl | exact .inl (by assumption) | assumption)
    replace h1 := F6.blkO h1 (by omega)
    refine wl_nil (x_then (hK6 _ _ ?_))
    clear hK6 K6
    refine c_ret ?_
    refine bq_ret (res1 Tryz.results54 (rv_c rfl ag_119 (h2) (rfl))) ?_
    exact ⟨by unfold nrmK; rw [if_neg (fun h => by omega)]; rfl, hF⟩

end Go.Proofs.Qxb6500568aGreatDoor
