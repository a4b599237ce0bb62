import Derived.Test.Qxb6500568aGreatDoorTd
import Derived.Test.Qxb6500568aGreatDoorJk
import Derived.Test.Qxb6500568aGreatDoorRj
import Derived.LaidEqlPtr
/- The check of the compiler: fits, closed. -/
namespace Go.Proofs.Qxb6500568aGreatDoor
open Ieee
set_option linter.unusedVariables false
set_option linter.unusedSimpArgs false
set_option linter.unusedSectionVars false

/-- what a compiler at rest, behind a compilation, holds of function j. -/
structure FV (w : World) (ow : Nat → Nat) (cb gb : Nat) (sp dp bv : Value) (t : Tr) (k : Nat) (R : List ZRow) (j : Nat) (r : ZRow) (m : ZFn) : Prop where
  hC : Blk w.heap cb [sp, dp, .slice none 0 0, .slice (some ⟨gb, 0, none⟩) 13 13, i64c (k + 1), bv] 94
  hR : R.length = 13
  hG : Blk w.heap gb (rws fnc R) 199
  hr : R[j]? = some r
  jk : j ≤ k
  k12 : k ≤ 12
  fm : FnM (zE cb gb sp dp bv) w ow j r m
  lp : m.lps = []
  fo : FnO (zP cb gb t) w ow (progF t (k + 1)) j r m
  co : m.code = (fsAt (progF t (k + 1)) j).code
  lo : m.loc.length = (fsAt (progF t (k + 1)) j).np
  ck : FcO (progF t (k + 1)) (paF (paL t 0)) j
section
variable {w w' : World} {ow : Nat → Nat} {cb gb : Nat} {sp dp bv : Value} {t : Tr} {k : Nat} {R : List ZRow} {j : Nat} {r : ZRow} {m : ZFn}
theorem FV.farN (h : FV w ow cb gb sp dp bv t k R j r m) (f : Fram none' w w') : FV w' ow cb gb sp dp bv t k R j r m :=
  ⟨f.blkN h.hC, h.hR, f.blkN h.hG, h.hr, h.jk, h.k12, h.fm.far f (fun _ _ _ q => q) (Xt.refl _ _), h.lp, h.fo.far f (fun _ _ _ q => q) (Xt.refl _ _), h.co, h.lo, h.ck⟩
theorem FV.cell (h : FV w ow cb gb sp dp bv t k R j r m) (o : Nat) (ho : o < 11) {v : Value} (hv : (fnc r)[o]? = some v) : (rws fnc R)[j * 11 + o]? = some v := by
  have := row_cell3 (o := j * 11) (rws_at fnc_len h.hr) hv
  exact this
theorem FV.c0 (h : FV w ow cb gb sp dp bv t k R j r m) : (rws fnc R)[j * 11 + 0]? = some (ptr cb) := h.cell 0 (by decide) (by show some r.c = _; rw [h.fo.c]; rfl)
theorem FV.c1 (h : FV w ow cb gb sp dp bv t k R j r m) : (rws fnc R)[j * 11 + 1]? = some (if j = 0 then .pointer none else ptrAt gb (paF (paL t 0) j * 11)) := h.cell 1 (by decide) (by show some r.par = _; rw [h.fo.par]; rfl)
theorem FV.c2 (h : FV w ow cb gb sp dp bv t k R j r m) : (rws fnc R)[j * 11 + 2]? = some (i64c (fsAt (progF t (k + 1)) j).np) := h.cell 2 (by decide) (by show some r.np = _; rw [h.fo.np])
theorem FV.c3 (h : FV w ow cb gb sp dp bv t k R j r m) : ∃ a c, (rws fnc R)[j * 11 + 3]? = some (.slice a (fsAt (progF t (k + 1)) j).np c) := by
  obtain ⟨a, c, q⟩ := h.fm.loc.form
  rw [h.lo] at q
  exact ⟨a, c, h.cell 3 (by decide) (by show some r.loc = _; rw [q])⟩
theorem FV.c4 (h : FV w ow cb gb sp dp bv t k R j r m) : (rws fnc R)[j * 11 + 4]? = some (i64c (fsAt (progF t (k + 1)) j).ns) := h.cell 4 (by decide) (by show some r.ns = _; rw [h.fo.ns])
theorem FV.c5 (h : FV w ow cb gb sp dp bv t k R j r m) : ∃ a c, (rws fnc R)[j * 11 + 5]? = some (.slice a (fsAt (progF t (k + 1)) j).ups.length c) ∧ OwT w ow (220 + j) (.slice a (fsAt (progF t (k + 1)) j).ups.length c) 205 2 (fsAt (progF t (k + 1)) j).ups.length (rws upc (fsAt (progF t (k + 1)) j).ups) := by
  have q0 := h.fm.ups
  rw [h.fo.ups] at q0
  obtain ⟨a, c, q⟩ := q0.form
  rw [q] at q0
  exact ⟨a, c, h.cell 5 (by decide) (by show some r.ups = _; rw [q]), q0⟩
theorem FV.c6 (h : FV w ow cb gb sp dp bv t k R j r m) : ∃ a c, (rws fnc R)[j * 11 + 6]? = some (.slice a (fsAt (progF t (k + 1)) j).ks.length c) ∧ OwT w ow (240 + j) (.slice a (fsAt (progF t (k + 1)) j).ks.length c) 119 3 (fsAt (progF t (k + 1)) j).ks.length (rws pvc (fsAt (progF t (k + 1)) j).ks) := by
  have q0 := h.fm.ks
  rw [h.fo.ks] at q0
  obtain ⟨a, c, q⟩ := q0.form
  rw [q] at q0
  exact ⟨a, c, h.cell 6 (by decide) (by show some r.ks = _; rw [q]), q0⟩
theorem FV.c9 (h : FV w ow cb gb sp dp bv t k R j r m) : ∃ a c, (rws fnc R)[j * 11 + 9]? = some (.slice a (fsAt (progF t (k + 1)) j).code.length c) ∧ OwT w ow (260 + j) (.slice a (fsAt (progF t (k + 1)) j).code.length c) 203 2 (fsAt (progF t (k + 1)) j).code.length (rws inc (fsAt (progF t (k + 1)) j).code) := by
  have q0 := h.fm.code
  rw [h.co] at q0
  obtain ⟨a, c, q⟩ := q0.form
  rw [q] at q0
  exact ⟨a, c, h.cell 9 (by decide) (by show some r.code = _; rw [q]), q0⟩
theorem FV.c10 (h : FV w ow cb gb sp dp bv t k R j r m) : ∃ a c, (rws fnc R)[j * 11 + 10]? = some (.slice a 0 c) := by
  obtain ⟨rows, q0, -⟩ := h.fm.lps
  obtain ⟨a, c, q⟩ := q0.form
  rw [h.lp] at q
  exact ⟨a, c, h.cell 10 (by decide) (by show some r.lps = _; rw [q]; rfl)⟩
theorem FV.j13 (h : FV w ow cb gb sp dp bv t k R j r m) : j < 13 := by have := h.jk; have := h.k12; omega
end
/-- what an instruction's operand keeps to. -/
structure InsX (p : Proto) (M : Nat) (cl : Nat → Prop) (op x : Nat) : Prop where
  i1 : op = 1 → x < p.ks.length
  ig : op = 9 ∨ op = 10 → ∃ s, p.ks[x]? = some (vStr s)
  il : op = 5 ∨ op = 6 ∨ op = 29 → x < p.ns
  fr : op = 30 ∨ op = 31 ∨ op = 32 → x + 3 < p.ns
  iu : op = 7 ∨ op = 8 → x < p.ups.length
  ia : op = 15 ∨ op = 16 → 1 ≤ x ∧ x ≤ 6
  ij : op = 21 ∨ op = 22 ∨ op = 23 ∨ op = 24 → x ≤ M
  ik : op = 26 → x ≤ 3
  ii : op = 13 → 1 ≤ x ∧ x ≤ 300
  ic : op = 28 → cl x
  i0 : op ≠ 1 → op ≠ 9 → op ≠ 10 → op ≠ 5 → op ≠ 6 → op ≠ 29 → op ≠ 30 → op ≠ 31 → op ≠ 32 → op ≠ 7 → op ≠ 8 → op ≠ 15 → op ≠ 16 → op ≠ 21 → op ≠ 22 → op ≠ 23 → op ≠ 24 → op ≠ 26 → op ≠ 13 → op ≠ 28 → 1 ≤ op ∧ op ≤ 32 ∧ x = 0
theorem InsOK.x {p : Proto} {M : Nat} {cl : Nat → Prop} {op x : Nat} (h : InsOK p M cl (op, x)) : InsX p M cl op x := by
  unfold InsOK at h
  refine ⟨fun e => ?_, fun e => ?_, fun e => ?_, fun e => ?_, fun e => ?_, fun e => ?_, fun e => ?_, fun e => ?_, fun e => ?_, fun e => ?_, fun e1 e2 e3 e4 e5 e6 e7 e8 e9 e10 e11 e12 e13 e14 e15 e16 e17 e18 e19 e20 => ?_⟩
  · subst e; simpa using h
  · rcases e with rfl | rfl <;> simpa using h
  · rcases e with rfl | rfl | rfl <;> simpa using h
  · rcases e with rfl | rfl | rfl <;> simpa using h
  · rcases e with rfl | rfl <;> simpa using h
  · rcases e with rfl | rfl <;> simpa using h
  · rcases e with rfl | rfl | rfl | rfl <;> simpa using h
  · subst e; simpa using h
  · subst e; simpa using h
  · subst e; simpa using h
  · simpa [e1, e2, e3, e4, e5, e6, e7, e8, e9, e10, e11, e12, e13, e14, e15, e16, e17, e18, e19, e20] using h
theorem ro_eqPtr {n : Nat} {e : Nat → Option Value} {w : World} {t' : TypeId} {x y : Operand} {p : Addr} (hx : evO n e x = some (.pointer (some p))) (hy : evO n e y = some (.pointer (some p))) : RO Tryz.prog n e w (.binOp .eql 128 x y t') (.bool true) := by
  intro ds dst ty ps af g
  have hp : Tryz.prog.underlying 128 = some (.pointer 199) := by kernel_rfl
  have hi : (Tryz.prog.info? 199).isSome = true := by kernel_rfl
  obtain ⟨j, hj⟩ := Option.isSome_iff_exists.1 hi
  simp [execOp, evO_eval hx, evO_eval hy, eqGuard, run_eql_ptr_same w p hp hj]
section
variable {w : World} {ow : Nat → Nat} {cb gb : Nat} {sp dp bv : Value} {t : Tr} {k : Nat} {R : List ZRow} {j : Nat} {r : ZRow} {m : ZFn} {op x z : Nat}
set_option maxHeartbeats 4000000 in
theorem fit_1 (h : FV w ow cb gb sp dp bv t k R j r m) (hz : (fsAt (progF t (k + 1)) j).code.length = z + 3) (hi : InsX (protoOf (fsAt (progF t (k + 1)) j)) z (clO (Psf (progF t (k + 1))) (paF (paL t 0)) j) 1 x) (h16 : x < 65535) (hln : (progF t (k + 1)).length = k + 1) :
    Ret Tryz.prog 154 [ptrAt gb (j * 11), .agg #[u8n 1, u16c x]] w (fun r w' => r = .bool true ∧ Fram none' w w') := by
  have hF : Fram none' w w := Fram.refl _ _
  have hC := h.hC
  have hG := h.hG
  have c0 := h.c0
  have c4 := h.c4
  obtain ⟨ua, uc, c5, -⟩ := h.c5
  obtain ⟨ka, kc, c6, oK⟩ := h.c6
  obtain ⟨ca, cc, c9, -⟩ := h.c9
  have hq : x < (fsAt (progF t (k + 1)) j).ks.length := hi.i1 rfl
  refine ret_of Tryz.func154 rfl Tryz.ntmps154 rfl ?_
  refine c_seq (fun K1 hK1 => ?_)
  refine c_reg ?_ -- region 0 check.go:128
  refine wl_box (cs := [u8n 1, u16c x]) rfl rfl (fun b3 w1 hbb3 h3 F1 => ?_)
  have hbsb3 := Nat.le_trans hF.size hbb3
  have hnecbb3 : cb < b3 := Nat.lt_of_lt_of_le hC.lt hbb3
  have hnegbb3 : gb < b3 := Nat.lt_of_lt_of_le hG.lt hbb3
  replace hF := hF.thenDrew.thenN F1
  replace hC := F1.blkN hC
  replace hG := F1.blkN hG
  refine wl (ro_assign rfl) ?_
  refine wl_nil (x_then (hK1 _ _ ?_))
  clear hK1 K1
  refine forget [(0, _), (3, _)] ⟨rfl, rfl, trivial⟩ (fun e => ?_)
  refine c_seq (fun K2 hK2 => ?_)
  refine c_reg ?_ -- region 1 check.go:129
  refine wl (ro_fieldAddr (k := 1) rfl fo_203_1) ?_
  refine wl (ro_loadB rfl sc_201 (h3) (rfl)) ?_
  refine wl (ro_conv (a := (x : Int)) rfl sc_201 in_3 (Go.IntWalk.i64_in _ (by omega))) ?_
  refine wl (ro_assign rfl) ?_
  refine wl_nil (x_then (hK2 _ _ ?_))
  clear hK2 K2
  refine c_seq (fun K3 hK3 => ?_)
  refine c_seq (fun K4 hK4 => ?_)
  refine c_reg ?_ -- region 2 check.go:130
  refine wl (ro_fieldAddr (k := 0) rfl fo_203_0) ?_
  refine wl (ro_loadB rfl sc_5 (h3) (rfl)) ?_
  refine wl_nil (x_then (hK4 _ _ ?_))
  clear hK4 K4
  refine c_block ?_
  refine forget [(0, _), (3, _), (5, _), (10, _)] ⟨rfl, rfl, rfl, rfl, trivial⟩ (fun e => ?_)
  refine c_seq (fun K5 hK5 => ?_)
  refine c_reg ?_ -- region 3 check.go:131
  refine wl (ro_cmp rfl rfl rfl) ?_
  refine wl (ro_assign rfl) ?_
  refine wl_nil (x_then (hK5 _ _ ?_))
  clear hK5 K5
  refine wc_condT rfl ?_
  refine c_seq (fun K6 hK6 => ?_)
  refine c_reg ?_ -- region 4 check.go:132
  refine wl (ro_move rfl) ?_
  refine wl (ro_move rfl) ?_
  refine wl (ro_nilCheck rfl) ?_
  refine wl (ro_fieldAddr (k := 6) rfl fo_199_6) ?_
  refine wl (ro_loadB rfl sc_83 (hG) (c6)) ?_
  refine wl (ro_lenL rfl se_83) ?_
  refine wl (ro_cmp rfl rfl rfl) ?_
  refine wl (ro_assign rfl) ?_
  refine wl_nil (x_then (hK6 _ _ ?_))
  clear hK6 K6
  refine c_ret (x_blkR (x_thenR ?_))
  refine bp_ret Tryz.results154 rfl ?_
  exact ⟨congrArg Value.bool (decide_eq_true (by omega)), hF⟩
set_option maxHeartbeats 4000000 in
theorem fit_9 (h : FV w ow cb gb sp dp bv t k R j r m) (hz : (fsAt (progF t (k + 1)) j).code.length = z + 3) (hi : InsX (protoOf (fsAt (progF t (k + 1)) j)) z (clO (Psf (progF t (k + 1))) (paF (paL t 0)) j) 9 x) (h16 : x < 65535) (hln : (progF t (k + 1)).length = k + 1) :
    Ret Tryz.prog 154 [ptrAt gb (j * 11), .agg #[u8n 9, u16c x]] w (fun r w' => r = .bool true ∧ Fram none' w w') := by
  have hF : Fram none' w w := Fram.refl _ _
  have hC := h.hC
  have hG := h.hG
  have c0 := h.c0
  have c4 := h.c4
  obtain ⟨ua, uc, c5, -⟩ := h.c5
  obtain ⟨ka, kc, c6, oK⟩ := h.c6
  obtain ⟨ca, cc, c9, -⟩ := h.c9
  obtain ⟨s, hs⟩ := hi.ig (by decide)
  have hs : (fsAt (progF t (k + 1)) j).ks[x]? = some (vStr s) := hs
  have hxl := (List.getElem?_eq_some_iff.1 hs).1
  obtain ⟨kg, kcap, kl, ev, hKb, k1, k2, k3, k4, k5⟩ := OwT.at pvc_len oK hs
  cases ev
  refine ret_of Tryz.func154 rfl Tryz.ntmps154 rfl ?_
  refine c_seq (fun K1 hK1 => ?_)
  refine c_reg ?_ -- region 0 check.go:128
  refine wl_box (cs := [u8n 9, u16c x]) rfl rfl (fun b3 w1 hbb3 h3 F1 => ?_)
  have hbsb3 := Nat.le_trans hF.size hbb3
  have hnecbb3 : cb < b3 := Nat.lt_of_lt_of_le hC.lt hbb3
  have hnegbb3 : gb < b3 := Nat.lt_of_lt_of_le hG.lt hbb3
  have hnekgb3 : kg < b3 := Nat.lt_of_lt_of_le hKb.lt hbb3
  replace hF := hF.thenDrew.thenN F1
  replace hC := F1.blkN hC
  replace hG := F1.blkN hG
  replace hKb := F1.blkN hKb
  refine wl (ro_assign rfl) ?_
  refine wl_nil (x_then (hK1 _ _ ?_))
  clear hK1 K1
  refine forget [(0, _), (3, _)] ⟨rfl, rfl, trivial⟩ (fun e => ?_)
  refine c_seq (fun K2 hK2 => ?_)
  refine c_reg ?_ -- region 1 check.go:129
  refine wl (ro_fieldAddr (k := 1) rfl fo_203_1) ?_
  refine wl (ro_loadB rfl sc_201 (h3) (rfl)) ?_
  refine wl (ro_conv (a := (x : Int)) rfl sc_201 in_3 (Go.IntWalk.i64_in _ (by omega))) ?_
  refine wl (ro_assign rfl) ?_
  refine wl_nil (x_then (hK2 _ _ ?_))
  clear hK2 K2
  refine c_seq (fun K3 hK3 => ?_)
  refine c_seq (fun K4 hK4 => ?_)
  refine c_reg ?_ -- region 2 check.go:130
  refine wl (ro_fieldAddr (k := 0) rfl fo_203_0) ?_
  refine wl (ro_loadB rfl sc_5 (h3) (rfl)) ?_
  refine wl_nil (x_then (hK4 _ _ ?_))
  clear hK4 K4
  refine c_block ?_
  refine forget [(0, _), (3, _), (5, _), (10, _)] ⟨rfl, rfl, rfl, rfl, trivial⟩ (fun e => ?_)
  refine c_seq (fun K5 hK5 => ?_)
  refine c_reg ?_ -- region 3 check.go:131
  refine wl (ro_cmp rfl rfl rfl) ?_
  refine wl (ro_assign rfl) ?_
  refine wl_nil (x_then (hK5 _ _ ?_))
  clear hK5 K5
  refine wc_condF rfl ?_
  refine c_seq (fun K6 hK6 => ?_)
  refine c_seq (fun K7 hK7 => ?_)
  refine c_reg ?_ -- region 5 check.go:133
  refine wl (ro_cmp rfl rfl rfl) ?_
  refine wl (ro_assign rfl) ?_
  refine wl_nil (x_then (hK7 _ _ ?_))
  clear hK7 K7
  refine wc_condT rfl ?_
  refine c_skip (x_then (hK6 _ _ ?_))
  clear hK6 K6
  refine wc_condT rfl ?_
  refine c_seq (fun K8 hK8 => ?_)
  refine c_reg ?_ -- region 7 check.go:134
  refine wl (ro_move rfl) ?_
  refine wl (ro_move rfl) ?_
  refine wl (ro_nilCheck rfl) ?_
  refine wl (ro_fieldAddr (k := 6) rfl fo_199_6) ?_
  refine wl (ro_loadB rfl sc_83 (hG) (c6)) ?_
  refine wl (ro_lenL rfl se_83) ?_
  refine wl (ro_cmp (r := true) rfl rfl (congrArg some (decide_eq_true (by omega)))) ?_
  refine wl (ro_move rfl) ?_
  refine wlg_yes rfl (ro_move rfl) ?_
  refine wlg_yes rfl (ro_nilCheck rfl) ?_
  refine wlg_yes rfl (ro_fieldAddr (k := 6) rfl fo_199_6) ?_
  refine wlg_yes rfl (ro_loadB rfl sc_83 (hG) (c6)) ?_
  refine wlg_yes rfl (ro_move rfl) ?_
  refine wlg_yes rfl (ro_indexAddr (et := 119) (k := 3) rfl rfl se_83 (rfl) (hxl)) ?_
  refine wlg_yes rfl (ro_fieldAddr (k := 0) rfl fo_119_0) ?_
  refine wlg_yes rfl (ro_loadB rfl sc_3 (hKb) ((row_cell3 (j := 0) (k5 x _ hs) rfl))) ?_
  refine wlg_yes rfl (ro_cmp (r := true) rfl rfl rfl) ?_
  refine wl (ro_pick rfl rfl rfl) ?_
  refine wl (ro_assign rfl) ?_
  refine wl_nil (x_then (hK8 _ _ ?_))
  clear hK8 K8
  refine c_ret (x_blkR (x_thenR ?_))
  refine bp_ret Tryz.results154 rfl ?_
  exact ⟨rfl, hF⟩
set_option maxHeartbeats 4000000 in
theorem fit_10 (h : FV w ow cb gb sp dp bv t k R j r m) (hz : (fsAt (progF t (k + 1)) j).code.length = z + 3) (hi : InsX (protoOf (fsAt (progF t (k + 1)) j)) z (clO (Psf (progF t (k + 1))) (paF (paL t 0)) j) 10 x) (h16 : x < 65535) (hln : (progF t (k + 1)).length = k + 1) :
    Ret Tryz.prog 154 [ptrAt gb (j * 11), .agg #[u8n 10, u16c x]] w (fun r w' => r = .bool true ∧ Fram none' w w') := by
  have hF : Fram none' w w := Fram.refl _ _
  have hC := h.hC
  have hG := h.hG
  have c0 := h.c0
  have c4 := h.c4
  obtain ⟨ua, uc, c5, -⟩ := h.c5
  obtain ⟨ka, kc, c6, oK⟩ := h.c6
  obtain ⟨ca, cc, c9, -⟩ := h.c9
  obtain ⟨s, hs⟩ := hi.ig (by decide)
  have hs : (fsAt (progF t (k + 1)) j).ks[x]? = some (vStr s) := hs
  have hxl := (List.getElem?_eq_some_iff.1 hs).1
  obtain ⟨kg, kcap, kl, ev, hKb, k1, k2, k3, k4, k5⟩ := OwT.at pvc_len oK hs
  cases ev
  refine ret_of Tryz.func154 rfl Tryz.ntmps154 rfl ?_
  refine c_seq (fun K1 hK1 => ?_)
  refine c_reg ?_ -- region 0 check.go:128
  refine wl_box (cs := [u8n 10, u16c x]) rfl rfl (fun b3 w1 hbb3 h3 F1 => ?_)
  have hbsb3 := Nat.le_trans hF.size hbb3
  have hnecbb3 : cb < b3 := Nat.lt_of_lt_of_le hC.lt hbb3
  have hnegbb3 : gb < b3 := Nat.lt_of_lt_of_le hG.lt hbb3
  have hnekgb3 : kg < b3 := Nat.lt_of_lt_of_le hKb.lt hbb3
  replace hF := hF.thenDrew.thenN F1
  replace hC := F1.blkN hC
  replace hG := F1.blkN hG
  replace hKb := F1.blkN hKb
  refine wl (ro_assign rfl) ?_
  refine wl_nil (x_then (hK1 _ _ ?_))
  clear hK1 K1
  refine forget [(0, _), (3, _)] ⟨rfl, rfl, trivial⟩ (fun e => ?_)
  refine c_seq (fun K2 hK2 => ?_)
  refine c_reg ?_ -- region 1 check.go:129
  refine wl (ro_fieldAddr (k := 1) rfl fo_203_1) ?_
  refine wl (ro_loadB rfl sc_201 (h3) (rfl)) ?_
  refine wl (ro_conv (a := (x : Int)) rfl sc_201 in_3 (Go.IntWalk.i64_in _ (by omega))) ?_
  refine wl (ro_assign rfl) ?_
  refine wl_nil (x_then (hK2 _ _ ?_))
  clear hK2 K2
  refine c_seq (fun K3 hK3 => ?_)
  refine c_seq (fun K4 hK4 => ?_)
  refine c_reg ?_ -- region 2 check.go:130
  refine wl (ro_fieldAddr (k := 0) rfl fo_203_0) ?_
  refine wl (ro_loadB rfl sc_5 (h3) (rfl)) ?_
  refine wl_nil (x_then (hK4 _ _ ?_))
  clear hK4 K4
  refine c_block ?_
  refine forget [(0, _), (3, _), (5, _), (10, _)] ⟨rfl, rfl, rfl, rfl, trivial⟩ (fun e => ?_)
  refine c_seq (fun K5 hK5 => ?_)
  refine c_reg ?_ -- region 3 check.go:131
  refine wl (ro_cmp rfl rfl rfl) ?_
  refine wl (ro_assign rfl) ?_
  refine wl_nil (x_then (hK5 _ _ ?_))
  clear hK5 K5
  refine wc_condF rfl ?_
  refine c_seq (fun K6 hK6 => ?_)
  refine c_seq (fun K7 hK7 => ?_)
  refine c_reg ?_ -- region 5 check.go:133
  refine wl (ro_cmp rfl rfl rfl) ?_
  refine wl (ro_assign rfl) ?_
  refine wl_nil (x_then (hK7 _ _ ?_))
  clear hK7 K7
  refine wc_condF rfl ?_
  refine c_reg ?_ -- region 6 check.go:133
  refine wl (ro_cmp rfl rfl rfl) ?_
  refine wl (ro_assign rfl) ?_
  refine wl_nil (x_then (hK6 _ _ ?_))
  clear hK6 K6
  refine wc_condT rfl ?_
  refine c_seq (fun K8 hK8 => ?_)
  refine c_reg ?_ -- region 7 check.go:134
  refine wl (ro_move rfl) ?_
  refine wl (ro_move rfl) ?_
  refine wl (ro_nilCheck rfl) ?_
  refine wl (ro_fieldAddr (k := 6) rfl fo_199_6) ?_
  refine wl (ro_loadB rfl sc_83 (hG) (c6)) ?_
  refine wl (ro_lenL rfl se_83) ?_
  refine wl (ro_cmp (r := true) rfl rfl (congrArg some (decide_eq_true (by omega)))) ?_
  refine wl (ro_move rfl) ?_
  refine wlg_yes rfl (ro_move rfl) ?_
  refine wlg_yes rfl (ro_nilCheck rfl) ?_
  refine wlg_yes rfl (ro_fieldAddr (k := 6) rfl fo_199_6) ?_
  refine wlg_yes rfl (ro_loadB rfl sc_83 (hG) (c6)) ?_
  refine wlg_yes rfl (ro_move rfl) ?_
  refine wlg_yes rfl (ro_indexAddr (et := 119) (k := 3) rfl rfl se_83 (rfl) (hxl)) ?_
  refine wlg_yes rfl (ro_fieldAddr (k := 0) rfl fo_119_0) ?_
  refine wlg_yes rfl (ro_loadB rfl sc_3 (hKb) ((row_cell3 (j := 0) (k5 x _ hs) rfl))) ?_
  refine wlg_yes rfl (ro_cmp (r := true) rfl rfl rfl) ?_
  refine wl (ro_pick rfl rfl rfl) ?_
  refine wl (ro_assign rfl) ?_
  refine wl_nil (x_then (hK8 _ _ ?_))
  clear hK8 K8
  refine c_ret (x_blkR (x_thenR ?_))
  refine bp_ret Tryz.results154 rfl ?_
  exact ⟨rfl, hF⟩
set_option maxHeartbeats 4000000 in
theorem fit_5 (h : FV w ow cb gb sp dp bv t k R j r m) (hz : (fsAt (progF t (k + 1)) j).code.length = z + 3) (hi : InsX (protoOf (fsAt (progF t (k + 1)) j)) z (clO (Psf (progF t (k + 1))) (paF (paL t 0)) j) 5 x) (h16 : x < 65535) (hln : (progF t (k + 1)).length = k + 1) :
    Ret Tryz.prog 154 [ptrAt gb (j * 11), .agg #[u8n 5, u16c x]] w (fun r w' => r = .bool true ∧ Fram none' w w') := by
  have hF : Fram none' w w := Fram.refl _ _
  have hC := h.hC
  have hG := h.hG
  have c0 := h.c0
  have c4 := h.c4
  obtain ⟨ua, uc, c5, -⟩ := h.c5
  obtain ⟨ka, kc, c6, oK⟩ := h.c6
  obtain ⟨ca, cc, c9, -⟩ := h.c9
  have hq : x < (fsAt (progF t (k + 1)) j).ns := hi.il (by decide)
  refine ret_of Tryz.func154 rfl Tryz.ntmps154 rfl ?_
  refine c_seq (fun K1 hK1 => ?_)
  refine c_reg ?_ -- region 0 check.go:128
  refine wl_box (cs := [u8n 5, u16c x]) rfl rfl (fun b3 w1 hbb3 h3 F1 => ?_)
  have hbsb3 := Nat.le_trans hF.size hbb3
  have hnecbb3 : cb < b3 := Nat.lt_of_lt_of_le hC.lt hbb3
  have hnegbb3 : gb < b3 := Nat.lt_of_lt_of_le hG.lt hbb3
  replace hF := hF.thenDrew.thenN F1
  replace hC := F1.blkN hC
  replace hG := F1.blkN hG
  refine wl (ro_assign rfl) ?_
  refine wl_nil (x_then (hK1 _ _ ?_))
  clear hK1 K1
  refine forget [(0, _), (3, _)] ⟨rfl, rfl, trivial⟩ (fun e => ?_)
  refine c_seq (fun K2 hK2 => ?_)
  refine c_reg ?_ -- region 1 check.go:129
  refine wl (ro_fieldAddr (k := 1) rfl fo_203_1) ?_
  refine wl (ro_loadB rfl sc_201 (h3) (rfl)) ?_
  refine wl (ro_conv (a := (x : Int)) rfl sc_201 in_3 (Go.IntWalk.i64_in _ (by omega))) ?_
  refine wl (ro_assign rfl) ?_
  refine wl_nil (x_then (hK2 _ _ ?_))
  clear hK2 K2
  refine c_seq (fun K3 hK3 => ?_)
  refine c_seq (fun K4 hK4 => ?_)
  refine c_reg ?_ -- region 2 check.go:130
  refine wl (ro_fieldAddr (k := 0) rfl fo_203_0) ?_
  refine wl (ro_loadB rfl sc_5 (h3) (rfl)) ?_
  refine wl_nil (x_then (hK4 _ _ ?_))
  clear hK4 K4
  refine c_block ?_
  refine forget [(0, _), (3, _), (5, _), (10, _)] ⟨rfl, rfl, rfl, rfl, trivial⟩ (fun e => ?_)
  refine c_seq (fun K5 hK5 => ?_)
  refine c_reg ?_ -- region 3 check.go:131
  refine wl (ro_cmp rfl rfl rfl) ?_
  refine wl (ro_assign rfl) ?_
  refine wl_nil (x_then (hK5 _ _ ?_))
  clear hK5 K5
  refine wc_condF rfl ?_
  refine c_seq (fun K6 hK6 => ?_)
  refine c_seq (fun K7 hK7 => ?_)
  refine c_reg ?_ -- region 5 check.go:133
  refine wl (ro_cmp rfl rfl rfl) ?_
  refine wl (ro_assign rfl) ?_
  refine wl_nil (x_then (hK7 _ _ ?_))
  clear hK7 K7
  refine wc_condF rfl ?_
  refine c_reg ?_ -- region 6 check.go:133
  refine wl (ro_cmp rfl rfl rfl) ?_
  refine wl (ro_assign rfl) ?_
  refine wl_nil (x_then (hK6 _ _ ?_))
  clear hK6 K6
  refine wc_condF rfl ?_
  refine c_seq (fun K8 hK8 => ?_)
  refine c_seq (fun K9 hK9 => ?_)
  refine c_reg ?_ -- region 8 check.go:135
  refine wl (ro_cmp rfl rfl rfl) ?_
  refine wl (ro_assign rfl) ?_
  refine wl_nil (x_then (hK9 _ _ ?_))
  clear hK9 K9
  refine wc_condT rfl ?_
  refine c_skip (x_then (hK8 _ _ ?_))
  clear hK8 K8
  refine wc_condT rfl ?_
  refine c_seq (fun K10 hK10 => ?_)
  refine c_reg ?_ -- region 13 check.go:136
  refine wl (ro_move rfl) ?_
  refine wl (ro_move rfl) ?_
  refine wl (ro_nilCheck rfl) ?_
  refine wl (ro_fieldAddr (k := 4) rfl fo_199_4) ?_
  refine wl (ro_loadB rfl sc_3 (hG) (c4)) ?_
  refine wl (ro_cmp rfl rfl rfl) ?_
  refine wl (ro_assign rfl) ?_
  refine wl_nil (x_then (hK10 _ _ ?_))
  clear hK10 K10
  refine c_ret (x_blkR (x_thenR ?_))
  refine bp_ret Tryz.results154 rfl ?_
  exact ⟨congrArg Value.bool (decide_eq_true (by omega)), hF⟩
set_option maxHeartbeats 4000000 in
theorem fit_6 (h : FV w ow cb gb sp dp bv t k R j r m) (hz : (fsAt (progF t (k + 1)) j).code.length = z + 3) (hi : InsX (protoOf (fsAt (progF t (k + 1)) j)) z (clO (Psf (progF t (k + 1))) (paF (paL t 0)) j) 6 x) (h16 : x < 65535) (hln : (progF t (k + 1)).length = k + 1) :
    Ret Tryz.prog 154 [ptrAt gb (j * 11), .agg #[u8n 6, u16c x]] w (fun r w' => r = .bool true ∧ Fram none' w w') := by
  have hF : Fram none' w w := Fram.refl _ _
  have hC := h.hC
  have hG := h.hG
  have c0 := h.c0
  have c4 := h.c4
  obtain ⟨ua, uc, c5, -⟩ := h.c5
  obtain ⟨ka, kc, c6, oK⟩ := h.c6
  obtain ⟨ca, cc, c9, -⟩ := h.c9
  have hq : x < (fsAt (progF t (k + 1)) j).ns := hi.il (by decide)
  refine ret_of Tryz.func154 rfl Tryz.ntmps154 rfl ?_
  refine c_seq (fun K1 hK1 => ?_)
  refine c_reg ?_ -- region 0 check.go:128
  refine wl_box (cs := [u8n 6, u16c x]) rfl rfl (fun b3 w1 hbb3 h3 F1 => ?_)
  have hbsb3 := Nat.le_trans hF.size hbb3
  have hnecbb3 : cb < b3 := Nat.lt_of_lt_of_le hC.lt hbb3
  have hnegbb3 : gb < b3 := Nat.lt_of_lt_of_le hG.lt hbb3
  replace hF := hF.thenDrew.thenN F1
  replace hC := F1.blkN hC
  replace hG := F1.blkN hG
  refine wl (ro_assign rfl) ?_
  refine wl_nil (x_then (hK1 _ _ ?_))
  clear hK1 K1
  refine forget [(0, _), (3, _)] ⟨rfl, rfl, trivial⟩ (fun e => ?_)
  refine c_seq (fun K2 hK2 => ?_)
  refine c_reg ?_ -- region 1 check.go:129
  refine wl (ro_fieldAddr (k := 1) rfl fo_203_1) ?_
  refine wl (ro_loadB rfl sc_201 (h3) (rfl)) ?_
  refine wl (ro_conv (a := (x : Int)) rfl sc_201 in_3 (Go.IntWalk.i64_in _ (by omega))) ?_
  refine wl (ro_assign rfl) ?_
  refine wl_nil (x_then (hK2 _ _ ?_))
  clear hK2 K2
  refine c_seq (fun K3 hK3 => ?_)
  refine c_seq (fun K4 hK4 => ?_)
  refine c_reg ?_ -- region 2 check.go:130
  refine wl (ro_fieldAddr (k := 0) rfl fo_203_0) ?_
  refine wl (ro_loadB rfl sc_5 (h3) (rfl)) ?_
  refine wl_nil (x_then (hK4 _ _ ?_))
  clear hK4 K4
  refine c_block ?_
  refine forget [(0, _), (3, _), (5, _), (10, _)] ⟨rfl, rfl, rfl, rfl, trivial⟩ (fun e => ?_)
  refine c_seq (fun K5 hK5 => ?_)
  refine c_reg ?_ -- region 3 check.go:131
  refine wl (ro_cmp rfl rfl rfl) ?_
  refine wl (ro_assign rfl) ?_
  refine wl_nil (x_then (hK5 _ _ ?_))
  clear hK5 K5
  refine wc_condF rfl ?_
  refine c_seq (fun K6 hK6 => ?_)
  refine c_seq (fun K7 hK7 => ?_)
  refine c_reg ?_ -- region 5 check.go:133
  refine wl (ro_cmp rfl rfl rfl) ?_
  refine wl (ro_assign rfl) ?_
  refine wl_nil (x_then (hK7 _ _ ?_))
  clear hK7 K7
  refine wc_condF rfl ?_
  refine c_reg ?_ -- region 6 check.go:133
  refine wl (ro_cmp rfl rfl rfl) ?_
  refine wl (ro_assign rfl) ?_
  refine wl_nil (x_then (hK6 _ _ ?_))
  clear hK6 K6
  refine wc_condF rfl ?_
  refine c_seq (fun K8 hK8 => ?_)
  refine c_seq (fun K9 hK9 => ?_)
  refine c_reg ?_ -- region 8 check.go:135
  refine wl (ro_cmp rfl rfl rfl) ?_
  refine wl (ro_assign rfl) ?_
  refine wl_nil (x_then (hK9 _ _ ?_))
  clear hK9 K9
  refine wc_condF rfl ?_
  refine c_seq (fun K10 hK10 => ?_)
  refine c_reg ?_ -- region 9 check.go:135
  refine wl (ro_cmp rfl rfl rfl) ?_
  refine wl (ro_assign rfl) ?_
  refine wl_nil (x_then (hK10 _ _ ?_))
  clear hK10 K10
  refine wc_condT rfl ?_
  refine c_skip (x_then (hK8 _ _ ?_))
  clear hK8 K8
  refine wc_condT rfl ?_
  refine c_seq (fun K11 hK11 => ?_)
  refine c_reg ?_ -- region 13 check.go:136
  refine wl (ro_move rfl) ?_
  refine wl (ro_move rfl) ?_
  refine wl (ro_nilCheck rfl) ?_
  refine wl (ro_fieldAddr (k := 4) rfl fo_199_4) ?_
  refine wl (ro_loadB rfl sc_3 (hG) (c4)) ?_
  refine wl (ro_cmp rfl rfl rfl) ?_
  refine wl (ro_assign rfl) ?_
  refine wl_nil (x_then (hK11 _ _ ?_))
  clear hK11 K11
  refine c_ret (x_blkR (x_thenR ?_))
  refine bp_ret Tryz.results154 rfl ?_
  exact ⟨congrArg Value.bool (decide_eq_true (by omega)), hF⟩
set_option maxHeartbeats 4000000 in
theorem fit_30 (h : FV w ow cb gb sp dp bv t k R j r m) (hz : (fsAt (progF t (k + 1)) j).code.length = z + 3) (hi : InsX (protoOf (fsAt (progF t (k + 1)) j)) z (clO (Psf (progF t (k + 1))) (paF (paL t 0)) j) 30 x) (h16 : x < 65535) (hln : (progF t (k + 1)).length = k + 1) :
    Ret Tryz.prog 154 [ptrAt gb (j * 11), .agg #[u8n 30, u16c x]] w (fun r w' => r = .bool true ∧ Fram none' w w') := by
  have hF : Fram none' w w := Fram.refl _ _
  have hC := h.hC
  have hG := h.hG
  have c0 := h.c0
  have c4 := h.c4
  obtain ⟨ua, uc, c5, -⟩ := h.c5
  obtain ⟨ka, kc, c6, oK⟩ := h.c6
  obtain ⟨ca, cc, c9, -⟩ := h.c9
  have hq : x + 3 < (fsAt (progF t (k + 1)) j).ns := hi.fr (by decide)
  refine ret_of Tryz.func154 rfl Tryz.ntmps154 rfl ?_
  refine c_seq (fun K1 hK1 => ?_)
  refine c_reg ?_ -- region 0 check.go:128
  refine wl_box (cs := [u8n 30, u16c x]) rfl rfl (fun b3 w1 hbb3 h3 F1 => ?_)
  have hbsb3 := Nat.le_trans hF.size hbb3
  have hnecbb3 : cb < b3 := Nat.lt_of_lt_of_le hC.lt hbb3
  have hnegbb3 : gb < b3 := Nat.lt_of_lt_of_le hG.lt hbb3
  replace hF := hF.thenDrew.thenN F1
  replace hC := F1.blkN hC
  replace hG := F1.blkN hG
  refine wl (ro_assign rfl) ?_
  refine wl_nil (x_then (hK1 _ _ ?_))
  clear hK1 K1
  refine forget [(0, _), (3, _)] ⟨rfl, rfl, trivial⟩ (fun e => ?_)
  refine c_seq (fun K2 hK2 => ?_)
  refine c_reg ?_ -- region 1 check.go:129
  refine wl (ro_fieldAddr (k := 1) rfl fo_203_1) ?_
  refine wl (ro_loadB rfl sc_201 (h3) (rfl)) ?_
  refine wl (ro_conv (a := (x : Int)) rfl sc_201 in_3 (Go.IntWalk.i64_in _ (by omega))) ?_
  refine wl (ro_assign rfl) ?_
  refine wl_nil (x_then (hK2 _ _ ?_))
  clear hK2 K2
  refine c_seq (fun K3 hK3 => ?_)
  refine c_seq (fun K4 hK4 => ?_)
  refine c_reg ?_ -- region 2 check.go:130
  refine wl (ro_fieldAddr (k := 0) rfl fo_203_0) ?_
  refine wl (ro_loadB rfl sc_5 (h3) (rfl)) ?_
  refine wl_nil (x_then (hK4 _ _ ?_))
  clear hK4 K4
  refine c_block ?_
  refine forget [(0, _), (3, _), (5, _), (10, _)] ⟨rfl, rfl, rfl, rfl, trivial⟩ (fun e => ?_)
  refine c_seq (fun K5 hK5 => ?_)
  refine c_reg ?_ -- region 3 check.go:131
  refine wl (ro_cmp rfl rfl rfl) ?_
  refine wl (ro_assign rfl) ?_
  refine wl_nil (x_then (hK5 _ _ ?_))
  clear hK5 K5
  refine wc_condF rfl ?_
  refine c_seq (fun K6 hK6 => ?_)
  refine c_seq (fun K7 hK7 => ?_)
  refine c_reg ?_ -- region 5 check.go:133
  refine wl (ro_cmp rfl rfl rfl) ?_
  refine wl (ro_assign rfl) ?_
  refine wl_nil (x_then (hK7 _ _ ?_))
  clear hK7 K7
  refine wc_condF rfl ?_
  refine c_reg ?_ -- region 6 check.go:133
  refine wl (ro_cmp rfl rfl rfl) ?_
  refine wl (ro_assign rfl) ?_
  refine wl_nil (x_then (hK6 _ _ ?_))
  clear hK6 K6
  refine wc_condF rfl ?_
  refine c_seq (fun K8 hK8 => ?_)
  refine c_seq (fun K9 hK9 => ?_)
  refine c_reg ?_ -- region 8 check.go:135
  refine wl (ro_cmp rfl rfl rfl) ?_
  refine wl (ro_assign rfl) ?_
  refine wl_nil (x_then (hK9 _ _ ?_))
  clear hK9 K9
  refine wc_condF rfl ?_
  refine c_seq (fun K10 hK10 => ?_)
  refine c_reg ?_ -- region 9 check.go:135
  refine wl (ro_cmp rfl rfl rfl) ?_
  refine wl (ro_assign rfl) ?_
  refine wl_nil (x_then (hK10 _ _ ?_))
  clear hK10 K10
  refine wc_condF rfl ?_
  refine c_seq (fun K11 hK11 => ?_)
  refine c_reg ?_ -- region 10 check.go:135
  refine wl (ro_cmp rfl rfl rfl) ?_
  refine wl (ro_assign rfl) ?_
  refine wl_nil (x_then (hK11 _ _ ?_))
  clear hK11 K11
  refine wc_condT rfl ?_
  refine c_skip (x_then (hK8 _ _ ?_))
  clear hK8 K8
  refine wc_condT rfl ?_
  refine c_seq (fun K12 hK12 => ?_)
  refine c_reg ?_ -- region 13 check.go:136
  refine wl (ro_move rfl) ?_
  refine wl (ro_move rfl) ?_
  refine wl (ro_nilCheck rfl) ?_
  refine wl (ro_fieldAddr (k := 4) rfl fo_199_4) ?_
  refine wl (ro_loadB rfl sc_3 (hG) (c4)) ?_
  refine wl (ro_cmp rfl rfl rfl) ?_
  refine wl (ro_assign rfl) ?_
  refine wl_nil (x_then (hK12 _ _ ?_))
  clear hK12 K12
  refine c_ret (x_blkR (x_thenR ?_))
  refine bp_ret Tryz.results154 rfl ?_
  exact ⟨congrArg Value.bool (decide_eq_true (by omega)), hF⟩
set_option maxHeartbeats 4000000 in
theorem fit_31 (h : FV w ow cb gb sp dp bv t k R j r m) (hz : (fsAt (progF t (k + 1)) j).code.length = z + 3) (hi : InsX (protoOf (fsAt (progF t (k + 1)) j)) z (clO (Psf (progF t (k + 1))) (paF (paL t 0)) j) 31 x) (h16 : x < 65535) (hln : (progF t (k + 1)).length = k + 1) :
    Ret Tryz.prog 154 [ptrAt gb (j * 11), .agg #[u8n 31, u16c x]] w (fun r w' => r = .bool true ∧ Fram none' w w') := by
  have hF : Fram none' w w := Fram.refl _ _
  have hC := h.hC
  have hG := h.hG
  have c0 := h.c0
  have c4 := h.c4
  obtain ⟨ua, uc, c5, -⟩ := h.c5
  obtain ⟨ka, kc, c6, oK⟩ := h.c6
  obtain ⟨ca, cc, c9, -⟩ := h.c9
  have hq : x + 3 < (fsAt (progF t (k + 1)) j).ns := hi.fr (by decide)
  refine ret_of Tryz.func154 rfl Tryz.ntmps154 rfl ?_
  refine c_seq (fun K1 hK1 => ?_)
  refine c_reg ?_ -- region 0 check.go:128
  refine wl_box (cs := [u8n 31, u16c x]) rfl rfl (fun b3 w1 hbb3 h3 F1 => ?_)
  have hbsb3 := Nat.le_trans hF.size hbb3
  have hnecbb3 : cb < b3 := Nat.lt_of_lt_of_le hC.lt hbb3
  have hnegbb3 : gb < b3 := Nat.lt_of_lt_of_le hG.lt hbb3
  replace hF := hF.thenDrew.thenN F1
  replace hC := F1.blkN hC
  replace hG := F1.blkN hG
  refine wl (ro_assign rfl) ?_
  refine wl_nil (x_then (hK1 _ _ ?_))
  clear hK1 K1
  refine forget [(0, _), (3, _)] ⟨rfl, rfl, trivial⟩ (fun e => ?_)
  refine c_seq (fun K2 hK2 => ?_)
  refine c_reg ?_ -- region 1 check.go:129
  refine wl (ro_fieldAddr (k := 1) rfl fo_203_1) ?_
  refine wl (ro_loadB rfl sc_201 (h3) (rfl)) ?_
  refine wl (ro_conv (a := (x : Int)) rfl sc_201 in_3 (Go.IntWalk.i64_in _ (by omega))) ?_
  refine wl (ro_assign rfl) ?_
  refine wl_nil (x_then (hK2 _ _ ?_))
  clear hK2 K2
  refine c_seq (fun K3 hK3 => ?_)
  refine c_seq (fun K4 hK4 => ?_)
  refine c_reg ?_ -- region 2 check.go:130
  refine wl (ro_fieldAddr (k := 0) rfl fo_203_0) ?_
  refine wl (ro_loadB rfl sc_5 (h3) (rfl)) ?_
  refine wl_nil (x_then (hK4 _ _ ?_))
  clear hK4 K4
  refine c_block ?_
  refine forget [(0, _), (3, _), (5, _), (10, _)] ⟨rfl, rfl, rfl, rfl, trivial⟩ (fun e => ?_)
  refine c_seq (fun K5 hK5 => ?_)
  refine c_reg ?_ -- region 3 check.go:131
  refine wl (ro_cmp rfl rfl rfl) ?_
  refine wl (ro_assign rfl) ?_
  refine wl_nil (x_then (hK5 _ _ ?_))
  clear hK5 K5
  refine wc_condF rfl ?_
  refine c_seq (fun K6 hK6 => ?_)
  refine c_seq (fun K7 hK7 => ?_)
  refine c_reg ?_ -- region 5 check.go:133
  refine wl (ro_cmp rfl rfl rfl) ?_
  refine wl (ro_assign rfl) ?_
  refine wl_nil (x_then (hK7 _ _ ?_))
  clear hK7 K7
  refine wc_condF rfl ?_
  refine c_reg ?_ -- region 6 check.go:133
  refine wl (ro_cmp rfl rfl rfl) ?_
  refine wl (ro_assign rfl) ?_
  refine wl_nil (x_then (hK6 _ _ ?_))
  clear hK6 K6
  refine wc_condF rfl ?_
  refine c_seq (fun K8 hK8 => ?_)
  refine c_seq (fun K9 hK9 => ?_)
  refine c_reg ?_ -- region 8 check.go:135
  refine wl (ro_cmp rfl rfl rfl) ?_
  refine wl (ro_assign rfl) ?_
  refine wl_nil (x_then (hK9 _ _ ?_))
  clear hK9 K9
  refine wc_condF rfl ?_
  refine c_seq (fun K10 hK10 => ?_)
  refine c_reg ?_ -- region 9 check.go:135
  refine wl (ro_cmp rfl rfl rfl) ?_
  refine wl (ro_assign rfl) ?_
  refine wl_nil (x_then (hK10 _ _ ?_))
  clear hK10 K10
  refine wc_condF rfl ?_
  refine c_seq (fun K11 hK11 => ?_)
  refine c_reg ?_ -- region 10 check.go:135
  refine wl (ro_cmp rfl rfl rfl) ?_
  refine wl (ro_assign rfl) ?_
  refine wl_nil (x_then (hK11 _ _ ?_))
  clear hK11 K11
  refine wc_condF rfl ?_
  refine c_seq (fun K12 hK12 => ?_)
  refine c_reg ?_ -- region 11 check.go:135
  refine wl (ro_cmp rfl rfl rfl) ?_
  refine wl (ro_assign rfl) ?_
  refine wl_nil (x_then (hK12 _ _ ?_))
  clear hK12 K12
  refine wc_condT rfl ?_
  refine c_skip (x_then (hK8 _ _ ?_))
  clear hK8 K8
  refine wc_condT rfl ?_
  refine c_seq (fun K13 hK13 => ?_)
  refine c_reg ?_ -- region 13 check.go:136
  refine wl (ro_move rfl) ?_
  refine wl (ro_move rfl) ?_
  refine wl (ro_nilCheck rfl) ?_
  refine wl (ro_fieldAddr (k := 4) rfl fo_199_4) ?_
  refine wl (ro_loadB rfl sc_3 (hG) (c4)) ?_
  refine wl (ro_cmp rfl rfl rfl) ?_
  refine wl (ro_assign rfl) ?_
  refine wl_nil (x_then (hK13 _ _ ?_))
  clear hK13 K13
  refine c_ret (x_blkR (x_thenR ?_))
  refine bp_ret Tryz.results154 rfl ?_
  exact ⟨congrArg Value.bool (decide_eq_true (by omega)), hF⟩
set_option maxHeartbeats 4000000 in
theorem fit_32 (h : FV w ow cb gb sp dp bv t k R j r m) (hz : (fsAt (progF t (k + 1)) j).code.length = z + 3) (hi : InsX (protoOf (fsAt (progF t (k + 1)) j)) z (clO (Psf (progF t (k + 1))) (paF (paL t 0)) j) 32 x) (h16 : x < 65535) (hln : (progF t (k + 1)).length = k + 1) :
    Ret Tryz.prog 154 [ptrAt gb (j * 11), .agg #[u8n 32, u16c x]] w (fun r w' => r = .bool true ∧ Fram none' w w') := by
  have hF : Fram none' w w := Fram.refl _ _
  have hC := h.hC
  have hG := h.hG
  have c0 := h.c0
  have c4 := h.c4
  obtain ⟨ua, uc, c5, -⟩ := h.c5
  obtain ⟨ka, kc, c6, oK⟩ := h.c6
  obtain ⟨ca, cc, c9, -⟩ := h.c9
  have hq : x + 3 < (fsAt (progF t (k + 1)) j).ns := hi.fr (by decide)
  refine ret_of Tryz.func154 rfl Tryz.ntmps154 rfl ?_
  refine c_seq (fun K1 hK1 => ?_)
  refine c_reg ?_ -- region 0 check.go:128
  refine wl_box (cs := [u8n 32, u16c x]) rfl rfl (fun b3 w1 hbb3 h3 F1 => ?_)
  have hbsb3 := Nat.le_trans hF.size hbb3
  have hnecbb3 : cb < b3 := Nat.lt_of_lt_of_le hC.lt hbb3
  have hnegbb3 : gb < b3 := Nat.lt_of_lt_of_le hG.lt hbb3
  replace hF := hF.thenDrew.thenN F1
  replace hC := F1.blkN hC
  replace hG := F1.blkN hG
  refine wl (ro_assign rfl) ?_
  refine wl_nil (x_then (hK1 _ _ ?_))
  clear hK1 K1
  refine forget [(0, _), (3, _)] ⟨rfl, rfl, trivial⟩ (fun e => ?_)
  refine c_seq (fun K2 hK2 => ?_)
  refine c_reg ?_ -- region 1 check.go:129
  refine wl (ro_fieldAddr (k := 1) rfl fo_203_1) ?_
  refine wl (ro_loadB rfl sc_201 (h3) (rfl)) ?_
  refine wl (ro_conv (a := (x : Int)) rfl sc_201 in_3 (Go.IntWalk.i64_in _ (by omega))) ?_
  refine wl (ro_assign rfl) ?_
  refine wl_nil (x_then (hK2 _ _ ?_))
  clear hK2 K2
  refine c_seq (fun K3 hK3 => ?_)
  refine c_seq (fun K4 hK4 => ?_)
  refine c_reg ?_ -- region 2 check.go:130
  refine wl (ro_fieldAddr (k := 0) rfl fo_203_0) ?_
  refine wl (ro_loadB rfl sc_5 (h3) (rfl)) ?_
  refine wl_nil (x_then (hK4 _ _ ?_))
  clear hK4 K4
  refine c_block ?_
  refine forget [(0, _), (3, _), (5, _), (10, _)] ⟨rfl, rfl, rfl, rfl, trivial⟩ (fun e => ?_)
  refine c_seq (fun K5 hK5 => ?_)
  refine c_reg ?_ -- region 3 check.go:131
  refine wl (ro_cmp rfl rfl rfl) ?_
  refine wl (ro_assign rfl) ?_
  refine wl_nil (x_then (hK5 _ _ ?_))
  clear hK5 K5
  refine wc_condF rfl ?_
  refine c_seq (fun K6 hK6 => ?_)
  refine c_seq (fun K7 hK7 => ?_)
  refine c_reg ?_ -- region 5 check.go:133
  refine wl (ro_cmp rfl rfl rfl) ?_
  refine wl (ro_assign rfl) ?_
  refine wl_nil (x_then (hK7 _ _ ?_))
  clear hK7 K7
  refine wc_condF rfl ?_
  refine c_reg ?_ -- region 6 check.go:133
  refine wl (ro_cmp rfl rfl rfl) ?_
  refine wl (ro_assign rfl) ?_
  refine wl_nil (x_then (hK6 _ _ ?_))
  clear hK6 K6
  refine wc_condF rfl ?_
  refine c_seq (fun K8 hK8 => ?_)
  refine c_seq (fun K9 hK9 => ?_)
  refine c_reg ?_ -- region 8 check.go:135
  refine wl (ro_cmp rfl rfl rfl) ?_
  refine wl (ro_assign rfl) ?_
  refine wl_nil (x_then (hK9 _ _ ?_))
  clear hK9 K9
  refine wc_condF rfl ?_
  refine c_seq (fun K10 hK10 => ?_)
  refine c_reg ?_ -- region 9 check.go:135
  refine wl (ro_cmp rfl rfl rfl) ?_
  refine wl (ro_assign rfl) ?_
  refine wl_nil (x_then (hK10 _ _ ?_))
  clear hK10 K10
  refine wc_condF rfl ?_
  refine c_seq (fun K11 hK11 => ?_)
  refine c_reg ?_ -- region 10 check.go:135
  refine wl (ro_cmp rfl rfl rfl) ?_
  refine wl (ro_assign rfl) ?_
  refine wl_nil (x_then (hK11 _ _ ?_))
  clear hK11 K11
  refine wc_condF rfl ?_
  refine c_seq (fun K12 hK12 => ?_)
  refine c_reg ?_ -- region 11 check.go:135
  refine wl (ro_cmp rfl rfl rfl) ?_
  refine wl (ro_assign rfl) ?_
  refine wl_nil (x_then (hK12 _ _ ?_))
  clear hK12 K12
  refine wc_condF rfl ?_
  refine c_reg ?_ -- region 12 check.go:135
  refine wl (ro_cmp rfl rfl rfl) ?_
  refine wl (ro_assign rfl) ?_
  refine wl_nil (x_then (hK8 _ _ ?_))
  clear hK8 K8
  refine wc_condT rfl ?_
  refine c_seq (fun K13 hK13 => ?_)
  refine c_reg ?_ -- region 13 check.go:136
  refine wl (ro_move rfl) ?_
  refine wl (ro_move rfl) ?_
  refine wl (ro_nilCheck rfl) ?_
  refine wl (ro_fieldAddr (k := 4) rfl fo_199_4) ?_
  refine wl (ro_loadB rfl sc_3 (hG) (c4)) ?_
  refine wl (ro_cmp rfl rfl rfl) ?_
  refine wl (ro_assign rfl) ?_
  refine wl_nil (x_then (hK13 _ _ ?_))
  clear hK13 K13
  refine c_ret (x_blkR (x_thenR ?_))
  refine bp_ret Tryz.results154 rfl ?_
  exact ⟨congrArg Value.bool (decide_eq_true (by omega)), hF⟩
set_option maxHeartbeats 4000000 in
theorem fit_7 (h : FV w ow cb gb sp dp bv t k R j r m) (hz : (fsAt (progF t (k + 1)) j).code.length = z + 3) (hi : InsX (protoOf (fsAt (progF t (k + 1)) j)) z (clO (Psf (progF t (k + 1))) (paF (paL t 0)) j) 7 x) (h16 : x < 65535) (hln : (progF t (k + 1)).length = k + 1) :
    Ret Tryz.prog 154 [ptrAt gb (j * 11), .agg #[u8n 7, u16c x]] w (fun r w' => r = .bool true ∧ Fram none' w w') := by
  have hF : Fram none' w w := Fram.refl _ _
  have hC := h.hC
  have hG := h.hG
  have c0 := h.c0
  have c4 := h.c4
  obtain ⟨ua, uc, c5, -⟩ := h.c5
  obtain ⟨ka, kc, c6, oK⟩ := h.c6
  obtain ⟨ca, cc, c9, -⟩ := h.c9
  have hq : x < (fsAt (progF t (k + 1)) j).ups.length := hi.iu (by decide)
  refine ret_of Tryz.func154 rfl Tryz.ntmps154 rfl ?_
  refine c_seq (fun K1 hK1 => ?_)
  refine c_reg ?_ -- region 0 check.go:128
  refine wl_box (cs := [u8n 7, u16c x]) rfl rfl (fun b3 w1 hbb3 h3 F1 => ?_)
  have hbsb3 := Nat.le_trans hF.size hbb3
  have hnecbb3 : cb < b3 := Nat.lt_of_lt_of_le hC.lt hbb3
  have hnegbb3 : gb < b3 := Nat.lt_of_lt_of_le hG.lt hbb3
  replace hF := hF.thenDrew.thenN F1
  replace hC := F1.blkN hC
  replace hG := F1.blkN hG
  refine wl (ro_assign rfl) ?_
  refine wl_nil (x_then (hK1 _ _ ?_))
  clear hK1 K1
  refine forget [(0, _), (3, _)] ⟨rfl, rfl, trivial⟩ (fun e => ?_)
  refine c_seq (fun K2 hK2 => ?_)
  refine c_reg ?_ -- region 1 check.go:129
  refine wl (ro_fieldAddr (k := 1) rfl fo_203_1) ?_
  refine wl (ro_loadB rfl sc_201 (h3) (rfl)) ?_
  refine wl (ro_conv (a := (x : Int)) rfl sc_201 in_3 (Go.IntWalk.i64_in _ (by omega))) ?_
  refine wl (ro_assign rfl) ?_
  refine wl_nil (x_then (hK2 _ _ ?_))
  clear hK2 K2
  refine c_seq (fun K3 hK3 => ?_)
  refine c_seq (fun K4 hK4 => ?_)
  refine c_reg ?_ -- region 2 check.go:130
  refine wl (ro_fieldAddr (k := 0) rfl fo_203_0) ?_
  refine wl (ro_loadB rfl sc_5 (h3) (rfl)) ?_
  refine wl_nil (x_then (hK4 _ _ ?_))
  clear hK4 K4
  refine c_block ?_
  refine forget [(0, _), (3, _), (5, _), (10, _)] ⟨rfl, rfl, rfl, rfl, trivial⟩ (fun e => ?_)
  refine c_seq (fun K5 hK5 => ?_)
  refine c_reg ?_ -- region 3 check.go:131
  refine wl (ro_cmp rfl rfl rfl) ?_
  refine wl (ro_assign rfl) ?_
  refine wl_nil (x_then (hK5 _ _ ?_))
  clear hK5 K5
  refine wc_condF rfl ?_
  refine c_seq (fun K6 hK6 => ?_)
  refine c_seq (fun K7 hK7 => ?_)
  refine c_reg ?_ -- region 5 check.go:133
  refine wl (ro_cmp rfl rfl rfl) ?_
  refine wl (ro_assign rfl) ?_
  refine wl_nil (x_then (hK7 _ _ ?_))
  clear hK7 K7
  refine wc_condF rfl ?_
  refine c_reg ?_ -- region 6 check.go:133
  refine wl (ro_cmp rfl rfl rfl) ?_
  refine wl (ro_assign rfl) ?_
  refine wl_nil (x_then (hK6 _ _ ?_))
  clear hK6 K6
  refine wc_condF rfl ?_
  refine c_seq (fun K8 hK8 => ?_)
  refine c_seq (fun K9 hK9 => ?_)
  refine c_reg ?_ -- region 8 check.go:135
  refine wl (ro_cmp rfl rfl rfl) ?_
  refine wl (ro_assign rfl) ?_
  refine wl_nil (x_then (hK9 _ _ ?_))
  clear hK9 K9
  refine wc_condF rfl ?_
  refine c_seq (fun K10 hK10 => ?_)
  refine c_reg ?_ -- region 9 check.go:135
  refine wl (ro_cmp rfl rfl rfl) ?_
  refine wl (ro_assign rfl) ?_
  refine wl_nil (x_then (hK10 _ _ ?_))
  clear hK10 K10
  refine wc_condF rfl ?_
  refine c_seq (fun K11 hK11 => ?_)
  refine c_reg ?_ -- region 10 check.go:135
  refine wl (ro_cmp rfl rfl rfl) ?_
  refine wl (ro_assign rfl) ?_
  refine wl_nil (x_then (hK11 _ _ ?_))
  clear hK11 K11
  refine wc_condF rfl ?_
  refine c_seq (fun K12 hK12 => ?_)
  refine c_reg ?_ -- region 11 check.go:135
  refine wl (ro_cmp rfl rfl rfl) ?_
  refine wl (ro_assign rfl) ?_
  refine wl_nil (x_then (hK12 _ _ ?_))
  clear hK12 K12
  refine wc_condF rfl ?_
  refine c_reg ?_ -- region 12 check.go:135
  refine wl (ro_cmp rfl rfl rfl) ?_
  refine wl (ro_assign rfl) ?_
  refine wl_nil (x_then (hK8 _ _ ?_))
  clear hK8 K8
  refine wc_condF rfl ?_
  refine c_seq (fun K13 hK13 => ?_)
  refine c_seq (fun K14 hK14 => ?_)
  refine c_reg ?_ -- region 14 check.go:137
  refine wl (ro_cmp rfl rfl rfl) ?_
  refine wl (ro_assign rfl) ?_
  refine wl_nil (x_then (hK14 _ _ ?_))
  clear hK14 K14
  refine wc_condT rfl ?_
  refine c_skip (x_then (hK13 _ _ ?_))
  clear hK13 K13
  refine wc_condT rfl ?_
  refine c_seq (fun K15 hK15 => ?_)
  refine c_reg ?_ -- region 16 check.go:138
  refine wl (ro_move rfl) ?_
  refine wl (ro_move rfl) ?_
  refine wl (ro_nilCheck rfl) ?_
  refine wl (ro_fieldAddr (k := 5) rfl fo_199_5) ?_
  refine wl (ro_loadB rfl sc_193 (hG) (c5)) ?_
  refine wl (ro_lenL rfl se_193) ?_
  refine wl (ro_cmp rfl rfl rfl) ?_
  refine wl (ro_assign rfl) ?_
  refine wl_nil (x_then (hK15 _ _ ?_))
  clear hK15 K15
  refine c_ret (x_blkR (x_thenR ?_))
  refine bp_ret Tryz.results154 rfl ?_
  exact ⟨congrArg Value.bool (decide_eq_true (by omega)), hF⟩
set_option maxHeartbeats 4000000 in
theorem fit_8 (h : FV w ow cb gb sp dp bv t k R j r m) (hz : (fsAt (progF t (k + 1)) j).code.length = z + 3) (hi : InsX (protoOf (fsAt (progF t (k + 1)) j)) z (clO (Psf (progF t (k + 1))) (paF (paL t 0)) j) 8 x) (h16 : x < 65535) (hln : (progF t (k + 1)).length = k + 1) :
    Ret Tryz.prog 154 [ptrAt gb (j * 11), .agg #[u8n 8, u16c x]] w (fun r w' => r = .bool true ∧ Fram none' w w') := by
  have hF : Fram none' w w := Fram.refl _ _
  have hC := h.hC
  have hG := h.hG
  have c0 := h.c0
  have c4 := h.c4
  obtain ⟨ua, uc, c5, -⟩ := h.c5
  obtain ⟨ka, kc, c6, oK⟩ := h.c6
  obtain ⟨ca, cc, c9, -⟩ := h.c9
  have hq : x < (fsAt (progF t (k + 1)) j).ups.length := hi.iu (by decide)
  refine ret_of Tryz.func154 rfl Tryz.ntmps154 rfl ?_
  refine c_seq (fun K1 hK1 => ?_)
  refine c_reg ?_ -- region 0 check.go:128
  refine wl_box (cs := [u8n 8, u16c x]) rfl rfl (fun b3 w1 hbb3 h3 F1 => ?_)
  have hbsb3 := Nat.le_trans hF.size hbb3
  have hnecbb3 : cb < b3 := Nat.lt_of_lt_of_le hC.lt hbb3
  have hnegbb3 : gb < b3 := Nat.lt_of_lt_of_le hG.lt hbb3
  replace hF := hF.thenDrew.thenN F1
  replace hC := F1.blkN hC
  replace hG := F1.blkN hG
  refine wl (ro_assign rfl) ?_
  refine wl_nil (x_then (hK1 _ _ ?_))
  clear hK1 K1
  refine forget [(0, _), (3, _)] ⟨rfl, rfl, trivial⟩ (fun e => ?_)
  refine c_seq (fun K2 hK2 => ?_)
  refine c_reg ?_ -- region 1 check.go:129
  refine wl (ro_fieldAddr (k := 1) rfl fo_203_1) ?_
  refine wl (ro_loadB rfl sc_201 (h3) (rfl)) ?_
  refine wl (ro_conv (a := (x : Int)) rfl sc_201 in_3 (Go.IntWalk.i64_in _ (by omega))) ?_
  refine wl (ro_assign rfl) ?_
  refine wl_nil (x_then (hK2 _ _ ?_))
  clear hK2 K2
  refine c_seq (fun K3 hK3 => ?_)
  refine c_seq (fun K4 hK4 => ?_)
  refine c_reg ?_ -- region 2 check.go:130
  refine wl (ro_fieldAddr (k := 0) rfl fo_203_0) ?_
  refine wl (ro_loadB rfl sc_5 (h3) (rfl)) ?_
  refine wl_nil (x_then (hK4 _ _ ?_))
  clear hK4 K4
  refine c_block ?_
  refine forget [(0, _), (3, _), (5, _), (10, _)] ⟨rfl, rfl, rfl, rfl, trivial⟩ (fun e => ?_)
  refine c_seq (fun K5 hK5 => ?_)
  refine c_reg ?_ -- region 3 check.go:131
  refine wl (ro_cmp rfl rfl rfl) ?_
  refine wl (ro_assign rfl) ?_
  refine wl_nil (x_then (hK5 _ _ ?_))
  clear hK5 K5
  refine wc_condF rfl ?_
  refine c_seq (fun K6 hK6 => ?_)
  refine c_seq (fun K7 hK7 => ?_)
  refine c_reg ?_ -- region 5 check.go:133
  refine wl (ro_cmp rfl rfl rfl) ?_
  refine wl (ro_assign rfl) ?_
  refine wl_nil (x_then (hK7 _ _ ?_))
  clear hK7 K7
  refine wc_condF rfl ?_
  refine c_reg ?_ -- region 6 check.go:133
  refine wl (ro_cmp rfl rfl rfl) ?_
  refine wl (ro_assign rfl) ?_
  refine wl_nil (x_then (hK6 _ _ ?_))
  clear hK6 K6
  refine wc_condF rfl ?_
  refine c_seq (fun K8 hK8 => ?_)
  refine c_seq (fun K9 hK9 => ?_)
  refine c_reg ?_ -- region 8 check.go:135
  refine wl (ro_cmp rfl rfl rfl) ?_
  refine wl (ro_assign rfl) ?_
  refine wl_nil (x_then (hK9 _ _ ?_))
  clear hK9 K9
  refine wc_condF rfl ?_
  refine c_seq (fun K10 hK10 => ?_)
  refine c_reg ?_ -- region 9 check.go:135
  refine wl (ro_cmp rfl rfl rfl) ?_
  refine wl (ro_assign rfl) ?_
  refine wl_nil (x_then (hK10 _ _ ?_))
  clear hK10 K10
  refine wc_condF rfl ?_
  refine c_seq (fun K11 hK11 => ?_)
  refine c_reg ?_ -- region 10 check.go:135
  refine wl (ro_cmp rfl rfl rfl) ?_
  refine wl (ro_assign rfl) ?_
  refine wl_nil (x_then (hK11 _ _ ?_))
  clear hK11 K11
  refine wc_condF rfl ?_
  refine c_seq (fun K12 hK12 => ?_)
  refine c_reg ?_ -- region 11 check.go:135
  refine wl (ro_cmp rfl rfl rfl) ?_
  refine wl (ro_assign rfl) ?_
  refine wl_nil (x_then (hK12 _ _ ?_))
  clear hK12 K12
  refine wc_condF rfl ?_
  refine c_reg ?_ -- region 12 check.go:135
  refine wl (ro_cmp rfl rfl rfl) ?_
  refine wl (ro_assign rfl) ?_
  refine wl_nil (x_then (hK8 _ _ ?_))
  clear hK8 K8
  refine wc_condF rfl ?_
  refine c_seq (fun K13 hK13 => ?_)
  refine c_seq (fun K14 hK14 => ?_)
  refine c_reg ?_ -- region 14 check.go:137
  refine wl (ro_cmp rfl rfl rfl) ?_
  refine wl (ro_assign rfl) ?_
  refine wl_nil (x_then (hK14 _ _ ?_))
  clear hK14 K14
  refine wc_condF rfl ?_
  refine c_reg ?_ -- region 15 check.go:137
  refine wl (ro_cmp rfl rfl rfl) ?_
  refine wl (ro_assign rfl) ?_
  refine wl_nil (x_then (hK13 _ _ ?_))
  clear hK13 K13
  refine wc_condT rfl ?_
  refine c_seq (fun K15 hK15 => ?_)
  refine c_reg ?_ -- region 16 check.go:138
  refine wl (ro_move rfl) ?_
  refine wl (ro_move rfl) ?_
  refine wl (ro_nilCheck rfl) ?_
  refine wl (ro_fieldAddr (k := 5) rfl fo_199_5) ?_
  refine wl (ro_loadB rfl sc_193 (hG) (c5)) ?_
  refine wl (ro_lenL rfl se_193) ?_
  refine wl (ro_cmp rfl rfl rfl) ?_
  refine wl (ro_assign rfl) ?_
  refine wl_nil (x_then (hK15 _ _ ?_))
  clear hK15 K15
  refine c_ret (x_blkR (x_thenR ?_))
  refine bp_ret Tryz.results154 rfl ?_
  exact ⟨congrArg Value.bool (decide_eq_true (by omega)), hF⟩
set_option maxHeartbeats 4000000 in
theorem fit_15 (h : FV w ow cb gb sp dp bv t k R j r m) (hz : (fsAt (progF t (k + 1)) j).code.length = z + 3) (hi : InsX (protoOf (fsAt (progF t (k + 1)) j)) z (clO (Psf (progF t (k + 1))) (paF (paL t 0)) j) 15 x) (h16 : x < 65535) (hln : (progF t (k + 1)).length = k + 1) :
    Ret Tryz.prog 154 [ptrAt gb (j * 11), .agg #[u8n 15, u16c x]] w (fun r w' => r = .bool true ∧ Fram none' w w') := by
  have hF : Fram none' w w := Fram.refl _ _
  have hC := h.hC
  have hG := h.hG
  have c0 := h.c0
  have c4 := h.c4
  obtain ⟨ua, uc, c5, -⟩ := h.c5
  obtain ⟨ka, kc, c6, oK⟩ := h.c6
  obtain ⟨ca, cc, c9, -⟩ := h.c9
  have hq : 1 ≤ x ∧ x ≤ 6 := hi.ia (by decide)
  refine ret_of Tryz.func154 rfl Tryz.ntmps154 rfl ?_
  refine c_seq (fun K1 hK1 => ?_)
  refine c_reg ?_ -- region 0 check.go:128
  refine wl_box (cs := [u8n 15, u16c x]) rfl rfl (fun b3 w1 hbb3 h3 F1 => ?_)
  have hbsb3 := Nat.le_trans hF.size hbb3
  have hnecbb3 : cb < b3 := Nat.lt_of_lt_of_le hC.lt hbb3
  have hnegbb3 : gb < b3 := Nat.lt_of_lt_of_le hG.lt hbb3
  replace hF := hF.thenDrew.thenN F1
  replace hC := F1.blkN hC
  replace hG := F1.blkN hG
  refine wl (ro_assign rfl) ?_
  refine wl_nil (x_then (hK1 _ _ ?_))
  clear hK1 K1
  refine forget [(0, _), (3, _)] ⟨rfl, rfl, trivial⟩ (fun e => ?_)
  refine c_seq (fun K2 hK2 => ?_)
  refine c_reg ?_ -- region 1 check.go:129
  refine wl (ro_fieldAddr (k := 1) rfl fo_203_1) ?_
  refine wl (ro_loadB rfl sc_201 (h3) (rfl)) ?_
  refine wl (ro_conv (a := (x : Int)) rfl sc_201 in_3 (Go.IntWalk.i64_in _ (by omega))) ?_
  refine wl (ro_assign rfl) ?_
  refine wl_nil (x_then (hK2 _ _ ?_))
  clear hK2 K2
  refine c_seq (fun K3 hK3 => ?_)
  refine c_seq (fun K4 hK4 => ?_)
  refine c_reg ?_ -- region 2 check.go:130
  refine wl (ro_fieldAddr (k := 0) rfl fo_203_0) ?_
  refine wl (ro_loadB rfl sc_5 (h3) (rfl)) ?_
  refine wl_nil (x_then (hK4 _ _ ?_))
  clear hK4 K4
  refine c_block ?_
  refine forget [(0, _), (3, _), (5, _), (10, _)] ⟨rfl, rfl, rfl, rfl, trivial⟩ (fun e => ?_)
  refine c_seq (fun K5 hK5 => ?_)
  refine c_reg ?_ -- region 3 check.go:131
  refine wl (ro_cmp rfl rfl rfl) ?_
  refine wl (ro_assign rfl) ?_
  refine wl_nil (x_then (hK5 _ _ ?_))
  clear hK5 K5
  refine wc_condF rfl ?_
  refine c_seq (fun K6 hK6 => ?_)
  refine c_seq (fun K7 hK7 => ?_)
  refine c_reg ?_ -- region 5 check.go:133
  refine wl (ro_cmp rfl rfl rfl) ?_
  refine wl (ro_assign rfl) ?_
  refine wl_nil (x_then (hK7 _ _ ?_))
  clear hK7 K7
  refine wc_condF rfl ?_
  refine c_reg ?_ -- region 6 check.go:133
  refine wl (ro_cmp rfl rfl rfl) ?_
  refine wl (ro_assign rfl) ?_
  refine wl_nil (x_then (hK6 _ _ ?_))
  clear hK6 K6
  refine wc_condF rfl ?_
  refine c_seq (fun K8 hK8 => ?_)
  refine c_seq (fun K9 hK9 => ?_)
  refine c_reg ?_ -- region 8 check.go:135
  refine wl (ro_cmp rfl rfl rfl) ?_
  refine wl (ro_assign rfl) ?_
  refine wl_nil (x_then (hK9 _ _ ?_))
  clear hK9 K9
  refine wc_condF rfl ?_
  refine c_seq (fun K10 hK10 => ?_)
  refine c_reg ?_ -- region 9 check.go:135
  refine wl (ro_cmp rfl rfl rfl) ?_
  refine wl (ro_assign rfl) ?_
  refine wl_nil (x_then (hK10 _ _ ?_))
  clear hK10 K10
  refine wc_condF rfl ?_
  refine c_seq (fun K11 hK11 => ?_)
  refine c_reg ?_ -- region 10 check.go:135
  refine wl (ro_cmp rfl rfl rfl) ?_
  refine wl (ro_assign rfl) ?_
  refine wl_nil (x_then (hK11 _ _ ?_))
  clear hK11 K11
  refine wc_condF rfl ?_
  refine c_seq (fun K12 hK12 => ?_)
  refine c_reg ?_ -- region 11 check.go:135
  refine wl (ro_cmp rfl rfl rfl) ?_
  refine wl (ro_assign rfl) ?_
  refine wl_nil (x_then (hK12 _ _ ?_))
  clear hK12 K12
  refine wc_condF rfl ?_
  refine c_reg ?_ -- region 12 check.go:135
  refine wl (ro_cmp rfl rfl rfl) ?_
  refine wl (ro_assign rfl) ?_
  refine wl_nil (x_then (hK8 _ _ ?_))
  clear hK8 K8
  refine wc_condF rfl ?_
  refine c_seq (fun K13 hK13 => ?_)
  refine c_seq (fun K14 hK14 => ?_)
  refine c_reg ?_ -- region 14 check.go:137
  refine wl (ro_cmp rfl rfl rfl) ?_
  refine wl (ro_assign rfl) ?_
  refine wl_nil (x_then (hK14 _ _ ?_))
  clear hK14 K14
  refine wc_condF rfl ?_
  refine c_reg ?_ -- region 15 check.go:137
  refine wl (ro_cmp rfl rfl rfl) ?_
  refine wl (ro_assign rfl) ?_
  refine wl_nil (x_then (hK13 _ _ ?_))
  clear hK13 K13
  refine wc_condF rfl ?_
  refine c_seq (fun K15 hK15 => ?_)
  refine c_reg ?_ -- region 17 check.go:139
  refine wl (ro_cmp rfl rfl rfl) ?_
  refine wl (ro_assign rfl) ?_
  refine wl_nil (x_then (hK15 _ _ ?_))
  clear hK15 K15
  refine wc_condT rfl ?_
  refine c_seq (fun K16 hK16 => ?_)
  refine c_reg ?_ -- region 18 check.go:140
  refine wl (ro_move rfl) ?_
  refine wl (ro_cmp (r := true) rfl rfl (congrArg some (decide_eq_true (by omega)))) ?_
  refine wl (ro_move rfl) ?_
  refine wlg_yes rfl (ro_move rfl) ?_
  refine wlg_yes rfl (ro_cmp (r := true) rfl rfl (congrArg some (decide_eq_true (by omega)))) ?_
  refine wl (ro_pick rfl rfl rfl) ?_
  refine wl (ro_assign rfl) ?_
  refine wl_nil (x_then (hK16 _ _ ?_))
  clear hK16 K16
  refine c_ret (x_blkR (x_thenR ?_))
  refine bp_ret Tryz.results154 rfl ?_
  exact ⟨rfl, hF⟩
set_option maxHeartbeats 4000000 in
theorem fit_16 (h : FV w ow cb gb sp dp bv t k R j r m) (hz : (fsAt (progF t (k + 1)) j).code.length = z + 3) (hi : InsX (protoOf (fsAt (progF t (k + 1)) j)) z (clO (Psf (progF t (k + 1))) (paF (paL t 0)) j) 16 x) (h16 : x < 65535) (hln : (progF t (k + 1)).length = k + 1) :
    Ret Tryz.prog 154 [ptrAt gb (j * 11), .agg #[u8n 16, u16c x]] w (fun r w' => r = .bool true ∧ Fram none' w w') := by
  have hF : Fram none' w w := Fram.refl _ _
  have hC := h.hC
  have hG := h.hG
  have c0 := h.c0
  have c4 := h.c4
  obtain ⟨ua, uc, c5, -⟩ := h.c5
  obtain ⟨ka, kc, c6, oK⟩ := h.c6
  obtain ⟨ca, cc, c9, -⟩ := h.c9
  have hq : 1 ≤ x ∧ x ≤ 6 := hi.ia (by decide)
  refine ret_of Tryz.func154 rfl Tryz.ntmps154 rfl ?_
  refine c_seq (fun K1 hK1 => ?_)
  refine c_reg ?_ -- region 0 check.go:128
  refine wl_box (cs := [u8n 16, u16c x]) rfl rfl (fun b3 w1 hbb3 h3 F1 => ?_)
  have hbsb3 := Nat.le_trans hF.size hbb3
  have hnecbb3 : cb < b3 := Nat.lt_of_lt_of_le hC.lt hbb3
  have hnegbb3 : gb < b3 := Nat.lt_of_lt_of_le hG.lt hbb3
  replace hF := hF.thenDrew.thenN F1
  replace hC := F1.blkN hC
  replace hG := F1.blkN hG
  refine wl (ro_assign rfl) ?_
  refine wl_nil (x_then (hK1 _ _ ?_))
  clear hK1 K1
  refine forget [(0, _), (3, _)] ⟨rfl, rfl, trivial⟩ (fun e => ?_)
  refine c_seq (fun K2 hK2 => ?_)
  refine c_reg ?_ -- region 1 check.go:129
  refine wl (ro_fieldAddr (k := 1) rfl fo_203_1) ?_
  refine wl (ro_loadB rfl sc_201 (h3) (rfl)) ?_
  refine wl (ro_conv (a := (x : Int)) rfl sc_201 in_3 (Go.IntWalk.i64_in _ (by omega))) ?_
  refine wl (ro_assign rfl) ?_
  refine wl_nil (x_then (hK2 _ _ ?_))
  clear hK2 K2
  refine c_seq (fun K3 hK3 => ?_)
  refine c_seq (fun K4 hK4 => ?_)
  refine c_reg ?_ -- region 2 check.go:130
  refine wl (ro_fieldAddr (k := 0) rfl fo_203_0) ?_
  refine wl (ro_loadB rfl sc_5 (h3) (rfl)) ?_
  refine wl_nil (x_then (hK4 _ _ ?_))
  clear hK4 K4
  refine c_block ?_
  refine forget [(0, _), (3, _), (5, _), (10, _)] ⟨rfl, rfl, rfl, rfl, trivial⟩ (fun e => ?_)
  refine c_seq (fun K5 hK5 => ?_)
  refine c_reg ?_ -- region 3 check.go:131
  refine wl (ro_cmp rfl rfl rfl) ?_
  refine wl (ro_assign rfl) ?_
  refine wl_nil (x_then (hK5 _ _ ?_))
  clear hK5 K5
  refine wc_condF rfl ?_
  refine c_seq (fun K6 hK6 => ?_)
  refine c_seq (fun K7 hK7 => ?_)
  refine c_reg ?_ -- region 5 check.go:133
  refine wl (ro_cmp rfl rfl rfl) ?_
  refine wl (ro_assign rfl) ?_
  refine wl_nil (x_then (hK7 _ _ ?_))
  clear hK7 K7
  refine wc_condF rfl ?_
  refine c_reg ?_ -- region 6 check.go:133
  refine wl (ro_cmp rfl rfl rfl) ?_
  refine wl (ro_assign rfl) ?_
  refine wl_nil (x_then (hK6 _ _ ?_))
  clear hK6 K6
  refine wc_condF rfl ?_
  refine c_seq (fun K8 hK8 => ?_)
  refine c_seq (fun K9 hK9 => ?_)
  refine c_reg ?_ -- region 8 check.go:135
  refine wl (ro_cmp rfl rfl rfl) ?_
  refine wl (ro_assign rfl) ?_
  refine wl_nil (x_then (hK9 _ _ ?_))
  clear hK9 K9
  refine wc_condF rfl ?_
  refine c_seq (fun K10 hK10 => ?_)
  refine c_reg ?_ -- region 9 check.go:135
  refine wl (ro_cmp rfl rfl rfl) ?_
  refine wl (ro_assign rfl) ?_
  refine wl_nil (x_then (hK10 _ _ ?_))
  clear hK10 K10
  refine wc_condF rfl ?_
  refine c_seq (fun K11 hK11 => ?_)
  refine c_reg ?_ -- region 10 check.go:135
  refine wl (ro_cmp rfl rfl rfl) ?_
  refine wl (ro_assign rfl) ?_
  refine wl_nil (x_then (hK11 _ _ ?_))
  clear hK11 K11
  refine wc_condF rfl ?_
  refine c_seq (fun K12 hK12 => ?_)
  refine c_reg ?_ -- region 11 check.go:135
  refine wl (ro_cmp rfl rfl rfl) ?_
  refine wl (ro_assign rfl) ?_
  refine wl_nil (x_then (hK12 _ _ ?_))
  clear hK12 K12
  refine wc_condF rfl ?_
  refine c_reg ?_ -- region 12 check.go:135
  refine wl (ro_cmp rfl rfl rfl) ?_
  refine wl (ro_assign rfl) ?_
  refine wl_nil (x_then (hK8 _ _ ?_))
  clear hK8 K8
  refine wc_condF rfl ?_
  refine c_seq (fun K13 hK13 => ?_)
  refine c_seq (fun K14 hK14 => ?_)
  refine c_reg ?_ -- region 14 check.go:137
  refine wl (ro_cmp rfl rfl rfl) ?_
  refine wl (ro_assign rfl) ?_
  refine wl_nil (x_then (hK14 _ _ ?_))
  clear hK14 K14
  refine wc_condF rfl ?_
  refine c_reg ?_ -- region 15 check.go:137
  refine wl (ro_cmp rfl rfl rfl) ?_
  refine wl (ro_assign rfl) ?_
  refine wl_nil (x_then (hK13 _ _ ?_))
  clear hK13 K13
  refine wc_condF rfl ?_
  refine c_seq (fun K15 hK15 => ?_)
  refine c_reg ?_ -- region 17 check.go:139
  refine wl (ro_cmp rfl rfl rfl) ?_
  refine wl (ro_assign rfl) ?_
  refine wl_nil (x_then (hK15 _ _ ?_))
  clear hK15 K15
  refine wc_condF rfl ?_
  refine c_seq (fun K16 hK16 => ?_)
  refine c_reg ?_ -- region 19 check.go:141
  refine wl (ro_cmp rfl rfl rfl) ?_
  refine wl (ro_assign rfl) ?_
  refine wl_nil (x_then (hK16 _ _ ?_))
  clear hK16 K16
  refine wc_condT rfl ?_
  refine c_seq (fun K17 hK17 => ?_)
  refine c_reg ?_ -- region 20 check.go:142
  refine wl (ro_move rfl) ?_
  refine wl (ro_cmp (r := true) rfl rfl (congrArg some (decide_eq_true (by omega)))) ?_
  refine wl (ro_move rfl) ?_
  refine wlg_yes rfl (ro_move rfl) ?_
  refine wlg_yes rfl (ro_cmp (r := true) rfl rfl (congrArg some (decide_eq_true (by omega)))) ?_
  refine wl (ro_pick rfl rfl rfl) ?_
  refine wl (ro_assign rfl) ?_
  refine wl_nil (x_then (hK17 _ _ ?_))
  clear hK17 K17
  refine c_ret (x_blkR (x_thenR ?_))
  refine bp_ret Tryz.results154 rfl ?_
  exact ⟨rfl, hF⟩
set_option maxHeartbeats 4000000 in
theorem fit_21 (h : FV w ow cb gb sp dp bv t k R j r m) (hz : (fsAt (progF t (k + 1)) j).code.length = z + 3) (hi : InsX (protoOf (fsAt (progF t (k + 1)) j)) z (clO (Psf (progF t (k + 1))) (paF (paL t 0)) j) 21 x) (h16 : x < 65535) (hln : (progF t (k + 1)).length = k + 1) :
    Ret Tryz.prog 154 [ptrAt gb (j * 11), .agg #[u8n 21, u16c x]] w (fun r w' => r = .bool true ∧ Fram none' w w') := by
  have hF : Fram none' w w := Fram.refl _ _
  have hC := h.hC
  have hG := h.hG
  have c0 := h.c0
  have c4 := h.c4
  obtain ⟨ua, uc, c5, -⟩ := h.c5
  obtain ⟨ka, kc, c6, oK⟩ := h.c6
  obtain ⟨ca, cc, c9, -⟩ := h.c9
  have hq : x ≤ z := hi.ij (by decide)
  refine ret_of Tryz.func154 rfl Tryz.ntmps154 rfl ?_
  refine c_seq (fun K1 hK1 => ?_)
  refine c_reg ?_ -- region 0 check.go:128
  refine wl_box (cs := [u8n 21, u16c x]) rfl rfl (fun b3 w1 hbb3 h3 F1 => ?_)
  have hbsb3 := Nat.le_trans hF.size hbb3
  have hnecbb3 : cb < b3 := Nat.lt_of_lt_of_le hC.lt hbb3
  have hnegbb3 : gb < b3 := Nat.lt_of_lt_of_le hG.lt hbb3
  replace hF := hF.thenDrew.thenN F1
  replace hC := F1.blkN hC
  replace hG := F1.blkN hG
  refine wl (ro_assign rfl) ?_
  refine wl_nil (x_then (hK1 _ _ ?_))
  clear hK1 K1
  refine forget [(0, _), (3, _)] ⟨rfl, rfl, trivial⟩ (fun e => ?_)
  refine c_seq (fun K2 hK2 => ?_)
  refine c_reg ?_ -- region 1 check.go:129
  refine wl (ro_fieldAddr (k := 1) rfl fo_203_1) ?_
  refine wl (ro_loadB rfl sc_201 (h3) (rfl)) ?_
  refine wl (ro_conv (a := (x : Int)) rfl sc_201 in_3 (Go.IntWalk.i64_in _ (by omega))) ?_
  refine wl (ro_assign rfl) ?_
  refine wl_nil (x_then (hK2 _ _ ?_))
  clear hK2 K2
  refine c_seq (fun K3 hK3 => ?_)
  refine c_seq (fun K4 hK4 => ?_)
  refine c_reg ?_ -- region 2 check.go:130
  refine wl (ro_fieldAddr (k := 0) rfl fo_203_0) ?_
  refine wl (ro_loadB rfl sc_5 (h3) (rfl)) ?_
  refine wl_nil (x_then (hK4 _ _ ?_))
  clear hK4 K4
  refine c_block ?_
  refine forget [(0, _), (3, _), (5, _), (10, _)] ⟨rfl, rfl, rfl, rfl, trivial⟩ (fun e => ?_)
  refine c_seq (fun K5 hK5 => ?_)
  refine c_reg ?_ -- region 3 check.go:131
  refine wl (ro_cmp rfl rfl rfl) ?_
  refine wl (ro_assign rfl) ?_
  refine wl_nil (x_then (hK5 _ _ ?_))
  clear hK5 K5
  refine wc_condF rfl ?_
  refine c_seq (fun K6 hK6 => ?_)
  refine c_seq (fun K7 hK7 => ?_)
  refine c_reg ?_ -- region 5 check.go:133
  refine wl (ro_cmp rfl rfl rfl) ?_
  refine wl (ro_assign rfl) ?_
  refine wl_nil (x_then (hK7 _ _ ?_))
  clear hK7 K7
  refine wc_condF rfl ?_
  refine c_reg ?_ -- region 6 check.go:133
  refine wl (ro_cmp rfl rfl rfl) ?_
  refine wl (ro_assign rfl) ?_
  refine wl_nil (x_then (hK6 _ _ ?_))
  clear hK6 K6
  refine wc_condF rfl ?_
  refine c_seq (fun K8 hK8 => ?_)
  refine c_seq (fun K9 hK9 => ?_)
  refine c_reg ?_ -- region 8 check.go:135
  refine wl (ro_cmp rfl rfl rfl) ?_
  refine wl (ro_assign rfl) ?_
  refine wl_nil (x_then (hK9 _ _ ?_))
  clear hK9 K9
  refine wc_condF rfl ?_
  refine c_seq (fun K10 hK10 => ?_)
  refine c_reg ?_ -- region 9 check.go:135
  refine wl (ro_cmp rfl rfl rfl) ?_
  refine wl (ro_assign rfl) ?_
  refine wl_nil (x_then (hK10 _ _ ?_))
  clear hK10 K10
  refine wc_condF rfl ?_
  refine c_seq (fun K11 hK11 => ?_)
  refine c_reg ?_ -- region 10 check.go:135
  refine wl (ro_cmp rfl rfl rfl) ?_
  refine wl (ro_assign rfl) ?_
  refine wl_nil (x_then (hK11 _ _ ?_))
  clear hK11 K11
  refine wc_condF rfl ?_
  refine c_seq (fun K12 hK12 => ?_)
  refine c_reg ?_ -- region 11 check.go:135
  refine wl (ro_cmp rfl rfl rfl) ?_
  refine wl (ro_assign rfl) ?_
  refine wl_nil (x_then (hK12 _ _ ?_))
  clear hK12 K12
  refine wc_condF rfl ?_
  refine c_reg ?_ -- region 12 check.go:135
  refine wl (ro_cmp rfl rfl rfl) ?_
  refine wl (ro_assign rfl) ?_
  refine wl_nil (x_then (hK8 _ _ ?_))
  clear hK8 K8
  refine wc_condF rfl ?_
  refine c_seq (fun K13 hK13 => ?_)
  refine c_seq (fun K14 hK14 => ?_)
  refine c_reg ?_ -- region 14 check.go:137
  refine wl (ro_cmp rfl rfl rfl) ?_
  refine wl (ro_assign rfl) ?_
  refine wl_nil (x_then (hK14 _ _ ?_))
  clear hK14 K14
  refine wc_condF rfl ?_
  refine c_reg ?_ -- region 15 check.go:137
  refine wl (ro_cmp rfl rfl rfl) ?_
  refine wl (ro_assign rfl) ?_
  refine wl_nil (x_then (hK13 _ _ ?_))
  clear hK13 K13
  refine wc_condF rfl ?_
  refine c_seq (fun K15 hK15 => ?_)
  refine c_reg ?_ -- region 17 check.go:139
  refine wl (ro_cmp rfl rfl rfl) ?_
  refine wl (ro_assign rfl) ?_
  refine wl_nil (x_then (hK15 _ _ ?_))
  clear hK15 K15
  refine wc_condF rfl ?_
  refine c_seq (fun K16 hK16 => ?_)
  refine c_reg ?_ -- region 19 check.go:141
  refine wl (ro_cmp rfl rfl rfl) ?_
  refine wl (ro_assign rfl) ?_
  refine wl_nil (x_then (hK16 _ _ ?_))
  clear hK16 K16
  refine wc_condF rfl ?_
  refine c_seq (fun K17 hK17 => ?_)
  refine c_seq (fun K18 hK18 => ?_)
  refine c_reg ?_ -- region 21 check.go:143
  refine wl (ro_cmp rfl rfl rfl) ?_
  refine wl (ro_assign rfl) ?_
  refine wl_nil (x_then (hK18 _ _ ?_))
  clear hK18 K18
  refine wc_condT rfl ?_
  refine c_skip (x_then (hK17 _ _ ?_))
  clear hK17 K17
  refine wc_condT rfl ?_
  refine c_seq (fun K19 hK19 => ?_)
  refine c_reg ?_ -- region 25 check.go:144
  refine wl (ro_move rfl) ?_
  refine wl (ro_move rfl) ?_
  refine wl (ro_nilCheck rfl) ?_
  refine wl (ro_fieldAddr (k := 9) rfl fo_199_9) ?_
  refine wl (ro_loadB rfl sc_196 (hG) (c9)) ?_
  refine wl (ro_lenL rfl se_196) ?_
  refine wl (ro_cmp (r := true) rfl rfl (congrArg some (decide_eq_true (by omega)))) ?_
  refine wl (ro_move rfl) ?_
  refine wlg_no rfl ?_
  refine wlg_no rfl ?_
  refine wlg_no rfl ?_
  refine wl (ro_pick rfl rfl rfl) ?_
  refine wl (ro_assign rfl) ?_
  refine wl_nil (x_then (hK19 _ _ ?_))
  clear hK19 K19
  refine c_ret (x_blkR (x_thenR ?_))
  refine bp_ret Tryz.results154 rfl ?_
  exact ⟨rfl, hF⟩
set_option maxHeartbeats 4000000 in
theorem fit_22 (h : FV w ow cb gb sp dp bv t k R j r m) (hz : (fsAt (progF t (k + 1)) j).code.length = z + 3) (hi : InsX (protoOf (fsAt (progF t (k + 1)) j)) z (clO (Psf (progF t (k + 1))) (paF (paL t 0)) j) 22 x) (h16 : x < 65535) (hln : (progF t (k + 1)).length = k + 1) :
    Ret Tryz.prog 154 [ptrAt gb (j * 11), .agg #[u8n 22, u16c x]] w (fun r w' => r = .bool true ∧ Fram none' w w') := by
  have hF : Fram none' w w := Fram.refl _ _
  have hC := h.hC
  have hG := h.hG
  have c0 := h.c0
  have c4 := h.c4
  obtain ⟨ua, uc, c5, -⟩ := h.c5
  obtain ⟨ka, kc, c6, oK⟩ := h.c6
  obtain ⟨ca, cc, c9, -⟩ := h.c9
  have hq : x ≤ z := hi.ij (by decide)
  refine ret_of Tryz.func154 rfl Tryz.ntmps154 rfl ?_
  refine c_seq (fun K1 hK1 => ?_)
  refine c_reg ?_ -- region 0 check.go:128
  refine wl_box (cs := [u8n 22, u16c x]) rfl rfl (fun b3 w1 hbb3 h3 F1 => ?_)
  have hbsb3 := Nat.le_trans hF.size hbb3
  have hnecbb3 : cb < b3 := Nat.lt_of_lt_of_le hC.lt hbb3
  have hnegbb3 : gb < b3 := Nat.lt_of_lt_of_le hG.lt hbb3
  replace hF := hF.thenDrew.thenN F1
  replace hC := F1.blkN hC
  replace hG := F1.blkN hG
  refine wl (ro_assign rfl) ?_
  refine wl_nil (x_then (hK1 _ _ ?_))
  clear hK1 K1
  refine forget [(0, _), (3, _)] ⟨rfl, rfl, trivial⟩ (fun e => ?_)
  refine c_seq (fun K2 hK2 => ?_)
  refine c_reg ?_ -- region 1 check.go:129
  refine wl (ro_fieldAddr (k := 1) rfl fo_203_1) ?_
  refine wl (ro_loadB rfl sc_201 (h3) (rfl)) ?_
  refine wl (ro_conv (a := (x : Int)) rfl sc_201 in_3 (Go.IntWalk.i64_in _ (by omega))) ?_
  refine wl (ro_assign rfl) ?_
  refine wl_nil (x_then (hK2 _ _ ?_))
  clear hK2 K2
  refine c_seq (fun K3 hK3 => ?_)
  refine c_seq (fun K4 hK4 => ?_)
  refine c_reg ?_ -- region 2 check.go:130
  refine wl (ro_fieldAddr (k := 0) rfl fo_203_0) ?_
  refine wl (ro_loadB rfl sc_5 (h3) (rfl)) ?_
  refine wl_nil (x_then (hK4 _ _ ?_))
  clear hK4 K4
  refine c_block ?_
  refine forget [(0, _), (3, _), (5, _), (10, _)] ⟨rfl, rfl, rfl, rfl, trivial⟩ (fun e => ?_)
  refine c_seq (fun K5 hK5 => ?_)
  refine c_reg ?_ -- region 3 check.go:131
  refine wl (ro_cmp rfl rfl rfl) ?_
  refine wl (ro_assign rfl) ?_
  refine wl_nil (x_then (hK5 _ _ ?_))
  clear hK5 K5
  refine wc_condF rfl ?_
  refine c_seq (fun K6 hK6 => ?_)
  refine c_seq (fun K7 hK7 => ?_)
  refine c_reg ?_ -- region 5 check.go:133
  refine wl (ro_cmp rfl rfl rfl) ?_
  refine wl (ro_assign rfl) ?_
  refine wl_nil (x_then (hK7 _ _ ?_))
  clear hK7 K7
  refine wc_condF rfl ?_
  refine c_reg ?_ -- region 6 check.go:133
  refine wl (ro_cmp rfl rfl rfl) ?_
  refine wl (ro_assign rfl) ?_
  refine wl_nil (x_then (hK6 _ _ ?_))
  clear hK6 K6
  refine wc_condF rfl ?_
  refine c_seq (fun K8 hK8 => ?_)
  refine c_seq (fun K9 hK9 => ?_)
  refine c_reg ?_ -- region 8 check.go:135
  refine wl (ro_cmp rfl rfl rfl) ?_
  refine wl (ro_assign rfl) ?_
  refine wl_nil (x_then (hK9 _ _ ?_))
  clear hK9 K9
  refine wc_condF rfl ?_
  refine c_seq (fun K10 hK10 => ?_)
  refine c_reg ?_ -- region 9 check.go:135
  refine wl (ro_cmp rfl rfl rfl) ?_
  refine wl (ro_assign rfl) ?_
  refine wl_nil (x_then (hK10 _ _ ?_))
  clear hK10 K10
  refine wc_condF rfl ?_
  refine c_seq (fun K11 hK11 => ?_)
  refine c_reg ?_ -- region 10 check.go:135
  refine wl (ro_cmp rfl rfl rfl) ?_
  refine wl (ro_assign rfl) ?_
  refine wl_nil (x_then (hK11 _ _ ?_))
  clear hK11 K11
  refine wc_condF rfl ?_
  refine c_seq (fun K12 hK12 => ?_)
  refine c_reg ?_ -- region 11 check.go:135
  refine wl (ro_cmp rfl rfl rfl) ?_
  refine wl (ro_assign rfl) ?_
  refine wl_nil (x_then (hK12 _ _ ?_))
  clear hK12 K12
  refine wc_condF rfl ?_
  refine c_reg ?_ -- region 12 check.go:135
  refine wl (ro_cmp rfl rfl rfl) ?_
  refine wl (ro_assign rfl) ?_
  refine wl_nil (x_then (hK8 _ _ ?_))
  clear hK8 K8
  refine wc_condF rfl ?_
  refine c_seq (fun K13 hK13 => ?_)
  refine c_seq (fun K14 hK14 => ?_)
  refine c_reg ?_ -- region 14 check.go:137
  refine wl (ro_cmp rfl rfl rfl) ?_
  refine wl (ro_assign rfl) ?_
  refine wl_nil (x_then (hK14 _ _ ?_))
  clear hK14 K14
  refine wc_condF rfl ?_
  refine c_reg ?_ -- region 15 check.go:137
  refine wl (ro_cmp rfl rfl rfl) ?_
  refine wl (ro_assign rfl) ?_
  refine wl_nil (x_then (hK13 _ _ ?_))
  clear hK13 K13
  refine wc_condF rfl ?_
  refine c_seq (fun K15 hK15 => ?_)
  refine c_reg ?_ -- region 17 check.go:139
  refine wl (ro_cmp rfl rfl rfl) ?_
  refine wl (ro_assign rfl) ?_
  refine wl_nil (x_then (hK15 _ _ ?_))
  clear hK15 K15
  refine wc_condF rfl ?_
  refine c_seq (fun K16 hK16 => ?_)
  refine c_reg ?_ -- region 19 check.go:141
  refine wl (ro_cmp rfl rfl rfl) ?_
  refine wl (ro_assign rfl) ?_
  refine wl_nil (x_then (hK16 _ _ ?_))
  clear hK16 K16
  refine wc_condF rfl ?_
  refine c_seq (fun K17 hK17 => ?_)
  refine c_seq (fun K18 hK18 => ?_)
  refine c_reg ?_ -- region 21 check.go:143
  refine wl (ro_cmp rfl rfl rfl) ?_
  refine wl (ro_assign rfl) ?_
  refine wl_nil (x_then (hK18 _ _ ?_))
  clear hK18 K18
  refine wc_condF rfl ?_
  refine c_seq (fun K19 hK19 => ?_)
  refine c_reg ?_ -- region 22 check.go:143
  refine wl (ro_cmp rfl rfl rfl) ?_
  refine wl (ro_assign rfl) ?_
  refine wl_nil (x_then (hK19 _ _ ?_))
  clear hK19 K19
  refine wc_condT rfl ?_
  refine c_skip (x_then (hK17 _ _ ?_))
  clear hK17 K17
  refine wc_condT rfl ?_
  refine c_seq (fun K20 hK20 => ?_)
  refine c_reg ?_ -- region 25 check.go:144
  refine wl (ro_move rfl) ?_
  refine wl (ro_move rfl) ?_
  refine wl (ro_nilCheck rfl) ?_
  refine wl (ro_fieldAddr (k := 9) rfl fo_199_9) ?_
  refine wl (ro_loadB rfl sc_196 (hG) (c9)) ?_
  refine wl (ro_lenL rfl se_196) ?_
  refine wl (ro_cmp (r := true) rfl rfl (congrArg some (decide_eq_true (by omega)))) ?_
  refine wl (ro_move rfl) ?_
  refine wlg_no rfl ?_
  refine wlg_no rfl ?_
  refine wlg_no rfl ?_
  refine wl (ro_pick rfl rfl rfl) ?_
  refine wl (ro_assign rfl) ?_
  refine wl_nil (x_then (hK20 _ _ ?_))
  clear hK20 K20
  refine c_ret (x_blkR (x_thenR ?_))
  refine bp_ret Tryz.results154 rfl ?_
  exact ⟨rfl, hF⟩
set_option maxHeartbeats 4000000 in
theorem fit_23 (h : FV w ow cb gb sp dp bv t k R j r m) (hz : (fsAt (progF t (k + 1)) j).code.length = z + 3) (hi : InsX (protoOf (fsAt (progF t (k + 1)) j)) z (clO (Psf (progF t (k + 1))) (paF (paL t 0)) j) 23 x) (h16 : x < 65535) (hln : (progF t (k + 1)).length = k + 1) :
    Ret Tryz.prog 154 [ptrAt gb (j * 11), .agg #[u8n 23, u16c x]] w (fun r w' => r = .bool true ∧ Fram none' w w') := by
  have hF : Fram none' w w := Fram.refl _ _
  have hC := h.hC
  have hG := h.hG
  have c0 := h.c0
  have c4 := h.c4
  obtain ⟨ua, uc, c5, -⟩ := h.c5
  obtain ⟨ka, kc, c6, oK⟩ := h.c6
  obtain ⟨ca, cc, c9, -⟩ := h.c9
  have hq : x ≤ z := hi.ij (by decide)
  refine ret_of Tryz.func154 rfl Tryz.ntmps154 rfl ?_
  refine c_seq (fun K1 hK1 => ?_)
  refine c_reg ?_ -- region 0 check.go:128
  refine wl_box (cs := [u8n 23, u16c x]) rfl rfl (fun b3 w1 hbb3 h3 F1 => ?_)
  have hbsb3 := Nat.le_trans hF.size hbb3
  have hnecbb3 : cb < b3 := Nat.lt_of_lt_of_le hC.lt hbb3
  have hnegbb3 : gb < b3 := Nat.lt_of_lt_of_le hG.lt hbb3
  replace hF := hF.thenDrew.thenN F1
  replace hC := F1.blkN hC
  replace hG := F1.blkN hG
  refine wl (ro_assign rfl) ?_
  refine wl_nil (x_then (hK1 _ _ ?_))
  clear hK1 K1
  refine forget [(0, _), (3, _)] ⟨rfl, rfl, trivial⟩ (fun e => ?_)
  refine c_seq (fun K2 hK2 => ?_)
  refine c_reg ?_ -- region 1 check.go:129
  refine wl (ro_fieldAddr (k := 1) rfl fo_203_1) ?_
  refine wl (ro_loadB rfl sc_201 (h3) (rfl)) ?_
  refine wl (ro_conv (a := (x : Int)) rfl sc_201 in_3 (Go.IntWalk.i64_in _ (by omega))) ?_
  refine wl (ro_assign rfl) ?_
  refine wl_nil (x_then (hK2 _ _ ?_))
  clear hK2 K2
  refine c_seq (fun K3 hK3 => ?_)
  refine c_seq (fun K4 hK4 => ?_)
  refine c_reg ?_ -- region 2 check.go:130
  refine wl (ro_fieldAddr (k := 0) rfl fo_203_0) ?_
  refine wl (ro_loadB rfl sc_5 (h3) (rfl)) ?_
  refine wl_nil (x_then (hK4 _ _ ?_))
  clear hK4 K4
  refine c_block ?_
  refine forget [(0, _), (3, _), (5, _), (10, _)] ⟨rfl, rfl, rfl, rfl, trivial⟩ (fun e => ?_)
  refine c_seq (fun K5 hK5 => ?_)
  refine c_reg ?_ -- region 3 check.go:131
  refine wl (ro_cmp rfl rfl rfl) ?_
  refine wl (ro_assign rfl) ?_
  refine wl_nil (x_then (hK5 _ _ ?_))
  clear hK5 K5
  refine wc_condF rfl ?_
  refine c_seq (fun K6 hK6 => ?_)
  refine c_seq (fun K7 hK7 => ?_)
  refine c_reg ?_ -- region 5 check.go:133
  refine wl (ro_cmp rfl rfl rfl) ?_
  refine wl (ro_assign rfl) ?_
  refine wl_nil (x_then (hK7 _ _ ?_))
  clear hK7 K7
  refine wc_condF rfl ?_
  refine c_reg ?_ -- region 6 check.go:133
  refine wl (ro_cmp rfl rfl rfl) ?_
  refine wl (ro_assign rfl) ?_
  refine wl_nil (x_then (hK6 _ _ ?_))
  clear hK6 K6
  refine wc_condF rfl ?_
  refine c_seq (fun K8 hK8 => ?_)
  refine c_seq (fun K9 hK9 => ?_)
  refine c_reg ?_ -- region 8 check.go:135
  refine wl (ro_cmp rfl rfl rfl) ?_
  refine wl (ro_assign rfl) ?_
  refine wl_nil (x_then (hK9 _ _ ?_))
  clear hK9 K9
  refine wc_condF rfl ?_
  refine c_seq (fun K10 hK10 => ?_)
  refine c_reg ?_ -- region 9 check.go:135
  refine wl (ro_cmp rfl rfl rfl) ?_
  refine wl (ro_assign rfl) ?_
  refine wl_nil (x_then (hK10 _ _ ?_))
  clear hK10 K10
  refine wc_condF rfl ?_
  refine c_seq (fun K11 hK11 => ?_)
  refine c_reg ?_ -- region 10 check.go:135
  refine wl (ro_cmp rfl rfl rfl) ?_
  refine wl (ro_assign rfl) ?_
  refine wl_nil (x_then (hK11 _ _ ?_))
  clear hK11 K11
  refine wc_condF rfl ?_
  refine c_seq (fun K12 hK12 => ?_)
  refine c_reg ?_ -- region 11 check.go:135
  refine wl (ro_cmp rfl rfl rfl) ?_
  refine wl (ro_assign rfl) ?_
  refine wl_nil (x_then (hK12 _ _ ?_))
  clear hK12 K12
  refine wc_condF rfl ?_
  refine c_reg ?_ -- region 12 check.go:135
  refine wl (ro_cmp rfl rfl rfl) ?_
  refine wl (ro_assign rfl) ?_
  refine wl_nil (x_then (hK8 _ _ ?_))
  clear hK8 K8
  refine wc_condF rfl ?_
  refine c_seq (fun K13 hK13 => ?_)
  refine c_seq (fun K14 hK14 => ?_)
  refine c_reg ?_ -- region 14 check.go:137
  refine wl (ro_cmp rfl rfl rfl) ?_
  refine wl (ro_assign rfl) ?_
  refine wl_nil (x_then (hK14 _ _ ?_))
  clear hK14 K14
  refine wc_condF rfl ?_
  refine c_reg ?_ -- region 15 check.go:137
  refine wl (ro_cmp rfl rfl rfl) ?_
  refine wl (ro_assign rfl) ?_
  refine wl_nil (x_then (hK13 _ _ ?_))
  clear hK13 K13
  refine wc_condF rfl ?_
  refine c_seq (fun K15 hK15 => ?_)
  refine c_reg ?_ -- region 17 check.go:139
  refine wl (ro_cmp rfl rfl rfl) ?_
  refine wl (ro_assign rfl) ?_
  refine wl_nil (x_then (hK15 _ _ ?_))
  clear hK15 K15
  refine wc_condF rfl ?_
  refine c_seq (fun K16 hK16 => ?_)
  refine c_reg ?_ -- region 19 check.go:141
  refine wl (ro_cmp rfl rfl rfl) ?_
  refine wl (ro_assign rfl) ?_
  refine wl_nil (x_then (hK16 _ _ ?_))
  clear hK16 K16
  refine wc_condF rfl ?_
  refine c_seq (fun K17 hK17 => ?_)
  refine c_seq (fun K18 hK18 => ?_)
  refine c_reg ?_ -- region 21 check.go:143
  refine wl (ro_cmp rfl rfl rfl) ?_
  refine wl (ro_assign rfl) ?_
  refine wl_nil (x_then (hK18 _ _ ?_))
  clear hK18 K18
  refine wc_condF rfl ?_
  refine c_seq (fun K19 hK19 => ?_)
  refine c_reg ?_ -- region 22 check.go:143
  refine wl (ro_cmp rfl rfl rfl) ?_
  refine wl (ro_assign rfl) ?_
  refine wl_nil (x_then (hK19 _ _ ?_))
  clear hK19 K19
  refine wc_condF rfl ?_
  refine c_seq (fun K20 hK20 => ?_)
  refine c_reg ?_ -- region 23 check.go:143
  refine wl (ro_cmp rfl rfl rfl) ?_
  refine wl (ro_assign rfl) ?_
  refine wl_nil (x_then (hK20 _ _ ?_))
  clear hK20 K20
  refine wc_condT rfl ?_
  refine c_skip (x_then (hK17 _ _ ?_))
  clear hK17 K17
  refine wc_condT rfl ?_
  refine c_seq (fun K21 hK21 => ?_)
  refine c_reg ?_ -- region 25 check.go:144
  refine wl (ro_move rfl) ?_
  refine wl (ro_move rfl) ?_
  refine wl (ro_nilCheck rfl) ?_
  refine wl (ro_fieldAddr (k := 9) rfl fo_199_9) ?_
  refine wl (ro_loadB rfl sc_196 (hG) (c9)) ?_
  refine wl (ro_lenL rfl se_196) ?_
  refine wl (ro_cmp (r := true) rfl rfl (congrArg some (decide_eq_true (by omega)))) ?_
  refine wl (ro_move rfl) ?_
  refine wlg_no rfl ?_
  refine wlg_no rfl ?_
  refine wlg_no rfl ?_
  refine wl (ro_pick rfl rfl rfl) ?_
  refine wl (ro_assign rfl) ?_
  refine wl_nil (x_then (hK21 _ _ ?_))
  clear hK21 K21
  refine c_ret (x_blkR (x_thenR ?_))
  refine bp_ret Tryz.results154 rfl ?_
  exact ⟨rfl, hF⟩
set_option maxHeartbeats 4000000 in
theorem fit_24 (h : FV w ow cb gb sp dp bv t k R j r m) (hz : (fsAt (progF t (k + 1)) j).code.length = z + 3) (hi : InsX (protoOf (fsAt (progF t (k + 1)) j)) z (clO (Psf (progF t (k + 1))) (paF (paL t 0)) j) 24 x) (h16 : x < 65535) (hln : (progF t (k + 1)).length = k + 1) :
    Ret Tryz.prog 154 [ptrAt gb (j * 11), .agg #[u8n 24, u16c x]] w (fun r w' => r = .bool true ∧ Fram none' w w') := by
  have hF : Fram none' w w := Fram.refl _ _
  have hC := h.hC
  have hG := h.hG
  have c0 := h.c0
  have c4 := h.c4
  obtain ⟨ua, uc, c5, -⟩ := h.c5
  obtain ⟨ka, kc, c6, oK⟩ := h.c6
  obtain ⟨ca, cc, c9, -⟩ := h.c9
  have hq : x ≤ z := hi.ij (by decide)
  refine ret_of Tryz.func154 rfl Tryz.ntmps154 rfl ?_
  refine c_seq (fun K1 hK1 => ?_)
  refine c_reg ?_ -- region 0 check.go:128
  refine wl_box (cs := [u8n 24, u16c x]) rfl rfl (fun b3 w1 hbb3 h3 F1 => ?_)
  have hbsb3 := Nat.le_trans hF.size hbb3
  have hnecbb3 : cb < b3 := Nat.lt_of_lt_of_le hC.lt hbb3
  have hnegbb3 : gb < b3 := Nat.lt_of_lt_of_le hG.lt hbb3
  replace hF := hF.thenDrew.thenN F1
  replace hC := F1.blkN hC
  replace hG := F1.blkN hG
  refine wl (ro_assign rfl) ?_
  refine wl_nil (x_then (hK1 _ _ ?_))
  clear hK1 K1
  refine forget [(0, _), (3, _)] ⟨rfl, rfl, trivial⟩ (fun e => ?_)
  refine c_seq (fun K2 hK2 => ?_)
  refine c_reg ?_ -- region 1 check.go:129
  refine wl (ro_fieldAddr (k := 1) rfl fo_203_1) ?_
  refine wl (ro_loadB rfl sc_201 (h3) (rfl)) ?_
  refine wl (ro_conv (a := (x : Int)) rfl sc_201 in_3 (Go.IntWalk.i64_in _ (by omega))) ?_
  refine wl (ro_assign rfl) ?_
  refine wl_nil (x_then (hK2 _ _ ?_))
  clear hK2 K2
  refine c_seq (fun K3 hK3 => ?_)
  refine c_seq (fun K4 hK4 => ?_)
  refine c_reg ?_ -- region 2 check.go:130
  refine wl (ro_fieldAddr (k := 0) rfl fo_203_0) ?_
  refine wl (ro_loadB rfl sc_5 (h3) (rfl)) ?_
  refine wl_nil (x_then (hK4 _ _ ?_))
  clear hK4 K4
  refine c_block ?_
  refine forget [(0, _), (3, _), (5, _), (10, _)] ⟨rfl, rfl, rfl, rfl, trivial⟩ (fun e => ?_)
  refine c_seq (fun K5 hK5 => ?_)
  refine c_reg ?_ -- region 3 check.go:131
  refine wl (ro_cmp rfl rfl rfl) ?_
  refine wl (ro_assign rfl) ?_
  refine wl_nil (x_then (hK5 _ _ ?_))
  clear hK5 K5
  refine wc_condF rfl ?_
  refine c_seq (fun K6 hK6 => ?_)
  refine c_seq (fun K7 hK7 => ?_)
  refine c_reg ?_ -- region 5 check.go:133
  refine wl (ro_cmp rfl rfl rfl) ?_
  refine wl (ro_assign rfl) ?_
  refine wl_nil (x_then (hK7 _ _ ?_))
  clear hK7 K7
  refine wc_condF rfl ?_
  refine c_reg ?_ -- region 6 check.go:133
  refine wl (ro_cmp rfl rfl rfl) ?_
  refine wl (ro_assign rfl) ?_
  refine wl_nil (x_then (hK6 _ _ ?_))
  clear hK6 K6
  refine wc_condF rfl ?_
  refine c_seq (fun K8 hK8 => ?_)
  refine c_seq (fun K9 hK9 => ?_)
  refine c_reg ?_ -- region 8 check.go:135
  refine wl (ro_cmp rfl rfl rfl) ?_
  refine wl (ro_assign rfl) ?_
  refine wl_nil (x_then (hK9 _ _ ?_))
  clear hK9 K9
  refine wc_condF rfl ?_
  refine c_seq (fun K10 hK10 => ?_)
  refine c_reg ?_ -- region 9 check.go:135
  refine wl (ro_cmp rfl rfl rfl) ?_
  refine wl (ro_assign rfl) ?_
  refine wl_nil (x_then (hK10 _ _ ?_))
  clear hK10 K10
  refine wc_condF rfl ?_
  refine c_seq (fun K11 hK11 => ?_)
  refine c_reg ?_ -- region 10 check.go:135
  refine wl (ro_cmp rfl rfl rfl) ?_
  refine wl (ro_assign rfl) ?_
  refine wl_nil (x_then (hK11 _ _ ?_))
  clear hK11 K11
  refine wc_condF rfl ?_
  refine c_seq (fun K12 hK12 => ?_)
  refine c_reg ?_ -- region 11 check.go:135
  refine wl (ro_cmp rfl rfl rfl) ?_
  refine wl (ro_assign rfl) ?_
  refine wl_nil (x_then (hK12 _ _ ?_))
  clear hK12 K12
  refine wc_condF rfl ?_
  refine c_reg ?_ -- region 12 check.go:135
  refine wl (ro_cmp rfl rfl rfl) ?_
  refine wl (ro_assign rfl) ?_
  refine wl_nil (x_then (hK8 _ _ ?_))
  clear hK8 K8
  refine wc_condF rfl ?_
  refine c_seq (fun K13 hK13 => ?_)
  refine c_seq (fun K14 hK14 => ?_)
  refine c_reg ?_ -- region 14 check.go:137
  refine wl (ro_cmp rfl rfl rfl) ?_
  refine wl (ro_assign rfl) ?_
  refine wl_nil (x_then (hK14 _ _ ?_))
  clear hK14 K14
  refine wc_condF rfl ?_
  refine c_reg ?_ -- region 15 check.go:137
  refine wl (ro_cmp rfl rfl rfl) ?_
  refine wl (ro_assign rfl) ?_
  refine wl_nil (x_then (hK13 _ _ ?_))
  clear hK13 K13
  refine wc_condF rfl ?_
  refine c_seq (fun K15 hK15 => ?_)
  refine c_reg ?_ -- region 17 check.go:139
  refine wl (ro_cmp rfl rfl rfl) ?_
  refine wl (ro_assign rfl) ?_
  refine wl_nil (x_then (hK15 _ _ ?_))
  clear hK15 K15
  refine wc_condF rfl ?_
  refine c_seq (fun K16 hK16 => ?_)
  refine c_reg ?_ -- region 19 check.go:141
  refine wl (ro_cmp rfl rfl rfl) ?_
  refine wl (ro_assign rfl) ?_
  refine wl_nil (x_then (hK16 _ _ ?_))
  clear hK16 K16
  refine wc_condF rfl ?_
  refine c_seq (fun K17 hK17 => ?_)
  refine c_seq (fun K18 hK18 => ?_)
  refine c_reg ?_ -- region 21 check.go:143
  refine wl (ro_cmp rfl rfl rfl) ?_
  refine wl (ro_assign rfl) ?_
  refine wl_nil (x_then (hK18 _ _ ?_))
  clear hK18 K18
  refine wc_condF rfl ?_
  refine c_seq (fun K19 hK19 => ?_)
  refine c_reg ?_ -- region 22 check.go:143
  refine wl (ro_cmp rfl rfl rfl) ?_
  refine wl (ro_assign rfl) ?_
  refine wl_nil (x_then (hK19 _ _ ?_))
  clear hK19 K19
  refine wc_condF rfl ?_
  refine c_seq (fun K20 hK20 => ?_)
  refine c_reg ?_ -- region 23 check.go:143
  refine wl (ro_cmp rfl rfl rfl) ?_
  refine wl (ro_assign rfl) ?_
  refine wl_nil (x_then (hK20 _ _ ?_))
  clear hK20 K20
  refine wc_condF rfl ?_
  refine c_reg ?_ -- region 24 check.go:143
  refine wl (ro_cmp rfl rfl rfl) ?_
  refine wl (ro_assign rfl) ?_
  refine wl_nil (x_then (hK17 _ _ ?_))
  clear hK17 K17
  refine wc_condT rfl ?_
  refine c_seq (fun K21 hK21 => ?_)
  refine c_reg ?_ -- region 25 check.go:144
  refine wl (ro_move rfl) ?_
  refine wl (ro_move rfl) ?_
  refine wl (ro_nilCheck rfl) ?_
  refine wl (ro_fieldAddr (k := 9) rfl fo_199_9) ?_
  refine wl (ro_loadB rfl sc_196 (hG) (c9)) ?_
  refine wl (ro_lenL rfl se_196) ?_
  refine wl (ro_cmp (r := true) rfl rfl (congrArg some (decide_eq_true (by omega)))) ?_
  refine wl (ro_move rfl) ?_
  refine wlg_no rfl ?_
  refine wlg_no rfl ?_
  refine wlg_no rfl ?_
  refine wl (ro_pick rfl rfl rfl) ?_
  refine wl (ro_assign rfl) ?_
  refine wl_nil (x_then (hK21 _ _ ?_))
  clear hK21 K21
  refine c_ret (x_blkR (x_thenR ?_))
  refine bp_ret Tryz.results154 rfl ?_
  exact ⟨rfl, hF⟩
set_option maxHeartbeats 4000000 in
theorem fit_26 (h : FV w ow cb gb sp dp bv t k R j r m) (hz : (fsAt (progF t (k + 1)) j).code.length = z + 3) (hi : InsX (protoOf (fsAt (progF t (k + 1)) j)) z (clO (Psf (progF t (k + 1))) (paF (paL t 0)) j) 26 x) (h16 : x < 65535) (hln : (progF t (k + 1)).length = k + 1) :
    Ret Tryz.prog 154 [ptrAt gb (j * 11), .agg #[u8n 26, u16c x]] w (fun r w' => r = .bool true ∧ Fram none' w w') := by
  have hF : Fram none' w w := Fram.refl _ _
  have hC := h.hC
  have hG := h.hG
  have c0 := h.c0
  have c4 := h.c4
  obtain ⟨ua, uc, c5, -⟩ := h.c5
  obtain ⟨ka, kc, c6, oK⟩ := h.c6
  obtain ⟨ca, cc, c9, -⟩ := h.c9
  have hq : x ≤ 3 := hi.ik rfl
  refine ret_of Tryz.func154 rfl Tryz.ntmps154 rfl ?_
  refine c_seq (fun K1 hK1 => ?_)
  refine c_reg ?_ -- region 0 check.go:128
  refine wl_box (cs := [u8n 26, u16c x]) rfl rfl (fun b3 w1 hbb3 h3 F1 => ?_)
  have hbsb3 := Nat.le_trans hF.size hbb3
  have hnecbb3 : cb < b3 := Nat.lt_of_lt_of_le hC.lt hbb3
  have hnegbb3 : gb < b3 := Nat.lt_of_lt_of_le hG.lt hbb3
  replace hF := hF.thenDrew.thenN F1
  replace hC := F1.blkN hC
  replace hG := F1.blkN hG
  refine wl (ro_assign rfl) ?_
  refine wl_nil (x_then (hK1 _ _ ?_))
  clear hK1 K1
  refine forget [(0, _), (3, _)] ⟨rfl, rfl, trivial⟩ (fun e => ?_)
  refine c_seq (fun K2 hK2 => ?_)
  refine c_reg ?_ -- region 1 check.go:129
  refine wl (ro_fieldAddr (k := 1) rfl fo_203_1) ?_
  refine wl (ro_loadB rfl sc_201 (h3) (rfl)) ?_
  refine wl (ro_conv (a := (x : Int)) rfl sc_201 in_3 (Go.IntWalk.i64_in _ (by omega))) ?_
  refine wl (ro_assign rfl) ?_
  refine wl_nil (x_then (hK2 _ _ ?_))
  clear hK2 K2
  refine c_seq (fun K3 hK3 => ?_)
  refine c_seq (fun K4 hK4 => ?_)
  refine c_reg ?_ -- region 2 check.go:130
  refine wl (ro_fieldAddr (k := 0) rfl fo_203_0) ?_
  refine wl (ro_loadB rfl sc_5 (h3) (rfl)) ?_
  refine wl_nil (x_then (hK4 _ _ ?_))
  clear hK4 K4
  refine c_block ?_
  refine forget [(0, _), (3, _), (5, _), (10, _)] ⟨rfl, rfl, rfl, rfl, trivial⟩ (fun e => ?_)
  refine c_seq (fun K5 hK5 => ?_)
  refine c_reg ?_ -- region 3 check.go:131
  refine wl (ro_cmp rfl rfl rfl) ?_
  refine wl (ro_assign rfl) ?_
  refine wl_nil (x_then (hK5 _ _ ?_))
  clear hK5 K5
  refine wc_condF rfl ?_
  refine c_seq (fun K6 hK6 => ?_)
  refine c_seq (fun K7 hK7 => ?_)
  refine c_reg ?_ -- region 5 check.go:133
  refine wl (ro_cmp rfl rfl rfl) ?_
  refine wl (ro_assign rfl) ?_
  refine wl_nil (x_then (hK7 _ _ ?_))
  clear hK7 K7
  refine wc_condF rfl ?_
  refine c_reg ?_ -- region 6 check.go:133
  refine wl (ro_cmp rfl rfl rfl) ?_
  refine wl (ro_assign rfl) ?_
  refine wl_nil (x_then (hK6 _ _ ?_))
  clear hK6 K6
  refine wc_condF rfl ?_
  refine c_seq (fun K8 hK8 => ?_)
  refine c_seq (fun K9 hK9 => ?_)
  refine c_reg ?_ -- region 8 check.go:135
  refine wl (ro_cmp rfl rfl rfl) ?_
  refine wl (ro_assign rfl) ?_
  refine wl_nil (x_then (hK9 _ _ ?_))
  clear hK9 K9
  refine wc_condF rfl ?_
  refine c_seq (fun K10 hK10 => ?_)
  refine c_reg ?_ -- region 9 check.go:135
  refine wl (ro_cmp rfl rfl rfl) ?_
  refine wl (ro_assign rfl) ?_
  refine wl_nil (x_then (hK10 _ _ ?_))
  clear hK10 K10
  refine wc_condF rfl ?_
  refine c_seq (fun K11 hK11 => ?_)
  refine c_reg ?_ -- region 10 check.go:135
  refine wl (ro_cmp rfl rfl rfl) ?_
  refine wl (ro_assign rfl) ?_
  refine wl_nil (x_then (hK11 _ _ ?_))
  clear hK11 K11
  refine wc_condF rfl ?_
  refine c_seq (fun K12 hK12 => ?_)
  refine c_reg ?_ -- region 11 check.go:135
  refine wl (ro_cmp rfl rfl rfl) ?_
  refine wl (ro_assign rfl) ?_
  refine wl_nil (x_then (hK12 _ _ ?_))
  clear hK12 K12
  refine wc_condF rfl ?_
  refine c_reg ?_ -- region 12 check.go:135
  refine wl (ro_cmp rfl rfl rfl) ?_
  refine wl (ro_assign rfl) ?_
  refine wl_nil (x_then (hK8 _ _ ?_))
  clear hK8 K8
  refine wc_condF rfl ?_
  refine c_seq (fun K13 hK13 => ?_)
  refine c_seq (fun K14 hK14 => ?_)
  refine c_reg ?_ -- region 14 check.go:137
  refine wl (ro_cmp rfl rfl rfl) ?_
  refine wl (ro_assign rfl) ?_
  refine wl_nil (x_then (hK14 _ _ ?_))
  clear hK14 K14
  refine wc_condF rfl ?_
  refine c_reg ?_ -- region 15 check.go:137
  refine wl (ro_cmp rfl rfl rfl) ?_
  refine wl (ro_assign rfl) ?_
  refine wl_nil (x_then (hK13 _ _ ?_))
  clear hK13 K13
  refine wc_condF rfl ?_
  refine c_seq (fun K15 hK15 => ?_)
  refine c_reg ?_ -- region 17 check.go:139
  refine wl (ro_cmp rfl rfl rfl) ?_
  refine wl (ro_assign rfl) ?_
  refine wl_nil (x_then (hK15 _ _ ?_))
  clear hK15 K15
  refine wc_condF rfl ?_
  refine c_seq (fun K16 hK16 => ?_)
  refine c_reg ?_ -- region 19 check.go:141
  refine wl (ro_cmp rfl rfl rfl) ?_
  refine wl (ro_assign rfl) ?_
  refine wl_nil (x_then (hK16 _ _ ?_))
  clear hK16 K16
  refine wc_condF rfl ?_
  refine c_seq (fun K17 hK17 => ?_)
  refine c_seq (fun K18 hK18 => ?_)
  refine c_reg ?_ -- region 21 check.go:143
  refine wl (ro_cmp rfl rfl rfl) ?_
  refine wl (ro_assign rfl) ?_
  refine wl_nil (x_then (hK18 _ _ ?_))
  clear hK18 K18
  refine wc_condF rfl ?_
  refine c_seq (fun K19 hK19 => ?_)
  refine c_reg ?_ -- region 22 check.go:143
  refine wl (ro_cmp rfl rfl rfl) ?_
  refine wl (ro_assign rfl) ?_
  refine wl_nil (x_then (hK19 _ _ ?_))
  clear hK19 K19
  refine wc_condF rfl ?_
  refine c_seq (fun K20 hK20 => ?_)
  refine c_reg ?_ -- region 23 check.go:143
  refine wl (ro_cmp rfl rfl rfl) ?_
  refine wl (ro_assign rfl) ?_
  refine wl_nil (x_then (hK20 _ _ ?_))
  clear hK20 K20
  refine wc_condF rfl ?_
  refine c_reg ?_ -- region 24 check.go:143
  refine wl (ro_cmp rfl rfl rfl) ?_
  refine wl (ro_assign rfl) ?_
  refine wl_nil (x_then (hK17 _ _ ?_))
  clear hK17 K17
  refine wc_condF rfl ?_
  refine c_seq (fun K21 hK21 => ?_)
  refine c_reg ?_ -- region 26 check.go:145
  refine wl (ro_cmp rfl rfl rfl) ?_
  refine wl (ro_assign rfl) ?_
  refine wl_nil (x_then (hK21 _ _ ?_))
  clear hK21 K21
  refine wc_condT rfl ?_
  refine c_seq (fun K22 hK22 => ?_)
  refine c_reg ?_ -- region 27 check.go:146
  refine wl (ro_move rfl) ?_
  refine wl (ro_cmp rfl rfl rfl) ?_
  refine wl (ro_assign rfl) ?_
  refine wl_nil (x_then (hK22 _ _ ?_))
  clear hK22 K22
  refine c_ret (x_blkR (x_thenR ?_))
  refine bp_ret Tryz.results154 rfl ?_
  exact ⟨congrArg Value.bool (decide_eq_true (by omega)), hF⟩
set_option maxHeartbeats 4000000 in
theorem fit_29 (h : FV w ow cb gb sp dp bv t k R j r m) (hz : (fsAt (progF t (k + 1)) j).code.length = z + 3) (hi : InsX (protoOf (fsAt (progF t (k + 1)) j)) z (clO (Psf (progF t (k + 1))) (paF (paL t 0)) j) 29 x) (h16 : x < 65535) (hln : (progF t (k + 1)).length = k + 1) :
    Ret Tryz.prog 154 [ptrAt gb (j * 11), .agg #[u8n 29, u16c x]] w (fun r w' => r = .bool true ∧ Fram none' w w') := by
  have hF : Fram none' w w := Fram.refl _ _
  have hC := h.hC
  have hG := h.hG
  have c0 := h.c0
  have c4 := h.c4
  obtain ⟨ua, uc, c5, -⟩ := h.c5
  obtain ⟨ka, kc, c6, oK⟩ := h.c6
  obtain ⟨ca, cc, c9, -⟩ := h.c9
  have hq : x < (fsAt (progF t (k + 1)) j).ns := hi.il (by decide)
  refine ret_of Tryz.func154 rfl Tryz.ntmps154 rfl ?_
  refine c_seq (fun K1 hK1 => ?_)
  refine c_reg ?_ -- region 0 check.go:128
  refine wl_box (cs := [u8n 29, u16c x]) rfl rfl (fun b3 w1 hbb3 h3 F1 => ?_)
  have hbsb3 := Nat.le_trans hF.size hbb3
  have hnecbb3 : cb < b3 := Nat.lt_of_lt_of_le hC.lt hbb3
  have hnegbb3 : gb < b3 := Nat.lt_of_lt_of_le hG.lt hbb3
  replace hF := hF.thenDrew.thenN F1
  replace hC := F1.blkN hC
  replace hG := F1.blkN hG
  refine wl (ro_assign rfl) ?_
  refine wl_nil (x_then (hK1 _ _ ?_))
  clear hK1 K1
  refine forget [(0, _), (3, _)] ⟨rfl, rfl, trivial⟩ (fun e => ?_)
  refine c_seq (fun K2 hK2 => ?_)
  refine c_reg ?_ -- region 1 check.go:129
  refine wl (ro_fieldAddr (k := 1) rfl fo_203_1) ?_
  refine wl (ro_loadB rfl sc_201 (h3) (rfl)) ?_
  refine wl (ro_conv (a := (x : Int)) rfl sc_201 in_3 (Go.IntWalk.i64_in _ (by omega))) ?_
  refine wl (ro_assign rfl) ?_
  refine wl_nil (x_then (hK2 _ _ ?_))
  clear hK2 K2
  refine c_seq (fun K3 hK3 => ?_)
  refine c_seq (fun K4 hK4 => ?_)
  refine c_reg ?_ -- region 2 check.go:130
  refine wl (ro_fieldAddr (k := 0) rfl fo_203_0) ?_
  refine wl (ro_loadB rfl sc_5 (h3) (rfl)) ?_
  refine wl_nil (x_then (hK4 _ _ ?_))
  clear hK4 K4
  refine c_block ?_
  refine forget [(0, _), (3, _), (5, _), (10, _)] ⟨rfl, rfl, rfl, rfl, trivial⟩ (fun e => ?_)
  refine c_seq (fun K5 hK5 => ?_)
  refine c_reg ?_ -- region 3 check.go:131
  refine wl (ro_cmp rfl rfl rfl) ?_
  refine wl (ro_assign rfl) ?_
  refine wl_nil (x_then (hK5 _ _ ?_))
  clear hK5 K5
  refine wc_condF rfl ?_
  refine c_seq (fun K6 hK6 => ?_)
  refine c_seq (fun K7 hK7 => ?_)
  refine c_reg ?_ -- region 5 check.go:133
  refine wl (ro_cmp rfl rfl rfl) ?_
  refine wl (ro_assign rfl) ?_
  refine wl_nil (x_then (hK7 _ _ ?_))
  clear hK7 K7
  refine wc_condF rfl ?_
  refine c_reg ?_ -- region 6 check.go:133
  refine wl (ro_cmp rfl rfl rfl) ?_
  refine wl (ro_assign rfl) ?_
  refine wl_nil (x_then (hK6 _ _ ?_))
  clear hK6 K6
  refine wc_condF rfl ?_
  refine c_seq (fun K8 hK8 => ?_)
  refine c_seq (fun K9 hK9 => ?_)
  refine c_reg ?_ -- region 8 check.go:135
  refine wl (ro_cmp rfl rfl rfl) ?_
  refine wl (ro_assign rfl) ?_
  refine wl_nil (x_then (hK9 _ _ ?_))
  clear hK9 K9
  refine wc_condF rfl ?_
  refine c_seq (fun K10 hK10 => ?_)
  refine c_reg ?_ -- region 9 check.go:135
  refine wl (ro_cmp rfl rfl rfl) ?_
  refine wl (ro_assign rfl) ?_
  refine wl_nil (x_then (hK10 _ _ ?_))
  clear hK10 K10
  refine wc_condF rfl ?_
  refine c_seq (fun K11 hK11 => ?_)
  refine c_reg ?_ -- region 10 check.go:135
  refine wl (ro_cmp rfl rfl rfl) ?_
  refine wl (ro_assign rfl) ?_
  refine wl_nil (x_then (hK11 _ _ ?_))
  clear hK11 K11
  refine wc_condF rfl ?_
  refine c_seq (fun K12 hK12 => ?_)
  refine c_reg ?_ -- region 11 check.go:135
  refine wl (ro_cmp rfl rfl rfl) ?_
  refine wl (ro_assign rfl) ?_
  refine wl_nil (x_then (hK12 _ _ ?_))
  clear hK12 K12
  refine wc_condF rfl ?_
  refine c_reg ?_ -- region 12 check.go:135
  refine wl (ro_cmp rfl rfl rfl) ?_
  refine wl (ro_assign rfl) ?_
  refine wl_nil (x_then (hK8 _ _ ?_))
  clear hK8 K8
  refine wc_condF rfl ?_
  refine c_seq (fun K13 hK13 => ?_)
  refine c_seq (fun K14 hK14 => ?_)
  refine c_reg ?_ -- region 14 check.go:137
  refine wl (ro_cmp rfl rfl rfl) ?_
  refine wl (ro_assign rfl) ?_
  refine wl_nil (x_then (hK14 _ _ ?_))
  clear hK14 K14
  refine wc_condF rfl ?_
  refine c_reg ?_ -- region 15 check.go:137
  refine wl (ro_cmp rfl rfl rfl) ?_
  refine wl (ro_assign rfl) ?_
  refine wl_nil (x_then (hK13 _ _ ?_))
  clear hK13 K13
  refine wc_condF rfl ?_
  refine c_seq (fun K15 hK15 => ?_)
  refine c_reg ?_ -- region 17 check.go:139
  refine wl (ro_cmp rfl rfl rfl) ?_
  refine wl (ro_assign rfl) ?_
  refine wl_nil (x_then (hK15 _ _ ?_))
  clear hK15 K15
  refine wc_condF rfl ?_
  refine c_seq (fun K16 hK16 => ?_)
  refine c_reg ?_ -- region 19 check.go:141
  refine wl (ro_cmp rfl rfl rfl) ?_
  refine wl (ro_assign rfl) ?_
  refine wl_nil (x_then (hK16 _ _ ?_))
  clear hK16 K16
  refine wc_condF rfl ?_
  refine c_seq (fun K17 hK17 => ?_)
  refine c_seq (fun K18 hK18 => ?_)
  refine c_reg ?_ -- region 21 check.go:143
  refine wl (ro_cmp rfl rfl rfl) ?_
  refine wl (ro_assign rfl) ?_
  refine wl_nil (x_then (hK18 _ _ ?_))
  clear hK18 K18
  refine wc_condF rfl ?_
  refine c_seq (fun K19 hK19 => ?_)
  refine c_reg ?_ -- region 22 check.go:143
  refine wl (ro_cmp rfl rfl rfl) ?_
  refine wl (ro_assign rfl) ?_
  refine wl_nil (x_then (hK19 _ _ ?_))
  clear hK19 K19
  refine wc_condF rfl ?_
  refine c_seq (fun K20 hK20 => ?_)
  refine c_reg ?_ -- region 23 check.go:143
  refine wl (ro_cmp rfl rfl rfl) ?_
  refine wl (ro_assign rfl) ?_
  refine wl_nil (x_then (hK20 _ _ ?_))
  clear hK20 K20
  refine wc_condF rfl ?_
  refine c_reg ?_ -- region 24 check.go:143
  refine wl (ro_cmp rfl rfl rfl) ?_
  refine wl (ro_assign rfl) ?_
  refine wl_nil (x_then (hK17 _ _ ?_))
  clear hK17 K17
  refine wc_condF rfl ?_
  refine c_seq (fun K21 hK21 => ?_)
  refine c_reg ?_ -- region 26 check.go:145
  refine wl (ro_cmp rfl rfl rfl) ?_
  refine wl (ro_assign rfl) ?_
  refine wl_nil (x_then (hK21 _ _ ?_))
  clear hK21 K21
  refine wc_condF rfl ?_
  refine c_seq (fun K22 hK22 => ?_)
  refine c_reg ?_ -- region 28 check.go:147
  refine wl (ro_cmp rfl rfl rfl) ?_
  refine wl (ro_assign rfl) ?_
  refine wl_nil (x_then (hK22 _ _ ?_))
  clear hK22 K22
  refine wc_condT rfl ?_
  refine c_seq (fun K23 hK23 => ?_)
  refine c_reg ?_ -- region 29 check.go:148
  refine wl (ro_move rfl) ?_
  refine wl (ro_move rfl) ?_
  refine wl (ro_nilCheck rfl) ?_
  refine wl (ro_fieldAddr (k := 4) rfl fo_199_4) ?_
  refine wl (ro_loadB rfl sc_3 (hG) (c4)) ?_
  refine wl (ro_cmp rfl rfl rfl) ?_
  refine wl (ro_assign rfl) ?_
  refine wl_nil (x_then (hK23 _ _ ?_))
  clear hK23 K23
  refine c_ret (x_blkR (x_thenR ?_))
  refine bp_ret Tryz.results154 rfl ?_
  exact ⟨congrArg Value.bool (decide_eq_true (by omega)), hF⟩
set_option maxHeartbeats 4000000 in
theorem fit_13 (h : FV w ow cb gb sp dp bv t k R j r m) (hz : (fsAt (progF t (k + 1)) j).code.length = z + 3) (hi : InsX (protoOf (fsAt (progF t (k + 1)) j)) z (clO (Psf (progF t (k + 1))) (paF (paL t 0)) j) 13 x) (h16 : x < 65535) (hln : (progF t (k + 1)).length = k + 1) :
    Ret Tryz.prog 154 [ptrAt gb (j * 11), .agg #[u8n 13, u16c x]] w (fun r w' => r = .bool true ∧ Fram none' w w') := by
  have hF : Fram none' w w := Fram.refl _ _
  have hC := h.hC
  have hG := h.hG
  have c0 := h.c0
  have c4 := h.c4
  obtain ⟨ua, uc, c5, -⟩ := h.c5
  obtain ⟨ka, kc, c6, oK⟩ := h.c6
  obtain ⟨ca, cc, c9, -⟩ := h.c9
  have hq : 1 ≤ x ∧ x ≤ 300 := hi.ii rfl
  refine ret_of Tryz.func154 rfl Tryz.ntmps154 rfl ?_
  refine c_seq (fun K1 hK1 => ?_)
  refine c_reg ?_ -- region 0 check.go:128
  refine wl_box (cs := [u8n 13, u16c x]) rfl rfl (fun b3 w1 hbb3 h3 F1 => ?_)
  have hbsb3 := Nat.le_trans hF.size hbb3
  have hnecbb3 : cb < b3 := Nat.lt_of_lt_of_le hC.lt hbb3
  have hnegbb3 : gb < b3 := Nat.lt_of_lt_of_le hG.lt hbb3
  replace hF := hF.thenDrew.thenN F1
  replace hC := F1.blkN hC
  replace hG := F1.blkN hG
  refine wl (ro_assign rfl) ?_
  refine wl_nil (x_then (hK1 _ _ ?_))
  clear hK1 K1
  refine forget [(0, _), (3, _)] ⟨rfl, rfl, trivial⟩ (fun e => ?_)
  refine c_seq (fun K2 hK2 => ?_)
  refine c_reg ?_ -- region 1 check.go:129
  refine wl (ro_fieldAddr (k := 1) rfl fo_203_1) ?_
  refine wl (ro_loadB rfl sc_201 (h3) (rfl)) ?_
  refine wl (ro_conv (a := (x : Int)) rfl sc_201 in_3 (Go.IntWalk.i64_in _ (by omega))) ?_
  refine wl (ro_assign rfl) ?_
  refine wl_nil (x_then (hK2 _ _ ?_))
  clear hK2 K2
  refine c_seq (fun K3 hK3 => ?_)
  refine c_seq (fun K4 hK4 => ?_)
  refine c_reg ?_ -- region 2 check.go:130
  refine wl (ro_fieldAddr (k := 0) rfl fo_203_0) ?_
  refine wl (ro_loadB rfl sc_5 (h3) (rfl)) ?_
  refine wl_nil (x_then (hK4 _ _ ?_))
  clear hK4 K4
  refine c_block ?_
  refine forget [(0, _), (3, _), (5, _), (10, _)] ⟨rfl, rfl, rfl, rfl, trivial⟩ (fun e => ?_)
  refine c_seq (fun K5 hK5 => ?_)
  refine c_reg ?_ -- region 3 check.go:131
  refine wl (ro_cmp rfl rfl rfl) ?_
  refine wl (ro_assign rfl) ?_
  refine wl_nil (x_then (hK5 _ _ ?_))
  clear hK5 K5
  refine wc_condF rfl ?_
  refine c_seq (fun K6 hK6 => ?_)
  refine c_seq (fun K7 hK7 => ?_)
  refine c_reg ?_ -- region 5 check.go:133
  refine wl (ro_cmp rfl rfl rfl) ?_
  refine wl (ro_assign rfl) ?_
  refine wl_nil (x_then (hK7 _ _ ?_))
  clear hK7 K7
  refine wc_condF rfl ?_
  refine c_reg ?_ -- region 6 check.go:133
  refine wl (ro_cmp rfl rfl rfl) ?_
  refine wl (ro_assign rfl) ?_
  refine wl_nil (x_then (hK6 _ _ ?_))
  clear hK6 K6
  refine wc_condF rfl ?_
  refine c_seq (fun K8 hK8 => ?_)
  refine c_seq (fun K9 hK9 => ?_)
  refine c_reg ?_ -- region 8 check.go:135
  refine wl (ro_cmp rfl rfl rfl) ?_
  refine wl (ro_assign rfl) ?_
  refine wl_nil (x_then (hK9 _ _ ?_))
  clear hK9 K9
  refine wc_condF rfl ?_
  refine c_seq (fun K10 hK10 => ?_)
  refine c_reg ?_ -- region 9 check.go:135
  refine wl (ro_cmp rfl rfl rfl) ?_
  refine wl (ro_assign rfl) ?_
  refine wl_nil (x_then (hK10 _ _ ?_))
  clear hK10 K10
  refine wc_condF rfl ?_
  refine c_seq (fun K11 hK11 => ?_)
  refine c_reg ?_ -- region 10 check.go:135
  refine wl (ro_cmp rfl rfl rfl) ?_
  refine wl (ro_assign rfl) ?_
  refine wl_nil (x_then (hK11 _ _ ?_))
  clear hK11 K11
  refine wc_condF rfl ?_
  refine c_seq (fun K12 hK12 => ?_)
  refine c_reg ?_ -- region 11 check.go:135
  refine wl (ro_cmp rfl rfl rfl) ?_
  refine wl (ro_assign rfl) ?_
  refine wl_nil (x_then (hK12 _ _ ?_))
  clear hK12 K12
  refine wc_condF rfl ?_
  refine c_reg ?_ -- region 12 check.go:135
  refine wl (ro_cmp rfl rfl rfl) ?_
  refine wl (ro_assign rfl) ?_
  refine wl_nil (x_then (hK8 _ _ ?_))
  clear hK8 K8
  refine wc_condF rfl ?_
  refine c_seq (fun K13 hK13 => ?_)
  refine c_seq (fun K14 hK14 => ?_)
  refine c_reg ?_ -- region 14 check.go:137
  refine wl (ro_cmp rfl rfl rfl) ?_
  refine wl (ro_assign rfl) ?_
  refine wl_nil (x_then (hK14 _ _ ?_))
  clear hK14 K14
  refine wc_condF rfl ?_
  refine c_reg ?_ -- region 15 check.go:137
  refine wl (ro_cmp rfl rfl rfl) ?_
  refine wl (ro_assign rfl) ?_
  refine wl_nil (x_then (hK13 _ _ ?_))
  clear hK13 K13
  refine wc_condF rfl ?_
  refine c_seq (fun K15 hK15 => ?_)
  refine c_reg ?_ -- region 17 check.go:139
  refine wl (ro_cmp rfl rfl rfl) ?_
  refine wl (ro_assign rfl) ?_
  refine wl_nil (x_then (hK15 _ _ ?_))
  clear hK15 K15
  refine wc_condF rfl ?_
  refine c_seq (fun K16 hK16 => ?_)
  refine c_reg ?_ -- region 19 check.go:141
  refine wl (ro_cmp rfl rfl rfl) ?_
  refine wl (ro_assign rfl) ?_
  refine wl_nil (x_then (hK16 _ _ ?_))
  clear hK16 K16
  refine wc_condF rfl ?_
  refine c_seq (fun K17 hK17 => ?_)
  refine c_seq (fun K18 hK18 => ?_)
  refine c_reg ?_ -- region 21 check.go:143
  refine wl (ro_cmp rfl rfl rfl) ?_
  refine wl (ro_assign rfl) ?_
  refine wl_nil (x_then (hK18 _ _ ?_))
  clear hK18 K18
  refine wc_condF rfl ?_
  refine c_seq (fun K19 hK19 => ?_)
  refine c_reg ?_ -- region 22 check.go:143
  refine wl (ro_cmp rfl rfl rfl) ?_
  refine wl (ro_assign rfl) ?_
  refine wl_nil (x_then (hK19 _ _ ?_))
  clear hK19 K19
  refine wc_condF rfl ?_
  refine c_seq (fun K20 hK20 => ?_)
  refine c_reg ?_ -- region 23 check.go:143
  refine wl (ro_cmp rfl rfl rfl) ?_
  refine wl (ro_assign rfl) ?_
  refine wl_nil (x_then (hK20 _ _ ?_))
  clear hK20 K20
  refine wc_condF rfl ?_
  refine c_reg ?_ -- region 24 check.go:143
  refine wl (ro_cmp rfl rfl rfl) ?_
  refine wl (ro_assign rfl) ?_
  refine wl_nil (x_then (hK17 _ _ ?_))
  clear hK17 K17
  refine wc_condF rfl ?_
  refine c_seq (fun K21 hK21 => ?_)
  refine c_reg ?_ -- region 26 check.go:145
  refine wl (ro_cmp rfl rfl rfl) ?_
  refine wl (ro_assign rfl) ?_
  refine wl_nil (x_then (hK21 _ _ ?_))
  clear hK21 K21
  refine wc_condF rfl ?_
  refine c_seq (fun K22 hK22 => ?_)
  refine c_reg ?_ -- region 28 check.go:147
  refine wl (ro_cmp rfl rfl rfl) ?_
  refine wl (ro_assign rfl) ?_
  refine wl_nil (x_then (hK22 _ _ ?_))
  clear hK22 K22
  refine wc_condF rfl ?_
  refine c_seq (fun K23 hK23 => ?_)
  refine c_reg ?_ -- region 30 check.go:149
  refine wl (ro_cmp rfl rfl rfl) ?_
  refine wl (ro_assign rfl) ?_
  refine wl_nil (x_then (hK23 _ _ ?_))
  clear hK23 K23
  refine wc_condT rfl ?_
  refine c_seq (fun K24 hK24 => ?_)
  refine c_reg ?_ -- region 31 check.go:150
  refine wl (ro_move rfl) ?_
  refine wl (ro_cmp (r := true) rfl rfl (congrArg some (decide_eq_true (by omega)))) ?_
  refine wl (ro_move rfl) ?_
  refine wlg_yes rfl (ro_move rfl) ?_
  refine wlg_yes rfl (ro_cmp (r := true) rfl rfl (congrArg some (decide_eq_true (by omega)))) ?_
  refine wl (ro_pick rfl rfl rfl) ?_
  refine wl (ro_assign rfl) ?_
  refine wl_nil (x_then (hK24 _ _ ?_))
  clear hK24 K24
  refine c_ret (x_blkR (x_thenR ?_))
  refine bp_ret Tryz.results154 rfl ?_
  exact ⟨rfl, hF⟩
set_option maxHeartbeats 4000000 in
theorem fit_28 (h : FV w ow cb gb sp dp bv t k R j r m) (hz : (fsAt (progF t (k + 1)) j).code.length = z + 3) (hi : InsX (protoOf (fsAt (progF t (k + 1)) j)) z (clO (Psf (progF t (k + 1))) (paF (paL t 0)) j) 28 x) (h16 : x < 65535) (hln : (progF t (k + 1)).length = k + 1) :
    Ret Tryz.prog 154 [ptrAt gb (j * 11), .agg #[u8n 28, u16c x]] w (fun r w' => r = .bool true ∧ Fram none' w w') := by
  have hF : Fram none' w w := Fram.refl _ _
  have hC := h.hC
  have hG := h.hG
  have c0 := h.c0
  have c4 := h.c4
  obtain ⟨ua, uc, c5, -⟩ := h.c5
  obtain ⟨ka, kc, c6, oK⟩ := h.c6
  obtain ⟨ca, cc, c9, -⟩ := h.c9
  have hq : j < x ∧ x < (Psf (progF t (k + 1))).length := ⟨(hi.ic rfl).1, (hi.ic rfl).2.2⟩
  rw [show (Psf (progF t (k + 1))).length = k + 1 by unfold Psf; rw [List.length_map]; exact hln] at hq
  refine ret_of Tryz.func154 rfl Tryz.ntmps154 rfl ?_
  refine c_seq (fun K1 hK1 => ?_)
  refine c_reg ?_ -- region 0 check.go:128
  refine wl_box (cs := [u8n 28, u16c x]) rfl rfl (fun b3 w1 hbb3 h3 F1 => ?_)
  have hbsb3 := Nat.le_trans hF.size hbb3
  have hnecbb3 : cb < b3 := Nat.lt_of_lt_of_le hC.lt hbb3
  have hnegbb3 : gb < b3 := Nat.lt_of_lt_of_le hG.lt hbb3
  replace hF := hF.thenDrew.thenN F1
  replace hC := F1.blkN hC
  replace hG := F1.blkN hG
  refine wl (ro_assign rfl) ?_
  refine wl_nil (x_then (hK1 _ _ ?_))
  clear hK1 K1
  refine forget [(0, _), (3, _)] ⟨rfl, rfl, trivial⟩ (fun e => ?_)
  refine c_seq (fun K2 hK2 => ?_)
  refine c_reg ?_ -- region 1 check.go:129
  refine wl (ro_fieldAddr (k := 1) rfl fo_203_1) ?_
  refine wl (ro_loadB rfl sc_201 (h3) (rfl)) ?_
  refine wl (ro_conv (a := (x : Int)) rfl sc_201 in_3 (Go.IntWalk.i64_in _ (by omega))) ?_
  refine wl (ro_assign rfl) ?_
  refine wl_nil (x_then (hK2 _ _ ?_))
  clear hK2 K2
  refine c_seq (fun K3 hK3 => ?_)
  refine c_seq (fun K4 hK4 => ?_)
  refine c_reg ?_ -- region 2 check.go:130
  refine wl (ro_fieldAddr (k := 0) rfl fo_203_0) ?_
  refine wl (ro_loadB rfl sc_5 (h3) (rfl)) ?_
  refine wl_nil (x_then (hK4 _ _ ?_))
  clear hK4 K4
  refine c_block ?_
  refine forget [(0, _), (3, _), (5, _), (10, _)] ⟨rfl, rfl, rfl, rfl, trivial⟩ (fun e => ?_)
  refine c_seq (fun K5 hK5 => ?_)
  refine c_reg ?_ -- region 3 check.go:131
  refine wl (ro_cmp rfl rfl rfl) ?_
  refine wl (ro_assign rfl) ?_
  refine wl_nil (x_then (hK5 _ _ ?_))
  clear hK5 K5
  refine wc_condF rfl ?_
  refine c_seq (fun K6 hK6 => ?_)
  refine c_seq (fun K7 hK7 => ?_)
  refine c_reg ?_ -- region 5 check.go:133
  refine wl (ro_cmp rfl rfl rfl) ?_
  refine wl (ro_assign rfl) ?_
  refine wl_nil (x_then (hK7 _ _ ?_))
  clear hK7 K7
  refine wc_condF rfl ?_
  refine c_reg ?_ -- region 6 check.go:133
  refine wl (ro_cmp rfl rfl rfl) ?_
  refine wl (ro_assign rfl) ?_
  refine wl_nil (x_then (hK6 _ _ ?_))
  clear hK6 K6
  refine wc_condF rfl ?_
  refine c_seq (fun K8 hK8 => ?_)
  refine c_seq (fun K9 hK9 => ?_)
  refine c_reg ?_ -- region 8 check.go:135
  refine wl (ro_cmp rfl rfl rfl) ?_
  refine wl (ro_assign rfl) ?_
  refine wl_nil (x_then (hK9 _ _ ?_))
  clear hK9 K9
  refine wc_condF rfl ?_
  refine c_seq (fun K10 hK10 => ?_)
  refine c_reg ?_ -- region 9 check.go:135
  refine wl (ro_cmp rfl rfl rfl) ?_
  refine wl (ro_assign rfl) ?_
  refine wl_nil (x_then (hK10 _ _ ?_))
  clear hK10 K10
  refine wc_condF rfl ?_
  refine c_seq (fun K11 hK11 => ?_)
  refine c_reg ?_ -- region 10 check.go:135
  refine wl (ro_cmp rfl rfl rfl) ?_
  refine wl (ro_assign rfl) ?_
  refine wl_nil (x_then (hK11 _ _ ?_))
  clear hK11 K11
  refine wc_condF rfl ?_
  refine c_seq (fun K12 hK12 => ?_)
  refine c_reg ?_ -- region 11 check.go:135
  refine wl (ro_cmp rfl rfl rfl) ?_
  refine wl (ro_assign rfl) ?_
  refine wl_nil (x_then (hK12 _ _ ?_))
  clear hK12 K12
  refine wc_condF rfl ?_
  refine c_reg ?_ -- region 12 check.go:135
  refine wl (ro_cmp rfl rfl rfl) ?_
  refine wl (ro_assign rfl) ?_
  refine wl_nil (x_then (hK8 _ _ ?_))
  clear hK8 K8
  refine wc_condF rfl ?_
  refine c_seq (fun K13 hK13 => ?_)
  refine c_seq (fun K14 hK14 => ?_)
  refine c_reg ?_ -- region 14 check.go:137
  refine wl (ro_cmp rfl rfl rfl) ?_
  refine wl (ro_assign rfl) ?_
  refine wl_nil (x_then (hK14 _ _ ?_))
  clear hK14 K14
  refine wc_condF rfl ?_
  refine c_reg ?_ -- region 15 check.go:137
  refine wl (ro_cmp rfl rfl rfl) ?_
  refine wl (ro_assign rfl) ?_
  refine wl_nil (x_then (hK13 _ _ ?_))
  clear hK13 K13
  refine wc_condF rfl ?_
  refine c_seq (fun K15 hK15 => ?_)
  refine c_reg ?_ -- region 17 check.go:139
  refine wl (ro_cmp rfl rfl rfl) ?_
  refine wl (ro_assign rfl) ?_
  refine wl_nil (x_then (hK15 _ _ ?_))
  clear hK15 K15
  refine wc_condF rfl ?_
  refine c_seq (fun K16 hK16 => ?_)
  refine c_reg ?_ -- region 19 check.go:141
  refine wl (ro_cmp rfl rfl rfl) ?_
  refine wl (ro_assign rfl) ?_
  refine wl_nil (x_then (hK16 _ _ ?_))
  clear hK16 K16
  refine wc_condF rfl ?_
  refine c_seq (fun K17 hK17 => ?_)
  refine c_seq (fun K18 hK18 => ?_)
  refine c_reg ?_ -- region 21 check.go:143
  refine wl (ro_cmp rfl rfl rfl) ?_
  refine wl (ro_assign rfl) ?_
  refine wl_nil (x_then (hK18 _ _ ?_))
  clear hK18 K18
  refine wc_condF rfl ?_
  refine c_seq (fun K19 hK19 => ?_)
  refine c_reg ?_ -- region 22 check.go:143
  refine wl (ro_cmp rfl rfl rfl) ?_
  refine wl (ro_assign rfl) ?_
  refine wl_nil (x_then (hK19 _ _ ?_))
  clear hK19 K19
  refine wc_condF rfl ?_
  refine c_seq (fun K20 hK20 => ?_)
  refine c_reg ?_ -- region 23 check.go:143
  refine wl (ro_cmp rfl rfl rfl) ?_
  refine wl (ro_assign rfl) ?_
  refine wl_nil (x_then (hK20 _ _ ?_))
  clear hK20 K20
  refine wc_condF rfl ?_
  refine c_reg ?_ -- region 24 check.go:143
  refine wl (ro_cmp rfl rfl rfl) ?_
  refine wl (ro_assign rfl) ?_
  refine wl_nil (x_then (hK17 _ _ ?_))
  clear hK17 K17
  refine wc_condF rfl ?_
  refine c_seq (fun K21 hK21 => ?_)
  refine c_reg ?_ -- region 26 check.go:145
  refine wl (ro_cmp rfl rfl rfl) ?_
  refine wl (ro_assign rfl) ?_
  refine wl_nil (x_then (hK21 _ _ ?_))
  clear hK21 K21
  refine wc_condF rfl ?_
  refine c_seq (fun K22 hK22 => ?_)
  refine c_reg ?_ -- region 28 check.go:147
  refine wl (ro_cmp rfl rfl rfl) ?_
  refine wl (ro_assign rfl) ?_
  refine wl_nil (x_then (hK22 _ _ ?_))
  clear hK22 K22
  refine wc_condF rfl ?_
  refine c_seq (fun K23 hK23 => ?_)
  refine c_reg ?_ -- region 30 check.go:149
  refine wl (ro_cmp rfl rfl rfl) ?_
  refine wl (ro_assign rfl) ?_
  refine wl_nil (x_then (hK23 _ _ ?_))
  clear hK23 K23
  refine wc_condF rfl ?_
  refine c_seq (fun K24 hK24 => ?_)
  refine c_reg ?_ -- region 32 check.go:151
  refine wl (ro_cmp rfl rfl rfl) ?_
  refine wl (ro_assign rfl) ?_
  refine wl_nil (x_then (hK24 _ _ ?_))
  clear hK24 K24
  refine wc_condT rfl ?_
  refine c_seq (fun K25 hK25 => ?_)
  refine c_reg ?_ -- region 33 check.go:152
  refine wl (ro_move rfl) ?_
  refine wl (ro_cmp (r := true) rfl rfl (congrArg some (decide_eq_true (by omega)))) ?_
  refine wl (ro_move rfl) ?_
  refine wlg_yes rfl (ro_move rfl) ?_
  refine wlg_yes rfl (ro_move rfl) ?_
  refine wlg_yes rfl (ro_nilCheck rfl) ?_
  refine wlg_yes rfl (ro_fieldAddr (k := 0) rfl fo_199_0) ?_
  refine wlg_yes rfl (ro_loadB rfl sc_22 (hG) (c0)) ?_
  refine wlg_yes rfl (ro_nilCheck rfl) ?_
  refine wlg_yes rfl (ro_fieldAddr (k := 4) rfl fo_94_4) ?_
  refine wlg_yes rfl (ro_loadB rfl sc_3 (hC) (rfl)) ?_
  refine wlg_yes rfl (ro_cmp (r := true) rfl rfl (congrArg some (decide_eq_true (by omega)))) ?_
  refine wl (ro_pick rfl rfl rfl) ?_
  refine wl (ro_assign rfl) ?_
  refine wl_nil (x_then (hK25 _ _ ?_))
  clear hK25 K25
  refine c_ret (x_blkR (x_thenR ?_))
  refine bp_ret Tryz.results154 rfl ?_
  exact ⟨rfl, hF⟩
set_option maxHeartbeats 4000000 in
theorem fit_0 (h : FV w ow cb gb sp dp bv t k R j r m) (hz : (fsAt (progF t (k + 1)) j).code.length = z + 3) (hi : InsX (protoOf (fsAt (progF t (k + 1)) j)) z (clO (Psf (progF t (k + 1))) (paF (paL t 0)) j) op x) (e1 : op ≠ 1) (e9 : op ≠ 9) (e10 : op ≠ 10) (e5 : op ≠ 5) (e6 : op ≠ 6) (e30 : op ≠ 30) (e31 : op ≠ 31) (e32 : op ≠ 32) (e7 : op ≠ 7) (e8 : op ≠ 8) (e15 : op ≠ 15) (e16 : op ≠ 16) (e21 : op ≠ 21) (e22 : op ≠ 22) (e23 : op ≠ 23) (e24 : op ≠ 24) (e26 : op ≠ 26) (e29 : op ≠ 29) (e13 : op ≠ 13) (e28 : op ≠ 28) (h16 : x < 65535) (hln : (progF t (k + 1)).length = k + 1) :
    Ret Tryz.prog 154 [ptrAt gb (j * 11), .agg #[u8n op, u16c x]] w (fun r w' => r = .bool true ∧ Fram none' w w') := by
  have hF : Fram none' w w := Fram.refl _ _
  have hC := h.hC
  have hG := h.hG
  have c0 := h.c0
  have c4 := h.c4
  obtain ⟨ua, uc, c5, -⟩ := h.c5
  obtain ⟨ka, kc, c6, oK⟩ := h.c6
  obtain ⟨ca, cc, c9, -⟩ := h.c9
  have hq := hi.i0 e1 e9 e10 e5 e6 e29 e30 e31 e32 e7 e8 e15 e16 e21 e22 e23 e24 e26 e13 e28
  refine ret_of Tryz.func154 rfl Tryz.ntmps154 rfl ?_
  refine c_seq (fun K1 hK1 => ?_)
  refine c_reg ?_ -- region 0 check.go:128
  refine wl_box (cs := [u8n op, u16c x]) rfl rfl (fun b3 w1 hbb3 h3 F1 => ?_)
  have hbsb3 := Nat.le_trans hF.size hbb3
  have hnecbb3 : cb < b3 := Nat.lt_of_lt_of_le hC.lt hbb3
  have hnegbb3 : gb < b3 := Nat.lt_of_lt_of_le hG.lt hbb3
  replace hF := hF.thenDrew.thenN F1
  replace hC := F1.blkN hC
  replace hG := F1.blkN hG
  refine wl (ro_assign rfl) ?_
  refine wl_nil (x_then (hK1 _ _ ?_))
  clear hK1 K1
  refine forget [(0, _), (3, _)] ⟨rfl, rfl, trivial⟩ (fun e => ?_)
  refine c_seq (fun K2 hK2 => ?_)
  refine c_reg ?_ -- region 1 check.go:129
  refine wl (ro_fieldAddr (k := 1) rfl fo_203_1) ?_
  refine wl (ro_loadB rfl sc_201 (h3) (rfl)) ?_
  refine wl (ro_conv (a := (x : Int)) rfl sc_201 in_3 (Go.IntWalk.i64_in _ (by omega))) ?_
  refine wl (ro_assign rfl) ?_
  refine wl_nil (x_then (hK2 _ _ ?_))
  clear hK2 K2
  refine c_seq (fun K3 hK3 => ?_)
  refine c_seq (fun K4 hK4 => ?_)
  refine c_reg ?_ -- region 2 check.go:130
  refine wl (ro_fieldAddr (k := 0) rfl fo_203_0) ?_
  refine wl (ro_loadB rfl sc_5 (h3) (rfl)) ?_
  refine wl_nil (x_then (hK4 _ _ ?_))
  clear hK4 K4
  refine c_block ?_
  refine forget [(0, _), (3, _), (5, _), (10, _)] ⟨rfl, rfl, rfl, rfl, trivial⟩ (fun e => ?_)
  refine c_seq (fun K5 hK5 => ?_)
  refine c_reg ?_ -- region 3 check.go:131
  refine wl (ro_cmp (r := false) rfl rfl (congrArg some (decide_eq_false (by omega)))) ?_
  refine wl (ro_assign rfl) ?_
  refine wl_nil (x_then (hK5 _ _ ?_))
  clear hK5 K5
  refine wc_condF rfl ?_
  refine c_seq (fun K6 hK6 => ?_)
  refine c_seq (fun K7 hK7 => ?_)
  refine c_reg ?_ -- region 5 check.go:133
  refine wl (ro_cmp (r := false) rfl rfl (congrArg some (decide_eq_false (by omega)))) ?_
  refine wl (ro_assign rfl) ?_
  refine wl_nil (x_then (hK7 _ _ ?_))
  clear hK7 K7
  refine wc_condF rfl ?_
  refine c_reg ?_ -- region 6 check.go:133
  refine wl (ro_cmp (r := false) rfl rfl (congrArg some (decide_eq_false (by omega)))) ?_
  refine wl (ro_assign rfl) ?_
  refine wl_nil (x_then (hK6 _ _ ?_))
  clear hK6 K6
  refine wc_condF rfl ?_
  refine c_seq (fun K8 hK8 => ?_)
  refine c_seq (fun K9 hK9 => ?_)
  refine c_reg ?_ -- region 8 check.go:135
  refine wl (ro_cmp (r := false) rfl rfl (congrArg some (decide_eq_false (by omega)))) ?_
  refine wl (ro_assign rfl) ?_
  refine wl_nil (x_then (hK9 _ _ ?_))
  clear hK9 K9
  refine wc_condF rfl ?_
  refine c_seq (fun K10 hK10 => ?_)
  refine c_reg ?_ -- region 9 check.go:135
  refine wl (ro_cmp (r := false) rfl rfl (congrArg some (decide_eq_false (by omega)))) ?_
  refine wl (ro_assign rfl) ?_
  refine wl_nil (x_then (hK10 _ _ ?_))
  clear hK10 K10
  refine wc_condF rfl ?_
  refine c_seq (fun K11 hK11 => ?_)
  refine c_reg ?_ -- region 10 check.go:135
  refine wl (ro_cmp (r := false) rfl rfl (congrArg some (decide_eq_false (by omega)))) ?_
  refine wl (ro_assign rfl) ?_
  refine wl_nil (x_then (hK11 _ _ ?_))
  clear hK11 K11
  refine wc_condF rfl ?_
  refine c_seq (fun K12 hK12 => ?_)
  refine c_reg ?_ -- region 11 check.go:135
  refine wl (ro_cmp (r := false) rfl rfl (congrArg some (decide_eq_false (by omega)))) ?_
  refine wl (ro_assign rfl) ?_
  refine wl_nil (x_then (hK12 _ _ ?_))
  clear hK12 K12
  refine wc_condF rfl ?_
  refine c_reg ?_ -- region 12 check.go:135
  refine wl (ro_cmp (r := false) rfl rfl (congrArg some (decide_eq_false (by omega)))) ?_
  refine wl (ro_assign rfl) ?_
  refine wl_nil (x_then (hK8 _ _ ?_))
  clear hK8 K8
  refine wc_condF rfl ?_
  refine c_seq (fun K13 hK13 => ?_)
  refine c_seq (fun K14 hK14 => ?_)
  refine c_reg ?_ -- region 14 check.go:137
  refine wl (ro_cmp (r := false) rfl rfl (congrArg some (decide_eq_false (by omega)))) ?_
  refine wl (ro_assign rfl) ?_
  refine wl_nil (x_then (hK14 _ _ ?_))
  clear hK14 K14
  refine wc_condF rfl ?_
  refine c_reg ?_ -- region 15 check.go:137
  refine wl (ro_cmp (r := false) rfl rfl (congrArg some (decide_eq_false (by omega)))) ?_
  refine wl (ro_assign rfl) ?_
  refine wl_nil (x_then (hK13 _ _ ?_))
  clear hK13 K13
  refine wc_condF rfl ?_
  refine c_seq (fun K15 hK15 => ?_)
  refine c_reg ?_ -- region 17 check.go:139
  refine wl (ro_cmp (r := false) rfl rfl (congrArg some (decide_eq_false (by omega)))) ?_
  refine wl (ro_assign rfl) ?_
  refine wl_nil (x_then (hK15 _ _ ?_))
  clear hK15 K15
  refine wc_condF rfl ?_
  refine c_seq (fun K16 hK16 => ?_)
  refine c_reg ?_ -- region 19 check.go:141
  refine wl (ro_cmp (r := false) rfl rfl (congrArg some (decide_eq_false (by omega)))) ?_
  refine wl (ro_assign rfl) ?_
  refine wl_nil (x_then (hK16 _ _ ?_))
  clear hK16 K16
  refine wc_condF rfl ?_
  refine c_seq (fun K17 hK17 => ?_)
  refine c_seq (fun K18 hK18 => ?_)
  refine c_reg ?_ -- region 21 check.go:143
  refine wl (ro_cmp (r := false) rfl rfl (congrArg some (decide_eq_false (by omega)))) ?_
  refine wl (ro_assign rfl) ?_
  refine wl_nil (x_then (hK18 _ _ ?_))
  clear hK18 K18
  refine wc_condF rfl ?_
  refine c_seq (fun K19 hK19 => ?_)
  refine c_reg ?_ -- region 22 check.go:143
  refine wl (ro_cmp (r := false) rfl rfl (congrArg some (decide_eq_false (by omega)))) ?_
  refine wl (ro_assign rfl) ?_
  refine wl_nil (x_then (hK19 _ _ ?_))
  clear hK19 K19
  refine wc_condF rfl ?_
  refine c_seq (fun K20 hK20 => ?_)
  refine c_reg ?_ -- region 23 check.go:143
  refine wl (ro_cmp (r := false) rfl rfl (congrArg some (decide_eq_false (by omega)))) ?_
  refine wl (ro_assign rfl) ?_
  refine wl_nil (x_then (hK20 _ _ ?_))
  clear hK20 K20
  refine wc_condF rfl ?_
  refine c_reg ?_ -- region 24 check.go:143
  refine wl (ro_cmp (r := false) rfl rfl (congrArg some (decide_eq_false (by omega)))) ?_
  refine wl (ro_assign rfl) ?_
  refine wl_nil (x_then (hK17 _ _ ?_))
  clear hK17 K17
  refine wc_condF rfl ?_
  refine c_seq (fun K21 hK21 => ?_)
  refine c_reg ?_ -- region 26 check.go:145
  refine wl (ro_cmp (r := false) rfl rfl (congrArg some (decide_eq_false (by omega)))) ?_
  refine wl (ro_assign rfl) ?_
  refine wl_nil (x_then (hK21 _ _ ?_))
  clear hK21 K21
  refine wc_condF rfl ?_
  refine c_seq (fun K22 hK22 => ?_)
  refine c_reg ?_ -- region 28 check.go:147
  refine wl (ro_cmp (r := false) rfl rfl (congrArg some (decide_eq_false (by omega)))) ?_
  refine wl (ro_assign rfl) ?_
  refine wl_nil (x_then (hK22 _ _ ?_))
  clear hK22 K22
  refine wc_condF rfl ?_
  refine c_seq (fun K23 hK23 => ?_)
  refine c_reg ?_ -- region 30 check.go:149
  refine wl (ro_cmp (r := false) rfl rfl (congrArg some (decide_eq_false (by omega)))) ?_
  refine wl (ro_assign rfl) ?_
  refine wl_nil (x_then (hK23 _ _ ?_))
  clear hK23 K23
  refine wc_condF rfl ?_
  refine c_seq (fun K24 hK24 => ?_)
  refine c_reg ?_ -- region 32 check.go:151
  refine wl (ro_cmp (r := false) rfl rfl (congrArg some (decide_eq_false (by omega)))) ?_
  refine wl (ro_assign rfl) ?_
  refine wl_nil (x_then (hK24 _ _ ?_))
  clear hK24 K24
  refine wc_condF rfl ?_
  refine c_skip (x_blk (x_then (hK3 _ _ ?_)))
  clear hK3 K3
  refine forget [(3, _), (5, _)] ⟨rfl, rfl, trivial⟩ (fun e => ?_)
  refine c_seq (fun K25 hK25 => ?_)
  refine c_reg ?_ -- region 34 check.go:154
  refine wl (ro_fieldAddr (k := 0) rfl fo_203_0) ?_
  refine wl (ro_loadB rfl sc_5 (h3) (rfl)) ?_
  refine wl (ro_cmp (r := true) rfl rfl (congrArg some (decide_eq_true (by omega)))) ?_
  refine wl (ro_move rfl) ?_
  refine wlg_yes rfl (ro_fieldAddr (k := 0) rfl fo_203_0) ?_
  refine wlg_yes rfl (ro_loadB rfl sc_5 (h3) (rfl)) ?_
  refine wlg_yes rfl (ro_cmp (r := true) rfl rfl (congrArg some (decide_eq_true (by omega)))) ?_
  refine wl (ro_pick rfl rfl rfl) ?_
  refine wl (ro_move rfl) ?_
  refine wlg_yes rfl (ro_move rfl) ?_
  refine wlg_yes rfl (ro_cmp (r := true) rfl rfl (congrArg some (decide_eq_true (by omega)))) ?_
  refine wl (ro_pick rfl rfl rfl) ?_
  refine wl (ro_assign rfl) ?_
  refine wl_nil (x_then (hK25 _ _ ?_))
  clear hK25 K25
  refine c_ret ?_
  refine bp_ret Tryz.results154 rfl ?_
  exact ⟨rfl, hF⟩
theorem fits154 (h : FV w ow cb gb sp dp bv t k R j r m) (hz : (fsAt (progF t (k + 1)) j).code.length = z + 3) (hi : InsX (protoOf (fsAt (progF t (k + 1)) j)) z (clO (Psf (progF t (k + 1))) (paF (paL t 0)) j) op x) (h16 : x < 65535) (hln : (progF t (k + 1)).length = k + 1) :
    Ret Tryz.prog 154 [ptrAt gb (j * 11), .agg #[u8n op, u16c x]] w (fun r w' => r = .bool true ∧ Fram none' w w') := by
  by_cases e1 : op = 1
  · subst e1; exact fit_1 h hz hi h16 hln
  by_cases e9 : op = 9
  · subst e9; exact fit_9 h hz hi h16 hln
  by_cases e10 : op = 10
  · subst e10; exact fit_10 h hz hi h16 hln
  by_cases e5 : op = 5
  · subst e5; exact fit_5 h hz hi h16 hln
  by_cases e6 : op = 6
  · subst e6; exact fit_6 h hz hi h16 hln
  by_cases e30 : op = 30
  · subst e30; exact fit_30 h hz hi h16 hln
  by_cases e31 : op = 31
  · subst e31; exact fit_31 h hz hi h16 hln
  by_cases e32 : op = 32
  · subst e32; exact fit_32 h hz hi h16 hln
  by_cases e7 : op = 7
  · subst e7; exact fit_7 h hz hi h16 hln
  by_cases e8 : op = 8
  · subst e8; exact fit_8 h hz hi h16 hln
  by_cases e15 : op = 15
  · subst e15; exact fit_15 h hz hi h16 hln
  by_cases e16 : op = 16
  · subst e16; exact fit_16 h hz hi h16 hln
  by_cases e21 : op = 21
  · subst e21; exact fit_21 h hz hi h16 hln
  by_cases e22 : op = 22
  · subst e22; exact fit_22 h hz hi h16 hln
  by_cases e23 : op = 23
  · subst e23; exact fit_23 h hz hi h16 hln
  by_cases e24 : op = 24
  · subst e24; exact fit_24 h hz hi h16 hln
  by_cases e26 : op = 26
  · subst e26; exact fit_26 h hz hi h16 hln
  by_cases e29 : op = 29
  · subst e29; exact fit_29 h hz hi h16 hln
  by_cases e13 : op = 13
  · subst e13; exact fit_13 h hz hi h16 hln
  by_cases e28 : op = 28
  · subst e28; exact fit_28 h hz hi h16 hln
  exact fit_0 h hz hi e1 e9 e10 e5 e6 e30 e31 e32 e7 e8 e15 e16 e21 e22 e23 e24 e26 e29 e13 e28 h16 hln
set_option maxHeartbeats 4000000 in
theorem clo_21 (h : FV w ow cb gb sp dp bv t k R j r m) (hall : ∀ y, y ≤ k → ∃ r m, FV w ow cb gb sp dp bv t k R y r m) (hz : (fsAt (progF t (k + 1)) j).code.length = z + 3) (hi : InsX (protoOf (fsAt (progF t (k + 1)) j)) z (clO (Psf (progF t (k + 1))) (paF (paL t 0)) j) 21 x) (h16 : x < 65535) (hln : (progF t (k + 1)).length = k + 1) :
    Ret Tryz.prog 97 [ptrAt gb (j * 11), .agg #[u8n 21, u16c x], i64c j] w (fun r w' => r = .bool true ∧ Fram none' w w') := by
  have hF : Fram none' w w := Fram.refl _ _
  have hC := h.hC
  have hG := h.hG
  have c0 := h.c0
  have c4 := h.c4
  obtain ⟨ca, cc, c9, -⟩ := h.c9
  have hq : x ≤ z := hi.ij (by decide)
  refine ret_of Tryz.func97 rfl Tryz.ntmps97 rfl ?_
  refine c_seq (fun K1 hK1 => ?_)
  refine c_reg ?_ -- region 0 check.go:67
  refine wl_box (cs := [u8n 21, u16c x]) rfl rfl (fun b4 w1 hbb4 h4 F1 => ?_)
  have hbsb4 := Nat.le_trans hF.size hbb4
  have hnecbb4 : cb < b4 := Nat.lt_of_lt_of_le hC.lt hbb4
  have hnegbb4 : gb < b4 := Nat.lt_of_lt_of_le hG.lt hbb4
  replace hF := hF.thenDrew.thenN F1
  replace hC := F1.blkN hC
  replace hG := F1.blkN hG
  refine wl (ro_assign rfl) ?_
  refine wl_nil (x_then (hK1 _ _ ?_))
  clear hK1 K1
  refine c_seq (fun K2 hK2 => ?_)
  refine c_seq (fun K3 hK3 => ?_)
  refine c_reg ?_ -- region 1 check.go:68
  refine wl (ro_fieldAddr (k := 0) rfl fo_203_0) ?_
  refine wl (ro_loadB rfl sc_5 (h4) (rfl)) ?_
  refine wl_nil (x_then (hK3 _ _ ?_))
  clear hK3 K3
  refine c_block ?_
  refine c_seq (fun K4 hK4 => ?_)
  refine c_seq (fun K5 hK5 => ?_)
  refine c_reg ?_ -- region 2 check.go:69
  refine wl (ro_cmp rfl rfl rfl) ?_
  refine wl (ro_assign rfl) ?_
  refine wl_nil (x_then (hK5 _ _ ?_))
  clear hK5 K5
  refine wc_condT rfl ?_
  refine c_skip (x_then (hK4 _ _ ?_))
  clear hK4 K4
  refine wc_condT rfl ?_
  refine c_seq (fun K6 hK6 => ?_)
  refine c_pi [(0, false), (1, false), (2, false), (3, false), (4, false), (5, false), (6, false), (7, false), (8, false), (9, false)] (SameH _) mixed (by kernel_rfl) rfl (by kernel_rfl) (po_then (po_blk (po_then (po_bp)))) (sameH_now _ _) ?_ -- region 6 check.go:70
  refine pi_ro rfl (fun w hS => ro_fieldAddr (k := 1) rfl fo_203_1) ?_
  refine pi_ro rfl (fun w hS => ro_loadB rfl sc_201 (Blk.of_heap h4 hS) (rfl)) ?_
  refine pi_ro rfl (fun w hS => ro_conv (a := (x : Int)) rfl sc_201 in_3 (Go.IntWalk.i64_in _ (by omega))) ?_
  refine pi_ro rfl (fun w hS => ro_move rfl) ?_
  refine pi_ro rfl (fun w hS => ro_nilCheck rfl) ?_
  refine pi_ro rfl (fun w hS => ro_fieldAddr (k := 9) rfl fo_199_9) ?_
  refine pi_ro rfl (fun w hS => ro_loadB rfl sc_196 (Blk.of_heap hG hS) (c9)) ?_
  refine pi_ro rfl (fun w hS => ro_lenL rfl se_196) ?_
  refine pi_ro rfl (fun w hS => ro_cmp (r := true) rfl rfl (congrArg some (decide_eq_true (by omega)))) ?_
  refine pi_ro rfl (fun w hS => ro_assign rfl) ?_
  refine pi_nil (x_then (hK6 _ _ ?_))
  clear hK6 K6
  refine c_ret (x_blkR (x_thenR ?_))
  refine bp_ret Tryz.results97 rfl ?_
  exact ⟨rfl, hF.thenDrew⟩
set_option maxHeartbeats 4000000 in
theorem clo_22 (h : FV w ow cb gb sp dp bv t k R j r m) (hall : ∀ y, y ≤ k → ∃ r m, FV w ow cb gb sp dp bv t k R y r m) (hz : (fsAt (progF t (k + 1)) j).code.length = z + 3) (hi : InsX (protoOf (fsAt (progF t (k + 1)) j)) z (clO (Psf (progF t (k + 1))) (paF (paL t 0)) j) 22 x) (h16 : x < 65535) (hln : (progF t (k + 1)).length = k + 1) :
    Ret Tryz.prog 97 [ptrAt gb (j * 11), .agg #[u8n 22, u16c x], i64c j] w (fun r w' => r = .bool true ∧ Fram none' w w') := by
  have hF : Fram none' w w := Fram.refl _ _
  have hC := h.hC
  have hG := h.hG
  have c0 := h.c0
  have c4 := h.c4
  obtain ⟨ca, cc, c9, -⟩ := h.c9
  have hq : x ≤ z := hi.ij (by decide)
  refine ret_of Tryz.func97 rfl Tryz.ntmps97 rfl ?_
  refine c_seq (fun K1 hK1 => ?_)
  refine c_reg ?_ -- region 0 check.go:67
  refine wl_box (cs := [u8n 22, u16c x]) rfl rfl (fun b4 w1 hbb4 h4 F1 => ?_)
  have hbsb4 := Nat.le_trans hF.size hbb4
  have hnecbb4 : cb < b4 := Nat.lt_of_lt_of_le hC.lt hbb4
  have hnegbb4 : gb < b4 := Nat.lt_of_lt_of_le hG.lt hbb4
  replace hF := hF.thenDrew.thenN F1
  replace hC := F1.blkN hC
  replace hG := F1.blkN hG
  refine wl (ro_assign rfl) ?_
  refine wl_nil (x_then (hK1 _ _ ?_))
  clear hK1 K1
  refine c_seq (fun K2 hK2 => ?_)
  refine c_seq (fun K3 hK3 => ?_)
  refine c_reg ?_ -- region 1 check.go:68
  refine wl (ro_fieldAddr (k := 0) rfl fo_203_0) ?_
  refine wl (ro_loadB rfl sc_5 (h4) (rfl)) ?_
  refine wl_nil (x_then (hK3 _ _ ?_))
  clear hK3 K3
  refine c_block ?_
  refine c_seq (fun K4 hK4 => ?_)
  refine c_seq (fun K5 hK5 => ?_)
  refine c_reg ?_ -- region 2 check.go:69
  refine wl (ro_cmp rfl rfl rfl) ?_
  refine wl (ro_assign rfl) ?_
  refine wl_nil (x_then (hK5 _ _ ?_))
  clear hK5 K5
  refine wc_condF rfl ?_
  refine c_seq (fun K6 hK6 => ?_)
  refine c_reg ?_ -- region 3 check.go:69
  refine wl (ro_cmp rfl rfl rfl) ?_
  refine wl (ro_assign rfl) ?_
  refine wl_nil (x_then (hK6 _ _ ?_))
  clear hK6 K6
  refine wc_condT rfl ?_
  refine c_skip (x_then (hK4 _ _ ?_))
  clear hK4 K4
  refine wc_condT rfl ?_
  refine c_seq (fun K7 hK7 => ?_)
  refine c_pi [(0, false), (1, false), (2, false), (3, false), (4, false), (5, false), (6, false), (7, false), (8, false), (9, false)] (SameH _) mixed (by kernel_rfl) rfl (by kernel_rfl) (po_then (po_blk (po_then (po_bp)))) (sameH_now _ _) ?_ -- region 6 check.go:70
  refine pi_ro rfl (fun w hS => ro_fieldAddr (k := 1) rfl fo_203_1) ?_
  refine pi_ro rfl (fun w hS => ro_loadB rfl sc_201 (Blk.of_heap h4 hS) (rfl)) ?_
  refine pi_ro rfl (fun w hS => ro_conv (a := (x : Int)) rfl sc_201 in_3 (Go.IntWalk.i64_in _ (by omega))) ?_
  refine pi_ro rfl (fun w hS => ro_move rfl) ?_
  refine pi_ro rfl (fun w hS => ro_nilCheck rfl) ?_
  refine pi_ro rfl (fun w hS => ro_fieldAddr (k := 9) rfl fo_199_9) ?_
  refine pi_ro rfl (fun w hS => ro_loadB rfl sc_196 (Blk.of_heap hG hS) (c9)) ?_
  refine pi_ro rfl (fun w hS => ro_lenL rfl se_196) ?_
  refine pi_ro rfl (fun w hS => ro_cmp (r := true) rfl rfl (congrArg some (decide_eq_true (by omega)))) ?_
  refine pi_ro rfl (fun w hS => ro_assign rfl) ?_
  refine pi_nil (x_then (hK7 _ _ ?_))
  clear hK7 K7
  refine c_ret (x_blkR (x_thenR ?_))
  refine bp_ret Tryz.results97 rfl ?_
  exact ⟨rfl, hF.thenDrew⟩
set_option maxHeartbeats 4000000 in
theorem clo_23 (h : FV w ow cb gb sp dp bv t k R j r m) (hall : ∀ y, y ≤ k → ∃ r m, FV w ow cb gb sp dp bv t k R y r m) (hz : (fsAt (progF t (k + 1)) j).code.length = z + 3) (hi : InsX (protoOf (fsAt (progF t (k + 1)) j)) z (clO (Psf (progF t (k + 1))) (paF (paL t 0)) j) 23 x) (h16 : x < 65535) (hln : (progF t (k + 1)).length = k + 1) :
    Ret Tryz.prog 97 [ptrAt gb (j * 11), .agg #[u8n 23, u16c x], i64c j] w (fun r w' => r = .bool true ∧ Fram none' w w') := by
  have hF : Fram none' w w := Fram.refl _ _
  have hC := h.hC
  have hG := h.hG
  have c0 := h.c0
  have c4 := h.c4
  obtain ⟨ca, cc, c9, -⟩ := h.c9
  have hq : x ≤ z := hi.ij (by decide)
  refine ret_of Tryz.func97 rfl Tryz.ntmps97 rfl ?_
  refine c_seq (fun K1 hK1 => ?_)
  refine c_reg ?_ -- region 0 check.go:67
  refine wl_box (cs := [u8n 23, u16c x]) rfl rfl (fun b4 w1 hbb4 h4 F1 => ?_)
  have hbsb4 := Nat.le_trans hF.size hbb4
  have hnecbb4 : cb < b4 := Nat.lt_of_lt_of_le hC.lt hbb4
  have hnegbb4 : gb < b4 := Nat.lt_of_lt_of_le hG.lt hbb4
  replace hF := hF.thenDrew.thenN F1
  replace hC := F1.blkN hC
  replace hG := F1.blkN hG
  refine wl (ro_assign rfl) ?_
  refine wl_nil (x_then (hK1 _ _ ?_))
  clear hK1 K1
  refine c_seq (fun K2 hK2 => ?_)
  refine c_seq (fun K3 hK3 => ?_)
  refine c_reg ?_ -- region 1 check.go:68
  refine wl (ro_fieldAddr (k := 0) rfl fo_203_0) ?_
  refine wl (ro_loadB rfl sc_5 (h4) (rfl)) ?_
  refine wl_nil (x_then (hK3 _ _ ?_))
  clear hK3 K3
  refine c_block ?_
  refine c_seq (fun K4 hK4 => ?_)
  refine c_seq (fun K5 hK5 => ?_)
  refine c_reg ?_ -- region 2 check.go:69
  refine wl (ro_cmp rfl rfl rfl) ?_
  refine wl (ro_assign rfl) ?_
  refine wl_nil (x_then (hK5 _ _ ?_))
  clear hK5 K5
  refine wc_condF rfl ?_
  refine c_seq (fun K6 hK6 => ?_)
  refine c_reg ?_ -- region 3 check.go:69
  refine wl (ro_cmp rfl rfl rfl) ?_
  refine wl (ro_assign rfl) ?_
  refine wl_nil (x_then (hK6 _ _ ?_))
  clear hK6 K6
  refine wc_condF rfl ?_
  refine c_seq (fun K7 hK7 => ?_)
  refine c_reg ?_ -- region 4 check.go:69
  refine wl (ro_cmp rfl rfl rfl) ?_
  refine wl (ro_assign rfl) ?_
  refine wl_nil (x_then (hK7 _ _ ?_))
  clear hK7 K7
  refine wc_condT rfl ?_
  refine c_skip (x_then (hK4 _ _ ?_))
  clear hK4 K4
  refine wc_condT rfl ?_
  refine c_seq (fun K8 hK8 => ?_)
  refine c_pi [(0, false), (1, false), (2, false), (3, false), (4, false), (5, false), (6, false), (7, false), (8, false), (9, false)] (SameH _) mixed (by kernel_rfl) rfl (by kernel_rfl) (po_then (po_blk (po_then (po_bp)))) (sameH_now _ _) ?_ -- region 6 check.go:70
  refine pi_ro rfl (fun w hS => ro_fieldAddr (k := 1) rfl fo_203_1) ?_
  refine pi_ro rfl (fun w hS => ro_loadB rfl sc_201 (Blk.of_heap h4 hS) (rfl)) ?_
  refine pi_ro rfl (fun w hS => ro_conv (a := (x : Int)) rfl sc_201 in_3 (Go.IntWalk.i64_in _ (by omega))) ?_
  refine pi_ro rfl (fun w hS => ro_move rfl) ?_
  refine pi_ro rfl (fun w hS => ro_nilCheck rfl) ?_
  refine pi_ro rfl (fun w hS => ro_fieldAddr (k := 9) rfl fo_199_9) ?_
  refine pi_ro rfl (fun w hS => ro_loadB rfl sc_196 (Blk.of_heap hG hS) (c9)) ?_
  refine pi_ro rfl (fun w hS => ro_lenL rfl se_196) ?_
  refine pi_ro rfl (fun w hS => ro_cmp (r := true) rfl rfl (congrArg some (decide_eq_true (by omega)))) ?_
  refine pi_ro rfl (fun w hS => ro_assign rfl) ?_
  refine pi_nil (x_then (hK8 _ _ ?_))
  clear hK8 K8
  refine c_ret (x_blkR (x_thenR ?_))
  refine bp_ret Tryz.results97 rfl ?_
  exact ⟨rfl, hF.thenDrew⟩
set_option maxHeartbeats 4000000 in
theorem clo_24 (h : FV w ow cb gb sp dp bv t k R j r m) (hall : ∀ y, y ≤ k → ∃ r m, FV w ow cb gb sp dp bv t k R y r m) (hz : (fsAt (progF t (k + 1)) j).code.length = z + 3) (hi : InsX (protoOf (fsAt (progF t (k + 1)) j)) z (clO (Psf (progF t (k + 1))) (paF (paL t 0)) j) 24 x) (h16 : x < 65535) (hln : (progF t (k + 1)).length = k + 1) :
    Ret Tryz.prog 97 [ptrAt gb (j * 11), .agg #[u8n 24, u16c x], i64c j] w (fun r w' => r = .bool true ∧ Fram none' w w') := by
  have hF : Fram none' w w := Fram.refl _ _
  have hC := h.hC
  have hG := h.hG
  have c0 := h.c0
  have c4 := h.c4
  obtain ⟨ca, cc, c9, -⟩ := h.c9
  have hq : x ≤ z := hi.ij (by decide)
  refine ret_of Tryz.func97 rfl Tryz.ntmps97 rfl ?_
  refine c_seq (fun K1 hK1 => ?_)
  refine c_reg ?_ -- region 0 check.go:67
  refine wl_box (cs := [u8n 24, u16c x]) rfl rfl (fun b4 w1 hbb4 h4 F1 => ?_)
  have hbsb4 := Nat.le_trans hF.size hbb4
  have hnecbb4 : cb < b4 := Nat.lt_of_lt_of_le hC.lt hbb4
  have hnegbb4 : gb < b4 := Nat.lt_of_lt_of_le hG.lt hbb4
  replace hF := hF.thenDrew.thenN F1
  replace hC := F1.blkN hC
  replace hG := F1.blkN hG
  refine wl (ro_assign rfl) ?_
  refine wl_nil (x_then (hK1 _ _ ?_))
  clear hK1 K1
  refine c_seq (fun K2 hK2 => ?_)
  refine c_seq (fun K3 hK3 => ?_)
  refine c_reg ?_ -- region 1 check.go:68
  refine wl (ro_fieldAddr (k := 0) rfl fo_203_0) ?_
  refine wl (ro_loadB rfl sc_5 (h4) (rfl)) ?_
  refine wl_nil (x_then (hK3 _ _ ?_))
  clear hK3 K3
  refine c_block ?_
  refine c_seq (fun K4 hK4 => ?_)
  refine c_seq (fun K5 hK5 => ?_)
  refine c_reg ?_ -- region 2 check.go:69
  refine wl (ro_cmp rfl rfl rfl) ?_
  refine wl (ro_assign rfl) ?_
  refine wl_nil (x_then (hK5 _ _ ?_))
  clear hK5 K5
  refine wc_condF rfl ?_
  refine c_seq (fun K6 hK6 => ?_)
  refine c_reg ?_ -- region 3 check.go:69
  refine wl (ro_cmp rfl rfl rfl) ?_
  refine wl (ro_assign rfl) ?_
  refine wl_nil (x_then (hK6 _ _ ?_))
  clear hK6 K6
  refine wc_condF rfl ?_
  refine c_seq (fun K7 hK7 => ?_)
  refine c_reg ?_ -- region 4 check.go:69
  refine wl (ro_cmp rfl rfl rfl) ?_
  refine wl (ro_assign rfl) ?_
  refine wl_nil (x_then (hK7 _ _ ?_))
  clear hK7 K7
  refine wc_condF rfl ?_
  refine c_reg ?_ -- region 5 check.go:69
  refine wl (ro_cmp rfl rfl rfl) ?_
  refine wl (ro_assign rfl) ?_
  refine wl_nil (x_then (hK4 _ _ ?_))
  clear hK4 K4
  refine wc_condT rfl ?_
  refine c_seq (fun K8 hK8 => ?_)
  refine c_pi [(0, false), (1, false), (2, false), (3, false), (4, false), (5, false), (6, false), (7, false), (8, false), (9, false)] (SameH _) mixed (by kernel_rfl) rfl (by kernel_rfl) (po_then (po_blk (po_then (po_bp)))) (sameH_now _ _) ?_ -- region 6 check.go:70
  refine pi_ro rfl (fun w hS => ro_fieldAddr (k := 1) rfl fo_203_1) ?_
  refine pi_ro rfl (fun w hS => ro_loadB rfl sc_201 (Blk.of_heap h4 hS) (rfl)) ?_
  refine pi_ro rfl (fun w hS => ro_conv (a := (x : Int)) rfl sc_201 in_3 (Go.IntWalk.i64_in _ (by omega))) ?_
  refine pi_ro rfl (fun w hS => ro_move rfl) ?_
  refine pi_ro rfl (fun w hS => ro_nilCheck rfl) ?_
  refine pi_ro rfl (fun w hS => ro_fieldAddr (k := 9) rfl fo_199_9) ?_
  refine pi_ro rfl (fun w hS => ro_loadB rfl sc_196 (Blk.of_heap hG hS) (c9)) ?_
  refine pi_ro rfl (fun w hS => ro_lenL rfl se_196) ?_
  refine pi_ro rfl (fun w hS => ro_cmp (r := true) rfl rfl (congrArg some (decide_eq_true (by omega)))) ?_
  refine pi_ro rfl (fun w hS => ro_assign rfl) ?_
  refine pi_nil (x_then (hK8 _ _ ?_))
  clear hK8 K8
  refine c_ret (x_blkR (x_thenR ?_))
  refine bp_ret Tryz.results97 rfl ?_
  exact ⟨rfl, hF.thenDrew⟩
set_option maxHeartbeats 4000000 in
theorem clo_30 (h : FV w ow cb gb sp dp bv t k R j r m) (hall : ∀ y, y ≤ k → ∃ r m, FV w ow cb gb sp dp bv t k R y r m) (hz : (fsAt (progF t (k + 1)) j).code.length = z + 3) (hi : InsX (protoOf (fsAt (progF t (k + 1)) j)) z (clO (Psf (progF t (k + 1))) (paF (paL t 0)) j) 30 x) (h16 : x < 65535) (hln : (progF t (k + 1)).length = k + 1) :
    Ret Tryz.prog 97 [ptrAt gb (j * 11), .agg #[u8n 30, u16c x], i64c j] w (fun r w' => r = .bool true ∧ Fram none' w w') := by
  have hF : Fram none' w w := Fram.refl _ _
  have hC := h.hC
  have hG := h.hG
  have c0 := h.c0
  have c4 := h.c4
  obtain ⟨ca, cc, c9, -⟩ := h.c9
  have hq : x + 3 < (fsAt (progF t (k + 1)) j).ns := hi.fr (by decide)
  refine ret_of Tryz.func97 rfl Tryz.ntmps97 rfl ?_
  refine c_seq (fun K1 hK1 => ?_)
  refine c_reg ?_ -- region 0 check.go:67
  refine wl_box (cs := [u8n 30, u16c x]) rfl rfl (fun b4 w1 hbb4 h4 F1 => ?_)
  have hbsb4 := Nat.le_trans hF.size hbb4
  have hnecbb4 : cb < b4 := Nat.lt_of_lt_of_le hC.lt hbb4
  have hnegbb4 : gb < b4 := Nat.lt_of_lt_of_le hG.lt hbb4
  replace hF := hF.thenDrew.thenN F1
  replace hC := F1.blkN hC
  replace hG := F1.blkN hG
  refine wl (ro_assign rfl) ?_
  refine wl_nil (x_then (hK1 _ _ ?_))
  clear hK1 K1
  refine c_seq (fun K2 hK2 => ?_)
  refine c_seq (fun K3 hK3 => ?_)
  refine c_reg ?_ -- region 1 check.go:68
  refine wl (ro_fieldAddr (k := 0) rfl fo_203_0) ?_
  refine wl (ro_loadB rfl sc_5 (h4) (rfl)) ?_
  refine wl_nil (x_then (hK3 _ _ ?_))
  clear hK3 K3
  refine c_block ?_
  refine c_seq (fun K4 hK4 => ?_)
  refine c_seq (fun K5 hK5 => ?_)
  refine c_reg ?_ -- region 2 check.go:69
  refine wl (ro_cmp rfl rfl rfl) ?_
  refine wl (ro_assign rfl) ?_
  refine wl_nil (x_then (hK5 _ _ ?_))
  clear hK5 K5
  refine wc_condF rfl ?_
  refine c_seq (fun K6 hK6 => ?_)
  refine c_reg ?_ -- region 3 check.go:69
  refine wl (ro_cmp rfl rfl rfl) ?_
  refine wl (ro_assign rfl) ?_
  refine wl_nil (x_then (hK6 _ _ ?_))
  clear hK6 K6
  refine wc_condF rfl ?_
  refine c_seq (fun K7 hK7 => ?_)
  refine c_reg ?_ -- region 4 check.go:69
  refine wl (ro_cmp rfl rfl rfl) ?_
  refine wl (ro_assign rfl) ?_
  refine wl_nil (x_then (hK7 _ _ ?_))
  clear hK7 K7
  refine wc_condF rfl ?_
  refine c_reg ?_ -- region 5 check.go:69
  refine wl (ro_cmp rfl rfl rfl) ?_
  refine wl (ro_assign rfl) ?_
  refine wl_nil (x_then (hK4 _ _ ?_))
  clear hK4 K4
  refine wc_condF rfl ?_
  refine c_seq (fun K8 hK8 => ?_)
  refine c_seq (fun K9 hK9 => ?_)
  refine c_reg ?_ -- region 7 check.go:71
  refine wl (ro_cmp rfl rfl rfl) ?_
  refine wl (ro_assign rfl) ?_
  refine wl_nil (x_then (hK9 _ _ ?_))
  clear hK9 K9
  refine wc_condT rfl ?_
  refine c_skip (x_then (hK8 _ _ ?_))
  clear hK8 K8
  refine wc_condT rfl ?_
  refine c_seq (fun K10 hK10 => ?_)
  refine c_pi [(0, false), (1, false), (2, false), (3, false), (4, false), (5, false), (6, false), (7, false), (8, false), (9, false)] (SameH _) mixed (by kernel_rfl) rfl (by kernel_rfl) (po_then (po_blk (po_then (po_bp)))) (sameH_now _ _) ?_ -- region 10 check.go:72
  refine pi_ro rfl (fun w hS => ro_fieldAddr (k := 1) rfl fo_203_1) ?_
  refine pi_ro rfl (fun w hS => ro_loadB rfl sc_201 (Blk.of_heap h4 hS) (rfl)) ?_
  refine pi_ro rfl (fun w hS => ro_conv (a := (x : Int)) rfl sc_201 in_3 (Go.IntWalk.i64_in _ (by omega))) ?_
  refine pi_ro rfl (fun w hS => ro_adT (m := x) (k := 3) rfl rfl (by omega)) ?_
  refine pi_ro rfl (fun w hS => ro_move rfl) ?_
  refine pi_ro rfl (fun w hS => ro_nilCheck rfl) ?_
  refine pi_ro rfl (fun w hS => ro_fieldAddr (k := 4) rfl fo_199_4) ?_
  refine pi_ro rfl (fun w hS => ro_loadB rfl sc_3 (Blk.of_heap hG hS) (c4)) ?_
  refine pi_ro rfl (fun w hS => ro_cmp (r := true) rfl rfl (congrArg some (decide_eq_true (by omega)))) ?_
  refine pi_ro rfl (fun w hS => ro_assign rfl) ?_
  refine pi_nil (x_then (hK10 _ _ ?_))
  clear hK10 K10
  refine c_ret (x_blkR (x_thenR ?_))
  refine bp_ret Tryz.results97 rfl ?_
  exact ⟨rfl, hF.thenDrew⟩
set_option maxHeartbeats 4000000 in
theorem clo_31 (h : FV w ow cb gb sp dp bv t k R j r m) (hall : ∀ y, y ≤ k → ∃ r m, FV w ow cb gb sp dp bv t k R y r m) (hz : (fsAt (progF t (k + 1)) j).code.length = z + 3) (hi : InsX (protoOf (fsAt (progF t (k + 1)) j)) z (clO (Psf (progF t (k + 1))) (paF (paL t 0)) j) 31 x) (h16 : x < 65535) (hln : (progF t (k + 1)).length = k + 1) :
    Ret Tryz.prog 97 [ptrAt gb (j * 11), .agg #[u8n 31, u16c x], i64c j] w (fun r w' => r = .bool true ∧ Fram none' w w') := by
  have hF : Fram none' w w := Fram.refl _ _
  have hC := h.hC
  have hG := h.hG
  have c0 := h.c0
  have c4 := h.c4
  obtain ⟨ca, cc, c9, -⟩ := h.c9
  have hq : x + 3 < (fsAt (progF t (k + 1)) j).ns := hi.fr (by decide)
  refine ret_of Tryz.func97 rfl Tryz.ntmps97 rfl ?_
  refine c_seq (fun K1 hK1 => ?_)
  refine c_reg ?_ -- region 0 check.go:67
  refine wl_box (cs := [u8n 31, u16c x]) rfl rfl (fun b4 w1 hbb4 h4 F1 => ?_)
  have hbsb4 := Nat.le_trans hF.size hbb4
  have hnecbb4 : cb < b4 := Nat.lt_of_lt_of_le hC.lt hbb4
  have hnegbb4 : gb < b4 := Nat.lt_of_lt_of_le hG.lt hbb4
  replace hF := hF.thenDrew.thenN F1
  replace hC := F1.blkN hC
  replace hG := F1.blkN hG
  refine wl (ro_assign rfl) ?_
  refine wl_nil (x_then (hK1 _ _ ?_))
  clear hK1 K1
  refine c_seq (fun K2 hK2 => ?_)
  refine c_seq (fun K3 hK3 => ?_)
  refine c_reg ?_ -- region 1 check.go:68
  refine wl (ro_fieldAddr (k := 0) rfl fo_203_0) ?_
  refine wl (ro_loadB rfl sc_5 (h4) (rfl)) ?_
  refine wl_nil (x_then (hK3 _ _ ?_))
  clear hK3 K3
  refine c_block ?_
  refine c_seq (fun K4 hK4 => ?_)
  refine c_seq (fun K5 hK5 => ?_)
  refine c_reg ?_ -- region 2 check.go:69
  refine wl (ro_cmp rfl rfl rfl) ?_
  refine wl (ro_assign rfl) ?_
  refine wl_nil (x_then (hK5 _ _ ?_))
  clear hK5 K5
  refine wc_condF rfl ?_
  refine c_seq (fun K6 hK6 => ?_)
  refine c_reg ?_ -- region 3 check.go:69
  refine wl (ro_cmp rfl rfl rfl) ?_
  refine wl (ro_assign rfl) ?_
  refine wl_nil (x_then (hK6 _ _ ?_))
  clear hK6 K6
  refine wc_condF rfl ?_
  refine c_seq (fun K7 hK7 => ?_)
  refine c_reg ?_ -- region 4 check.go:69
  refine wl (ro_cmp rfl rfl rfl) ?_
  refine wl (ro_assign rfl) ?_
  refine wl_nil (x_then (hK7 _ _ ?_))
  clear hK7 K7
  refine wc_condF rfl ?_
  refine c_reg ?_ -- region 5 check.go:69
  refine wl (ro_cmp rfl rfl rfl) ?_
  refine wl (ro_assign rfl) ?_
  refine wl_nil (x_then (hK4 _ _ ?_))
  clear hK4 K4
  refine wc_condF rfl ?_
  refine c_seq (fun K8 hK8 => ?_)
  refine c_seq (fun K9 hK9 => ?_)
  refine c_reg ?_ -- region 7 check.go:71
  refine wl (ro_cmp rfl rfl rfl) ?_
  refine wl (ro_assign rfl) ?_
  refine wl_nil (x_then (hK9 _ _ ?_))
  clear hK9 K9
  refine wc_condF rfl ?_
  refine c_seq (fun K10 hK10 => ?_)
  refine c_reg ?_ -- region 8 check.go:71
  refine wl (ro_cmp rfl rfl rfl) ?_
  refine wl (ro_assign rfl) ?_
  refine wl_nil (x_then (hK10 _ _ ?_))
  clear hK10 K10
  refine wc_condT rfl ?_
  refine c_skip (x_then (hK8 _ _ ?_))
  clear hK8 K8
  refine wc_condT rfl ?_
  refine c_seq (fun K11 hK11 => ?_)
  refine c_pi [(0, false), (1, false), (2, false), (3, false), (4, false), (5, false), (6, false), (7, false), (8, false), (9, false)] (SameH _) mixed (by kernel_rfl) rfl (by kernel_rfl) (po_then (po_blk (po_then (po_bp)))) (sameH_now _ _) ?_ -- region 10 check.go:72
  refine pi_ro rfl (fun w hS => ro_fieldAddr (k := 1) rfl fo_203_1) ?_
  refine pi_ro rfl (fun w hS => ro_loadB rfl sc_201 (Blk.of_heap h4 hS) (rfl)) ?_
  refine pi_ro rfl (fun w hS => ro_conv (a := (x : Int)) rfl sc_201 in_3 (Go.IntWalk.i64_in _ (by omega))) ?_
  refine pi_ro rfl (fun w hS => ro_adT (m := x) (k := 3) rfl rfl (by omega)) ?_
  refine pi_ro rfl (fun w hS => ro_move rfl) ?_
  refine pi_ro rfl (fun w hS => ro_nilCheck rfl) ?_
  refine pi_ro rfl (fun w hS => ro_fieldAddr (k := 4) rfl fo_199_4) ?_
  refine pi_ro rfl (fun w hS => ro_loadB rfl sc_3 (Blk.of_heap hG hS) (c4)) ?_
  refine pi_ro rfl (fun w hS => ro_cmp (r := true) rfl rfl (congrArg some (decide_eq_true (by omega)))) ?_
  refine pi_ro rfl (fun w hS => ro_assign rfl) ?_
  refine pi_nil (x_then (hK11 _ _ ?_))
  clear hK11 K11
  refine c_ret (x_blkR (x_thenR ?_))
  refine bp_ret Tryz.results97 rfl ?_
  exact ⟨rfl, hF.thenDrew⟩
set_option maxHeartbeats 4000000 in
theorem clo_32 (h : FV w ow cb gb sp dp bv t k R j r m) (hall : ∀ y, y ≤ k → ∃ r m, FV w ow cb gb sp dp bv t k R y r m) (hz : (fsAt (progF t (k + 1)) j).code.length = z + 3) (hi : InsX (protoOf (fsAt (progF t (k + 1)) j)) z (clO (Psf (progF t (k + 1))) (paF (paL t 0)) j) 32 x) (h16 : x < 65535) (hln : (progF t (k + 1)).length = k + 1) :
    Ret Tryz.prog 97 [ptrAt gb (j * 11), .agg #[u8n 32, u16c x], i64c j] w (fun r w' => r = .bool true ∧ Fram none' w w') := by
  have hF : Fram none' w w := Fram.refl _ _
  have hC := h.hC
  have hG := h.hG
  have c0 := h.c0
  have c4 := h.c4
  obtain ⟨ca, cc, c9, -⟩ := h.c9
  have hq : x + 3 < (fsAt (progF t (k + 1)) j).ns := hi.fr (by decide)
  refine ret_of Tryz.func97 rfl Tryz.ntmps97 rfl ?_
  refine c_seq (fun K1 hK1 => ?_)
  refine c_reg ?_ -- region 0 check.go:67
  refine wl_box (cs := [u8n 32, u16c x]) rfl rfl (fun b4 w1 hbb4 h4 F1 => ?_)
  have hbsb4 := Nat.le_trans hF.size hbb4
  have hnecbb4 : cb < b4 := Nat.lt_of_lt_of_le hC.lt hbb4
  have hnegbb4 : gb < b4 := Nat.lt_of_lt_of_le hG.lt hbb4
  replace hF := hF.thenDrew.thenN F1
  replace hC := F1.blkN hC
  replace hG := F1.blkN hG
  refine wl (ro_assign rfl) ?_
  refine wl_nil (x_then (hK1 _ _ ?_))
  clear hK1 K1
  refine c_seq (fun K2 hK2 => ?_)
  refine c_seq (fun K3 hK3 => ?_)
  refine c_reg ?_ -- region 1 check.go:68
  refine wl (ro_fieldAddr (k := 0) rfl fo_203_0) ?_
  refine wl (ro_loadB rfl sc_5 (h4) (rfl)) ?_
  refine wl_nil (x_then (hK3 _ _ ?_))
  clear hK3 K3
  refine c_block ?_
  refine c_seq (fun K4 hK4 => ?_)
  refine c_seq (fun K5 hK5 => ?_)
  refine c_reg ?_ -- region 2 check.go:69
  refine wl (ro_cmp rfl rfl rfl) ?_
  refine wl (ro_assign rfl) ?_
  refine wl_nil (x_then (hK5 _ _ ?_))
  clear hK5 K5
  refine wc_condF rfl ?_
  refine c_seq (fun K6 hK6 => ?_)
  refine c_reg ?_ -- region 3 check.go:69
  refine wl (ro_cmp rfl rfl rfl) ?_
  refine wl (ro_assign rfl) ?_
  refine wl_nil (x_then (hK6 _ _ ?_))
  clear hK6 K6
  refine wc_condF rfl ?_
  refine c_seq (fun K7 hK7 => ?_)
  refine c_reg ?_ -- region 4 check.go:69
  refine wl (ro_cmp rfl rfl rfl) ?_
  refine wl (ro_assign rfl) ?_
  refine wl_nil (x_then (hK7 _ _ ?_))
  clear hK7 K7
  refine wc_condF rfl ?_
  refine c_reg ?_ -- region 5 check.go:69
  refine wl (ro_cmp rfl rfl rfl) ?_
  refine wl (ro_assign rfl) ?_
  refine wl_nil (x_then (hK4 _ _ ?_))
  clear hK4 K4
  refine wc_condF rfl ?_
  refine c_seq (fun K8 hK8 => ?_)
  refine c_seq (fun K9 hK9 => ?_)
  refine c_reg ?_ -- region 7 check.go:71
  refine wl (ro_cmp rfl rfl rfl) ?_
  refine wl (ro_assign rfl) ?_
  refine wl_nil (x_then (hK9 _ _ ?_))
  clear hK9 K9
  refine wc_condF rfl ?_
  refine c_seq (fun K10 hK10 => ?_)
  refine c_reg ?_ -- region 8 check.go:71
  refine wl (ro_cmp rfl rfl rfl) ?_
  refine wl (ro_assign rfl) ?_
  refine wl_nil (x_then (hK10 _ _ ?_))
  clear hK10 K10
  refine wc_condF rfl ?_
  refine c_reg ?_ -- region 9 check.go:71
  refine wl (ro_cmp rfl rfl rfl) ?_
  refine wl (ro_assign rfl) ?_
  refine wl_nil (x_then (hK8 _ _ ?_))
  clear hK8 K8
  refine wc_condT rfl ?_
  refine c_seq (fun K11 hK11 => ?_)
  refine c_pi [(0, false), (1, false), (2, false), (3, false), (4, false), (5, false), (6, false), (7, false), (8, false), (9, false)] (SameH _) mixed (by kernel_rfl) rfl (by kernel_rfl) (po_then (po_blk (po_then (po_bp)))) (sameH_now _ _) ?_ -- region 10 check.go:72
  refine pi_ro rfl (fun w hS => ro_fieldAddr (k := 1) rfl fo_203_1) ?_
  refine pi_ro rfl (fun w hS => ro_loadB rfl sc_201 (Blk.of_heap h4 hS) (rfl)) ?_
  refine pi_ro rfl (fun w hS => ro_conv (a := (x : Int)) rfl sc_201 in_3 (Go.IntWalk.i64_in _ (by omega))) ?_
  refine pi_ro rfl (fun w hS => ro_adT (m := x) (k := 3) rfl rfl (by omega)) ?_
  refine pi_ro rfl (fun w hS => ro_move rfl) ?_
  refine pi_ro rfl (fun w hS => ro_nilCheck rfl) ?_
  refine pi_ro rfl (fun w hS => ro_fieldAddr (k := 4) rfl fo_199_4) ?_
  refine pi_ro rfl (fun w hS => ro_loadB rfl sc_3 (Blk.of_heap hG hS) (c4)) ?_
  refine pi_ro rfl (fun w hS => ro_cmp (r := true) rfl rfl (congrArg some (decide_eq_true (by omega)))) ?_
  refine pi_ro rfl (fun w hS => ro_assign rfl) ?_
  refine pi_nil (x_then (hK11 _ _ ?_))
  clear hK11 K11
  refine c_ret (x_blkR (x_thenR ?_))
  refine bp_ret Tryz.results97 rfl ?_
  exact ⟨rfl, hF.thenDrew⟩
set_option maxHeartbeats 4000000 in
theorem clo_28 (h : FV w ow cb gb sp dp bv t k R j r m) (hall : ∀ y, y ≤ k → ∃ r m, FV w ow cb gb sp dp bv t k R y r m) (hz : (fsAt (progF t (k + 1)) j).code.length = z + 3) (hi : InsX (protoOf (fsAt (progF t (k + 1)) j)) z (clO (Psf (progF t (k + 1))) (paF (paL t 0)) j) 28 x) (h16 : x < 65535) (hln : (progF t (k + 1)).length = k + 1) :
    Ret Tryz.prog 97 [ptrAt gb (j * 11), .agg #[u8n 28, u16c x], i64c j] w (fun r w' => r = .bool true ∧ Fram none' w w') := by
  have hF : Fram none' w w := Fram.refl _ _
  have hC := h.hC
  have hG := h.hG
  have c0 := h.c0
  have c4 := h.c4
  obtain ⟨ca, cc, c9, -⟩ := h.c9
  have hq := hi.ic rfl
  obtain ⟨q1, q2, q3⟩ := hq
  rw [show (Psf (progF t (k + 1))).length = k + 1 by unfold Psf; rw [List.length_map]; exact hln] at q3
  have hk12 := h.k12
  obtain ⟨r', m', h'⟩ := hall x (by omega)
  have p1 := h'.c1
  rw [if_neg (by omega), q2] at p1
  replace p1 : (rws fnc R)[0 + x * 11 + 1]? = some (ptrAt gb (j * 11)) := by rw [Nat.zero_add]; exact p1
  refine ret_of Tryz.func97 rfl Tryz.ntmps97 rfl ?_
  refine c_seq (fun K1 hK1 => ?_)
  refine c_reg ?_ -- region 0 check.go:67
  refine wl_box (cs := [u8n 28, u16c x]) rfl rfl (fun b4 w1 hbb4 h4 F1 => ?_)
  have hbsb4 := Nat.le_trans hF.size hbb4
  have hnecbb4 : cb < b4 := Nat.lt_of_lt_of_le hC.lt hbb4
  have hnegbb4 : gb < b4 := Nat.lt_of_lt_of_le hG.lt hbb4
  replace hF := hF.thenDrew.thenN F1
  replace hC := F1.blkN hC
  replace hG := F1.blkN hG
  refine wl (ro_assign rfl) ?_
  refine wl_nil (x_then (hK1 _ _ ?_))
  clear hK1 K1
  refine c_seq (fun K2 hK2 => ?_)
  refine c_seq (fun K3 hK3 => ?_)
  refine c_reg ?_ -- region 1 check.go:68
  refine wl (ro_fieldAddr (k := 0) rfl fo_203_0) ?_
  refine wl (ro_loadB rfl sc_5 (h4) (rfl)) ?_
  refine wl_nil (x_then (hK3 _ _ ?_))
  clear hK3 K3
  refine c_block ?_
  refine c_seq (fun K4 hK4 => ?_)
  refine c_seq (fun K5 hK5 => ?_)
  refine c_reg ?_ -- region 2 check.go:69
  refine wl (ro_cmp rfl rfl rfl) ?_
  refine wl (ro_assign rfl) ?_
  refine wl_nil (x_then (hK5 _ _ ?_))
  clear hK5 K5
  refine wc_condF rfl ?_
  refine c_seq (fun K6 hK6 => ?_)
  refine c_reg ?_ -- region 3 check.go:69
  refine wl (ro_cmp rfl rfl rfl) ?_
  refine wl (ro_assign rfl) ?_
  refine wl_nil (x_then (hK6 _ _ ?_))
  clear hK6 K6
  refine wc_condF rfl ?_
  refine c_seq (fun K7 hK7 => ?_)
  refine c_reg ?_ -- region 4 check.go:69
  refine wl (ro_cmp rfl rfl rfl) ?_
  refine wl (ro_assign rfl) ?_
  refine wl_nil (x_then (hK7 _ _ ?_))
  clear hK7 K7
  refine wc_condF rfl ?_
  refine c_reg ?_ -- region 5 check.go:69
  refine wl (ro_cmp rfl rfl rfl) ?_
  refine wl (ro_assign rfl) ?_
  refine wl_nil (x_then (hK4 _ _ ?_))
  clear hK4 K4
  refine wc_condF rfl ?_
  refine c_seq (fun K8 hK8 => ?_)
  refine c_seq (fun K9 hK9 => ?_)
  refine c_reg ?_ -- region 7 check.go:71
  refine wl (ro_cmp rfl rfl rfl) ?_
  refine wl (ro_assign rfl) ?_
  refine wl_nil (x_then (hK9 _ _ ?_))
  clear hK9 K9
  refine wc_condF rfl ?_
  refine c_seq (fun K10 hK10 => ?_)
  refine c_reg ?_ -- region 8 check.go:71
  refine wl (ro_cmp rfl rfl rfl) ?_
  refine wl (ro_assign rfl) ?_
  refine wl_nil (x_then (hK10 _ _ ?_))
  clear hK10 K10
  refine wc_condF rfl ?_
  refine c_reg ?_ -- region 9 check.go:71
  refine wl (ro_cmp rfl rfl rfl) ?_
  refine wl (ro_assign rfl) ?_
  refine wl_nil (x_then (hK8 _ _ ?_))
  clear hK8 K8
  refine wc_condF rfl ?_
  refine c_seq (fun K11 hK11 => ?_)
  refine c_reg ?_ -- region 11 check.go:73
  refine wl (ro_cmp rfl rfl rfl) ?_
  refine wl (ro_assign rfl) ?_
  refine wl_nil (x_then (hK11 _ _ ?_))
  clear hK11 K11
  refine wc_condT rfl ?_
  refine c_seq (fun K12 hK12 => ?_)
  refine c_pi [(0, false), (1, false), (2, false), (3, false), (4, false), (5, false), (6, false), (7, false), (8, false), (9, false), (10, false), (11, false), (12, false), (13, false), (14, false), (15, false), (16, false), (17, false), (18, false), (19, false), (20, false), (21, false)] (SameH _) mixed (by kernel_rfl) rfl (by kernel_rfl) (po_then (po_blk (po_then (po_bp)))) (sameH_now _ _) ?_ -- region 12 check.go:74
  refine pi_ro rfl (fun w hS => ro_fieldAddr (k := 1) rfl fo_203_1) ?_
  refine pi_ro rfl (fun w hS => ro_loadB rfl sc_201 (Blk.of_heap h4 hS) (rfl)) ?_
  refine pi_ro rfl (fun w hS => ro_conv (a := (x : Int)) rfl sc_201 in_3 (Go.IntWalk.i64_in _ (by omega))) ?_
  refine pi_ro rfl (fun w hS => ro_move rfl) ?_
  refine pi_ro rfl (fun w hS => ro_cmp (r := true) rfl rfl (congrArg some (decide_eq_true (by omega)))) ?_
  refine pi_ro rfl (fun w hS => ro_move rfl) ?_
  refine pi_gyes rfl rfl (fun w hS => ro_move rfl) ?_
  refine pi_gyes rfl rfl (fun w hS => ro_nilCheck rfl) ?_
  refine pi_gyes rfl rfl (fun w hS => ro_fieldAddr (k := 0) rfl fo_199_0) ?_
  refine pi_gyes rfl rfl (fun w hS => ro_loadB rfl sc_22 (Blk.of_heap hG hS) (c0)) ?_
  refine pi_gyes rfl rfl (fun w hS => ro_nilCheck rfl) ?_
  refine pi_gyes rfl rfl (fun w hS => ro_fieldAddr (k := 3) rfl fo_94_3) ?_
  refine pi_gyes rfl rfl (fun w hS => ro_loadB rfl sc_92 (Blk.of_heap hC hS) (rfl)) ?_
  refine pi_gyes rfl rfl (fun w hS => ro_fieldAddr (k := 1) rfl fo_203_1) ?_
  refine pi_gyes rfl rfl (fun w hS => ro_loadB rfl sc_201 (Blk.of_heap h4 hS) (rfl)) ?_
  refine pi_gyes rfl rfl (fun w hS => ro_indexAddr (et := 199) (k := 11) rfl rfl se_92 (rfl) ((by omega))) ?_
  refine pi_gyes rfl rfl (fun w hS => ro_fieldAddr (k := 1) rfl fo_199_1) ?_
  refine pi_gyes rfl rfl (fun w hS => ro_loadB rfl sc_128 (Blk.of_heap hG hS) (p1)) ?_
  refine pi_gyes rfl rfl (fun w hS => ro_move rfl) ?_
  refine pi_gyes rfl rfl (fun w hS => ro_eqPtr rfl rfl) ?_
  refine pi_ro rfl (fun w hS => ro_pick rfl rfl rfl) ?_
  refine pi_ro rfl (fun w hS => ro_assign rfl) ?_
  refine pi_nil (x_then (hK12 _ _ ?_))
  clear hK12 K12
  refine c_ret (x_blkR (x_thenR ?_))
  refine bp_ret Tryz.results97 rfl ?_
  exact ⟨rfl, hF.thenDrew⟩
set_option maxHeartbeats 4000000 in
theorem clo_0 (h : FV w ow cb gb sp dp bv t k R j r m) (hall : ∀ y, y ≤ k → ∃ r m, FV w ow cb gb sp dp bv t k R y r m) (hz : (fsAt (progF t (k + 1)) j).code.length = z + 3) (hi : InsX (protoOf (fsAt (progF t (k + 1)) j)) z (clO (Psf (progF t (k + 1))) (paF (paL t 0)) j) op x) (e21 : op ≠ 21) (e22 : op ≠ 22) (e23 : op ≠ 23) (e24 : op ≠ 24) (e30 : op ≠ 30) (e31 : op ≠ 31) (e32 : op ≠ 32) (e28 : op ≠ 28) (h16 : x < 65535) (hln : (progF t (k + 1)).length = k + 1) :
    Ret Tryz.prog 97 [ptrAt gb (j * 11), .agg #[u8n op, u16c x], i64c j] w (fun r w' => r = .bool true ∧ Fram none' w w') := by
  have hF : Fram none' w w := Fram.refl _ _
  have hC := h.hC
  have hG := h.hG
  have c0 := h.c0
  have c4 := h.c4
  obtain ⟨ca, cc, c9, -⟩ := h.c9
  refine ret_of Tryz.func97 rfl Tryz.ntmps97 rfl ?_
  refine c_seq (fun K1 hK1 => ?_)
  refine c_reg ?_ -- region 0 check.go:67
  refine wl_box (cs := [u8n op, u16c x]) rfl rfl (fun b4 w1 hbb4 h4 F1 => ?_)
  have hbsb4 := Nat.le_trans hF.size hbb4
  have hnecbb4 : cb < b4 := Nat.lt_of_lt_of_le hC.lt hbb4
  have hnegbb4 : gb < b4 := Nat.lt_of_lt_of_le hG.lt hbb4
  replace hF := hF.thenDrew.thenN F1
  replace hC := F1.blkN hC
  replace hG := F1.blkN hG
  refine wl (ro_assign rfl) ?_
  refine wl_nil (x_then (hK1 _ _ ?_))
  clear hK1 K1
  refine c_seq (fun K2 hK2 => ?_)
  refine c_seq (fun K3 hK3 => ?_)
  refine c_reg ?_ -- region 1 check.go:68
  refine wl (ro_fieldAddr (k := 0) rfl fo_203_0) ?_
  refine wl (ro_loadB rfl sc_5 (h4) (rfl)) ?_
  refine wl_nil (x_then (hK3 _ _ ?_))
  clear hK3 K3
  refine c_block ?_
  refine c_seq (fun K4 hK4 => ?_)
  refine c_seq (fun K5 hK5 => ?_)
  refine c_reg ?_ -- region 2 check.go:69
  refine wl (ro_cmp (r := false) rfl rfl (congrArg some (decide_eq_false (by omega)))) ?_
  refine wl (ro_assign rfl) ?_
  refine wl_nil (x_then (hK5 _ _ ?_))
  clear hK5 K5
  refine wc_condF rfl ?_
  refine c_seq (fun K6 hK6 => ?_)
  refine c_reg ?_ -- region 3 check.go:69
  refine wl (ro_cmp (r := false) rfl rfl (congrArg some (decide_eq_false (by omega)))) ?_
  refine wl (ro_assign rfl) ?_
  refine wl_nil (x_then (hK6 _ _ ?_))
  clear hK6 K6
  refine wc_condF rfl ?_
  refine c_seq (fun K7 hK7 => ?_)
  refine c_reg ?_ -- region 4 check.go:69
  refine wl (ro_cmp (r := false) rfl rfl (congrArg some (decide_eq_false (by omega)))) ?_
  refine wl (ro_assign rfl) ?_
  refine wl_nil (x_then (hK7 _ _ ?_))
  clear hK7 K7
  refine wc_condF rfl ?_
  refine c_reg ?_ -- region 5 check.go:69
  refine wl (ro_cmp (r := false) rfl rfl (congrArg some (decide_eq_false (by omega)))) ?_
  refine wl (ro_assign rfl) ?_
  refine wl_nil (x_then (hK4 _ _ ?_))
  clear hK4 K4
  refine wc_condF rfl ?_
  refine c_seq (fun K8 hK8 => ?_)
  refine c_seq (fun K9 hK9 => ?_)
  refine c_reg ?_ -- region 7 check.go:71
  refine wl (ro_cmp (r := false) rfl rfl (congrArg some (decide_eq_false (by omega)))) ?_
  refine wl (ro_assign rfl) ?_
  refine wl_nil (x_then (hK9 _ _ ?_))
  clear hK9 K9
  refine wc_condF rfl ?_
  refine c_seq (fun K10 hK10 => ?_)
  refine c_reg ?_ -- region 8 check.go:71
  refine wl (ro_cmp (r := false) rfl rfl (congrArg some (decide_eq_false (by omega)))) ?_
  refine wl (ro_assign rfl) ?_
  refine wl_nil (x_then (hK10 _ _ ?_))
  clear hK10 K10
  refine wc_condF rfl ?_
  refine c_reg ?_ -- region 9 check.go:71
  refine wl (ro_cmp (r := false) rfl rfl (congrArg some (decide_eq_false (by omega)))) ?_
  refine wl (ro_assign rfl) ?_
  refine wl_nil (x_then (hK8 _ _ ?_))
  clear hK8 K8
  refine wc_condF rfl ?_
  refine c_seq (fun K11 hK11 => ?_)
  refine c_reg ?_ -- region 11 check.go:73
  refine wl (ro_cmp (r := false) rfl rfl (congrArg some (decide_eq_false (by omega)))) ?_
  refine wl (ro_assign rfl) ?_
  refine wl_nil (x_then (hK11 _ _ ?_))
  clear hK11 K11
  refine wc_condF rfl ?_
  refine c_skip (x_blk (x_then (hK2 _ _ ?_)))
  clear hK2 K2
  refine forget [] trivial (fun e => ?_)
  refine c_seq (fun K12 hK12 => ?_)
  refine c_reg ?_ -- region 13 check.go:76
  refine wl (ro_assign rfl) ?_
  refine wl_nil (x_then (hK12 _ _ ?_))
  clear hK12 K12
  refine c_ret ?_
  refine bp_ret Tryz.results97 rfl ?_
  exact ⟨rfl, hF⟩
theorem closed97 (h : FV w ow cb gb sp dp bv t k R j r m) (hall : ∀ y, y ≤ k → ∃ r m, FV w ow cb gb sp dp bv t k R y r m) (hz : (fsAt (progF t (k + 1)) j).code.length = z + 3) (hi : InsX (protoOf (fsAt (progF t (k + 1)) j)) z (clO (Psf (progF t (k + 1))) (paF (paL t 0)) j) op x) (h16 : x < 65535) (hln : (progF t (k + 1)).length = k + 1) :
    Ret Tryz.prog 97 [ptrAt gb (j * 11), .agg #[u8n op, u16c x], i64c j] w (fun r w' => r = .bool true ∧ Fram none' w w') := by
  by_cases e21 : op = 21
  · subst e21; exact clo_21 h hall hz hi h16 hln
  by_cases e22 : op = 22
  · subst e22; exact clo_22 h hall hz hi h16 hln
  by_cases e23 : op = 23
  · subst e23; exact clo_23 h hall hz hi h16 hln
  by_cases e24 : op = 24
  · subst e24; exact clo_24 h hall hz hi h16 hln
  by_cases e30 : op = 30
  · subst e30; exact clo_30 h hall hz hi h16 hln
  by_cases e31 : op = 31
  · subst e31; exact clo_31 h hall hz hi h16 hln
  by_cases e32 : op = 32
  · subst e32; exact clo_32 h hall hz hi h16 hln
  by_cases e28 : op = 28
  · subst e28; exact clo_28 h hall hz hi h16 hln
  exact clo_0 h hall hz hi e21 e22 e23 e24 e30 e31 e32 e28 h16 hln
end
end Go.Proofs.Qxb6500568aGreatDoor
