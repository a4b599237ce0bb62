import Derived.Test.Qxb6500568aGreatDoorHb
/- The machine: loops. -/
namespace Go.Proofs.Qxb6500568aGreatDoor
open Ieee
set_option linter.unusedVariables false
set_option linter.unusedSimpArgs false
set_option linter.unusedSectionVars false

section
variable {C : VC} {w w' w1 u u1 u2 : World} {ow ow' ow1 : Nat → Nat} {s : AS} {a : AS} {y : ATh} {gs : List AFr} {g : AFr} {vars : List PV} {fg fc : Nat} {V : VS} {κ : List Nat} {Vv : Nat → Value} {U : Nat → Nat → Value} {x : VTh} {f : VFr} {fs : List VFr} {L : VL} {e fuel t : Nat} {out : Str} {T : List Tb}
/-- a thread's stack in memory. -/
theorem VW.stkR (h : VW C w ow V e fuel out T Vv U) (hx : V.ths[t]? = some x) {sg sc : Nat} (hU : U t 2 = .slice (some ⟨sg, 0, none⟩) x.stack.length sc) : ∃ l, Blk w.heap sg l 119 ∧ ow sg = 440 + t ∧ x.stack.length * 3 ≤ l.length ∧ x.stack.length ≤ sc ∧ (∀ (i : Nat) v, x.stack[i]? = some v → (l.drop (i * 3)).take 3 = pvc v) ∧
    ∀ u (i : Nat) v v', x.stack[i]? = some v → Fram (one sg) w u → Blk u.heap sg (l.take (i * 3) ++ pvc v' ++ l.drop (i * 3 + 3)) 119 → VW C u ow (V.setT t { x with stack := x.stack.set i v' }) e fuel out T Vv U := by
  obtain ⟨L, op, vl⟩ := h.ex
  have ht := h.lt hx
  have hO := op.sk vl hx ht
  rcases hO.o.2 with ⟨k1, k2⟩ | ⟨g', cap', l, k1, hB, q1, hcap, q2, q3⟩
  · rw [hU] at k1; cases k1
  · rw [hU] at k1
    injection k1 with k1 _ k3
    injection k1 with k1
    injection k1 with k1
    subst k1; subst k3
    have q4 := hO.t sg (by rw [hU]; rfl)
    refine ⟨l, hB, q4, by rw [q2]; exact Nat.mul_le_mul_right 3 q1, q1, fun i v hv => ?_, fun u i v v' hv fr hBu => ?_⟩
    · obtain ⟨g9, c9, l9, e9, b9, -, -, -, -, r9⟩ := hO.at pvc_len hv
      rw [hU] at e9
      injection e9 with e9
      injection e9 with e9
      injection e9 with e9
      subst e9
      rw [(hB.uniq b9).1]
      have := r9 i v hv
      rw [Nat.zero_add] at this
      exact this
    · have hput := OwT.put (w' := u) (ow := ow) (tag := 440 + t) (L := x.stack) (x' := v') (cs := pvc v') (i := i) (j := 0) (m := 3) pvc_len hBu q1 hcap q2 q3 q4 rfl hv rfl (by decide) rfl
      refine h.wrT op ht (i := 2) (by unfold thI; omega) (fr.mono (fun b _ y => by have y : b = sg := y; rw [y, q4])) (n' := x.stack.length) (xs' := rws pvc (x.stack.set i v')) (by rw [hU]; exact hput) ?_ rfl
      have := vl.stk hx (x.stack.set i v') (by rw [List.length_set]; exact vl.sb t x hx)
      rw [List.length_set] at this
      exact this
theorem AO.am (o : AO C fg fc w ow a y gs g vars V κ Vv U x f fs) : AM C fg fc w ow (mkA a y gs g vars) := ⟨V, κ, Vv, U, o.v, o.z, by rw [mk_th o.hc]; exact o.hf⟩
theorem AM.next288' (hR : AM C fg fc w ow s) {n : Nat} {k : PV} (hn : n < s.tabs.length) (hk : wfV k = true) (hN : W64 k.N) : Ret Tryz.prog 288 [ptr C.xb, i64c n, pv k] w (fun r w' => r = .tuple #[pv ((tNext (s.tabs.getD n []) k).getD (vNil, vNil)).1, pv ((tNext (s.tabs.getD n []) k).getD (vNil, vNil)).2, icv (if (tNext (s.tabs.getD n []) k).isSome then 0 else 7)] ∧ Fram none' w w') :=
  (Next288 (h := n) (t := s.tabs.getD n []) hR.rtab (tbD_at hn) hk hN).mono fun r w' h => by
    refine ⟨?_, h.2⟩
    have h1 := h.1
    unfold nxR at h1
    split at h1
    · rename_i p hp; rw [hp]; exact h1
    · rename_i hp; rw [hp]; exact h1
/-- a slot's value. -/
def sloV (g : AFr) (vars : List PV) (z : Nat) : PV := vars.getD (g.slots.getD z 0) vNil
theorem AO.slot (o : AO C fg fc w ow a y gs g vars V κ Vv U x f fs) {z : Nat} (hz : z < g.slots.length) : x.stack[f.base + z]? = some (sloV g vars z) ∧ g.slots[z]? = some (g.slots.getD z 0) ∧ g.slots.getD z 0 < vars.length := by
  have h1 : g.slots[z]? = some (g.slots.getD z 0) := by rw [List.getD_eq_getElem?_getD, List.getElem?_eq_getElem hz]; rfl
  obtain ⟨h2, h3⟩ := o.z.var o.hc o.t h1
  exact ⟨h2, h1, h3⟩
theorem sl_row {l : List Value} {so i k o : Nat} {v : PV} (h : (l.drop (i * 3)).take 3 = pvc v) (hs : so + k * 3 = i * 3) (ho : o < 3) : l[so + k * 3 + o]? = (pvc v)[o]? := by rw [hs]; exact row_get h ho
theorem sl_agg {l : List Value} {so i k : Nat} {v : PV} (h : (l.drop (i * 3)).take 3 = pvc v) (hs : so + k * 3 = i * 3) : (l.drop (so + k * 3)).take 3 = pvc v := by rw [hs]; exact h
theorem AO.setS (o : AO C fg fc w ow a y gs g vars V κ Vv U x f fs) {sg sc : Nat} (hU : U a.cur 2 = .slice (some ⟨sg, 0, none⟩) x.stack.length sc) {l : List Value} (hB : Blk w.heap sg l 119) {z : Nat} (hz : z < g.slots.length) {v' : PV} (fr : Fram (one sg) w u) (hBu : Blk u.heap sg (l.take ((f.base + z) * 3) ++ pvc v' ++ l.drop ((f.base + z) * 3 + 3)) 119) :
    AO C fg fc u ow a y gs g (vars.set (g.slots.getD z 0) v') (V.setT a.cur { x with stack := x.stack.set (f.base + z) v' }) κ Vv U { x with stack := x.stack.set (f.base + z) v' } f fs := by
  obtain ⟨l', hB', -, -, -, -, law⟩ := o.v.stkR o.t.hx hU
  obtain rfl := (hB.uniq hB').1
  obtain ⟨s1, s2, s3⟩ := o.slot hz
  have hz' := o.z.setL o.hc o.t s2 v'
  obtain ⟨x2, f2, fs2, T2⟩ := hz'.top o.hc
  have hl : a.cur < V.ths.length := (List.getElem?_eq_some_iff.1 o.t.hx).1
  have hx2 : (V.setT a.cur { x with stack := x.stack.set (f.base + z) v' }).ths[a.cur]? = some { x with stack := x.stack.set (f.base + z) v' } := by
    show (V.ths.set _ _)[a.cur]? = _
    rw [List.getElem?_set_self hl]
  have q1 := T2.hx
  rw [hx2] at q1
  injection q1 with q1
  have q2 := T2.hf
  rw [← q1] at q2
  have q2 : x.frs = f2 :: fs2 := q2
  rw [o.t.hf] at q2
  injection q2 with q2 q3
  subst q1; subst q2; subst q3
  exact { v := law u _ _ v' s1 fr hBu, z := hz', t := T2, hf := o.hf, hc := o.hc, ns := o.ns, dp := o.dp }
set_option maxHeartbeats 8000000 in
theorem for_30 (o : AO C fg fc w ow a y gs g vars V κ Vv U x f fs) {sg sc sc' so z : Nat} (hU : U a.cur 2 = .slice (some ⟨sg, 0, none⟩) x.stack.length sc) (hz : z + 3 < g.slots.length) (hso : so = (f.base + z) * 3) (hw2 : W64 (sloV g vars (z + 2)).N) {zz : AS}
    (hEz : ¬ ((sloV g vars z).T = 2 ∧ (sloV g vars (z + 1)).T = 2 ∧ (sloV g vars (z + 2)).T = 2) ∨ (fCmp 1 (sloV g vars (z + 2)).N 0 = true ∨ fCmp 2 (sloV g vars (z + 2)).N (sloV g vars (z + 2)).N = true) → zz = araise mFor (mkA a y gs g vars)) :
    RetP Tryz.prog 274 [ptr C.E.mb, tptr C a.cur, .slice (some ⟨sg, so, none⟩) 4 sc', u8n 30] w (fun r w' => ((sloV g vars z).T = 2 ∧ (sloV g vars (z + 1)).T = 2 ∧ (sloV g vars (z + 2)).T = 2 ∧ ¬ (fCmp 1 (sloV g vars (z + 2)).N 0 = true ∨ fCmp 2 (sloV g vars (z + 2)).N (sloV g vars (z + 2)).N = true)) ∧ AR C fg fc w ow (.tuple #[]) (mkA a y gs g vars) r w') (AE C (kH a) w ow zz) := by
  have hc9 := o.hc
  have hX : Xt w ow ow := Xt.refl _ _
  have hF : Fram (tg ow vtT) w w := Fram.refl _ _
  obtain ⟨l, hB5, ts, hls, hcs, hrw, -⟩ := o.v.stkR o.t.hx hU
  have r0 := hrw _ _ (o.slot (z := z) (by omega)).1
  have r1 := hrw _ _ (o.slot (z := z + 1) (by omega)).1
  have r2 := hrw _ _ (o.slot (z := z + 2) (by omega)).1
  have hR := o.am
  have e0 : so + 0 * 3 = (f.base + z) * 3 := by omega
  have e1 : so + 1 * 3 = (f.base + (z + 1)) * 3 := by omega
  have e2 : so + 2 * 3 = (f.base + (z + 2)) * 3 := by omega
  generalize sloV g vars z = p0 at *
  generalize sloV g vars (z + 1) = p1 at *
  generalize sloV g vars (z + 2) = p2 at *
  refine retp_of Tryz.func274 rfl Tryz.ntmps274 rfl ?_
  refine c_seq (fun K1 hK1 => ?_)
  refine c_reg ?_ -- region 0 ops.go:144
  refine wl (ro_move rfl) ?_
  refine wl_nil (x_then (hK1 _ _ ?_))
  clear hK1 K1
  refine c_block ?_
  refine forget [(0, _), (1, _), (2, _), (19, _)] ⟨rfl, rfl, rfl, rfl, trivial⟩ (fun e => ?_)
  refine c_seq (fun K2 hK2 => ?_)
  refine c_reg ?_ -- region 1 ops.go:145
  refine wl (ro_cmp rfl rfl rfl) ?_
  refine wl (ro_assign rfl) ?_
  refine wl_nil (x_then (hK2 _ _ ?_))
  clear hK2 K2
  refine wc_condT rfl ?_
  refine c_seq (fun K3 hK3 => ?_)
  refine c_seq (fun K4 hK4 => ?_)
  refine c_reg ?_ -- region 2 ops.go:146
  refine wl (ro_move rfl) ?_
  refine wl (ro_indexAddr (et := 119) (k := 3) rfl rfl se_83 (rfl) ((by decide))) ?_
  refine wl (ro_fieldAddr (k := 0) rfl fo_119_0) ?_
  refine wl (ro_loadB rfl sc_3 (hB5) (sl_row r0 e0 (by decide))) ?_
  refine wl (ro_cmp rfl rfl rfl) ?_
  refine wl_fork rfl (fun hg27 => ?_) (fun hg27 => ?_)
  · try simp only [decide_eq_true_eq, decide_eq_false_iff_not, Bool.not_eq_true', Bool.not_eq_false', Bool.not_eq_eq_eq_not, Bool.not_true, Bool.not_false, beq_iff_eq, bne_iff_ne, ne_eq, beq_eq_false_iff_ne, bne_eq_false_iff_eq, gt_iff_lt, ge_iff_le, Int.not_lt, Int.not_le] at hg27
    refine wlg_no rfl ?_
    refine wlg_no rfl ?_
    refine wlg_no rfl ?_
    refine wlg_no rfl ?_
    refine wlg_no rfl ?_
    refine wl (ro_pick rfl rfl rfl) ?_
    refine wl (ro_move rfl) ?_
    refine wlg_no rfl ?_
    refine wlg_no rfl ?_
    refine wlg_no rfl ?_
    refine wlg_no rfl ?_
    refine wlg_no rfl ?_
    refine wl (ro_pick rfl rfl rfl) ?_
    refine wl_nil (x_then (hK4 _ _ ?_))
    clear hK4 K4
    refine wc_condT rfl ?_
    refine c_reg ?_ -- region 3 ops.go:147
    refine wl_callP rfl en_259 (raise259 (s := mFor)) (fun pv w9 hE => bpp_pan (P := Tryz.prog) (fn := Tryz.f274) (AE.thr hX hF hR.q hE ((hEz (.inl (by omega))).symm))) ?_
    rintro _ _ ⟨⟩
  · try simp only [decide_eq_true_eq, decide_eq_false_iff_not, Bool.not_eq_true', Bool.not_eq_false', Bool.not_eq_eq_eq_not, Bool.not_true, Bool.not_false, beq_iff_eq, bne_iff_ne, ne_eq, beq_eq_false_iff_ne, bne_eq_false_iff_eq, gt_iff_lt, ge_iff_le, Int.not_lt, Int.not_le] at hg27
    refine wlg_yes rfl (ro_move rfl) ?_
    refine wlg_yes rfl (ro_indexAddr (et := 119) (k := 3) rfl rfl se_83 (rfl) ((by decide))) ?_
    refine wlg_yes rfl (ro_fieldAddr (k := 0) rfl fo_119_0) ?_
    refine wlg_yes rfl (ro_loadB rfl sc_3 (hB5) (sl_row r1 e1 (by decide))) ?_
    refine wlg_yes rfl (ro_cmp rfl rfl rfl) ?_
    refine wl (ro_pick rfl rfl rfl) ?_
    refine wl_fork rfl (fun hg34 => ?_) (fun hg34 => ?_)
    · try simp only [decide_eq_true_eq, decide_eq_false_iff_not, Bool.not_eq_true', Bool.not_eq_false', Bool.not_eq_eq_eq_not, Bool.not_true, Bool.not_false, beq_iff_eq, bne_iff_ne, ne_eq, beq_eq_false_iff_ne, bne_eq_false_iff_eq, gt_iff_lt, ge_iff_le, Int.not_lt, Int.not_le] at hg34
      refine wlg_no rfl ?_
      refine wlg_no rfl ?_
      refine wlg_no rfl ?_
      refine wlg_no rfl ?_
      refine wlg_no rfl ?_
      refine wl (ro_pick rfl rfl rfl) ?_
      refine wl_nil (x_then (hK4 _ _ ?_))
      clear hK4 K4
      refine wc_condT rfl ?_
      refine c_reg ?_ -- region 3 ops.go:147
      refine wl_callP rfl en_259 (raise259 (s := mFor)) (fun pv w9 hE => bpp_pan (P := Tryz.prog) (fn := Tryz.f274) (AE.thr hX hF hR.q hE ((hEz (.inl (by omega))).symm))) ?_
      rintro _ _ ⟨⟩
    · try simp only [decide_eq_true_eq, decide_eq_false_iff_not, Bool.not_eq_true', Bool.not_eq_false', Bool.not_eq_eq_eq_not, Bool.not_true, Bool.not_false, beq_iff_eq, bne_iff_ne, ne_eq, beq_eq_false_iff_ne, bne_eq_false_iff_eq, gt_iff_lt, ge_iff_le, Int.not_lt, Int.not_le] at hg34
      refine wlg_yes rfl (ro_move rfl) ?_
      refine wlg_yes rfl (ro_indexAddr (et := 119) (k := 3) rfl rfl se_83 (rfl) ((by decide))) ?_
      refine wlg_yes rfl (ro_fieldAddr (k := 0) rfl fo_119_0) ?_
      refine wlg_yes rfl (ro_loadB rfl sc_3 (hB5) (sl_row r2 e2 (by decide))) ?_
      refine wlg_yes rfl (ro_cmp rfl rfl rfl) ?_
      refine wl (ro_pick rfl rfl rfl) ?_
      refine wl_nil (x_then (hK4 _ _ ?_))
      clear hK4 K4
      refine wc_cond rfl (fun hc40 => ?_) (fun hc40 => ?_)
      · try simp only [decide_eq_true_eq, decide_eq_false_iff_not, Bool.not_eq_true', Bool.not_eq_false', Bool.not_eq_eq_eq_not, Bool.not_true, Bool.not_false, beq_iff_eq, bne_iff_ne, ne_eq, beq_eq_false_iff_ne, bne_eq_false_iff_eq, gt_iff_lt, ge_iff_le, Int.not_lt, Int.not_le] at hc40
        refine c_reg ?_ -- region 3 ops.go:147
        refine wl_callP rfl en_259 (raise259 (s := mFor)) (fun pv w9 hE => bpp_pan (P := Tryz.prog) (fn := Tryz.f274) (AE.thr hX hF hR.q hE ((hEz (.inl (by omega))).symm))) ?_
        rintro _ _ ⟨⟩
      · try simp only [decide_eq_true_eq, decide_eq_false_iff_not, Bool.not_eq_true', Bool.not_eq_false', Bool.not_eq_eq_eq_not, Bool.not_true, Bool.not_false, beq_iff_eq, bne_iff_ne, ne_eq, beq_eq_false_iff_ne, bne_eq_false_iff_eq, gt_iff_lt, ge_iff_le, Int.not_lt, Int.not_le] at hc40
        refine c_skip (x_then (hK3 _ _ ?_))
        clear hK3 K3
        refine forget [(0, _), (2, _)] ⟨rfl, rfl, trivial⟩ (fun e => ?_)
        refine c_seq (fun K5 hK5 => ?_)
        refine c_pi [(0, false), (1, false), (2, false), (3, false), (4, false), (5, false), (6, false), (7, false), (8, true), (9, false)] (La sg _ _ (Mz C)) mixed (by kernel_rfl) rfl (by kernel_rfl) (po_then (po_blk (po_bpp))) (⟨hB5, hR.rz⟩) ?_ -- region 4 ops.go:149
        refine pi_ro rfl (fun w hS => ro_move rfl) ?_
        refine pi_ro rfl (fun w hS => ro_nilCheck rfl) ?_
        refine pi_ro rfl (fun w hS => ro_fieldAddr (k := 0) rfl fo_89_0) ?_
        refine pi_ro rfl (fun w hS => let ⟨_, hc, h0, h1⟩ := hS.2; ro_loadB rfl sc_36 hc (h0)) ?_
        refine pi_ro rfl (fun w hS => ro_move rfl) ?_
        refine pi_ro rfl (fun w hS => ro_indexAddr (et := 119) (k := 3) rfl rfl se_83 (rfl) ((by decide))) ?_
        refine pi_ro rfl (fun w hS => ro_fieldAddr (k := 1) rfl fo_119_1) ?_
        refine pi_ro rfl (fun w hS => ro_loadB rfl sc_117 (hS.1) (sl_row r2 e2 (by decide))) ?_
        refine pi_call rfl rfl en_142 (Cmp142 (op := 1) hw2 (by decide)) ?_
        rintro _ _ ⟨rfl, rfl⟩
        refine ⟨⟨hB5, hR.rz⟩, ?_⟩
        refine pi_ro rfl (fun w hS => ro_assign rfl) ?_
        refine pi_nil (x_then (hK5 _ _ ?_))
        clear hK5 K5
        refine forget [(0, _), (2, _), (8, _)] ⟨rfl, rfl, rfl, trivial⟩ (fun e => ?_)
        refine c_seq (fun K6 hK6 => ?_)
        refine c_pi [(0, false), (1, false), (2, false), (3, false), (4, false), (5, false), (6, false), (7, false), (8, false), (9, false), (10, false), (11, false), (12, true), (13, false)] (La sg _ _ (Mz C)) mixed (by kernel_rfl) rfl (by kernel_rfl) (po_then (po_blk (po_bpp))) (⟨hB5, hR.rz⟩) ?_ -- region 5 ops.go:150
        refine pi_ro rfl (fun w hS => ro_move rfl) ?_
        refine pi_ro rfl (fun w hS => ro_nilCheck rfl) ?_
        refine pi_ro rfl (fun w hS => ro_fieldAddr (k := 0) rfl fo_89_0) ?_
        refine pi_ro rfl (fun w hS => let ⟨_, hc, h0, h1⟩ := hS.2; ro_loadB rfl sc_36 hc (h0)) ?_
        refine pi_ro rfl (fun w hS => ro_move rfl) ?_
        refine pi_ro rfl (fun w hS => ro_indexAddr (et := 119) (k := 3) rfl rfl se_83 (rfl) ((by decide))) ?_
        refine pi_ro rfl (fun w hS => ro_fieldAddr (k := 1) rfl fo_119_1) ?_
        refine pi_ro rfl (fun w hS => ro_loadB rfl sc_117 (hS.1) (sl_row r2 e2 (by decide))) ?_
        refine pi_ro rfl (fun w hS => ro_move rfl) ?_
        refine pi_ro rfl (fun w hS => ro_indexAddr (et := 119) (k := 3) rfl rfl se_83 (rfl) ((by decide))) ?_
        refine pi_ro rfl (fun w hS => ro_fieldAddr (k := 1) rfl fo_119_1) ?_
        refine pi_ro rfl (fun w hS => ro_loadB rfl sc_117 (hS.1) (sl_row r2 e2 (by decide))) ?_
        refine pi_call rfl rfl en_142 (Cmp142 (op := 2) hw2 hw2) ?_
        rintro _ _ ⟨rfl, rfl⟩
        refine ⟨⟨hB5, hR.rz⟩, ?_⟩
        refine pi_ro rfl (fun w hS => ro_assign rfl) ?_
        refine pi_nil (x_then (hK6 _ _ ?_))
        clear hK6 K6
        refine forget [(8, _), (9, _)] ⟨rfl, rfl, trivial⟩ (fun e => ?_)
        refine c_seq (fun K7 hK7 => ?_)
        refine c_reg ?_ -- region 6 ops.go:151
        refine wl (ro_move rfl) ?_
        refine wl_fork rfl (fun hg65 => ?_) (fun hg65 => ?_)
        · try simp only [decide_eq_true_eq, decide_eq_false_iff_not, Bool.not_eq_true', Bool.not_eq_false', Bool.not_eq_eq_eq_not, Bool.not_true, Bool.not_false, beq_iff_eq, bne_iff_ne, ne_eq, beq_eq_false_iff_ne, bne_eq_false_iff_eq, gt_iff_lt, ge_iff_le, Int.not_lt, Int.not_le] at hg65
          refine wlg_no rfl ?_
          refine wl (ro_pick rfl rfl rfl) ?_
          refine wl_nil (x_then (hK7 _ _ ?_))
          clear hK7 K7
          refine wc_condT rfl ?_
          refine c_reg ?_ -- region 7 ops.go:152
          refine wl_callP rfl en_259 (raise259 (s := mFor)) (fun pv w9 hE => bpp_pan (P := Tryz.prog) (fn := Tryz.f274) (AE.thr hX hF hR.q hE ((hEz (.inr (by by_cases q9 : fCmp 1 p2.N 0 = true; exact .inl q9; exact .inr (by simp_all)))).symm))) ?_
          rintro _ _ ⟨⟩
        · try simp only [decide_eq_true_eq, decide_eq_false_iff_not, Bool.not_eq_true', Bool.not_eq_false', Bool.not_eq_eq_eq_not, Bool.not_true, Bool.not_false, beq_iff_eq, bne_iff_ne, ne_eq, beq_eq_false_iff_ne, bne_eq_false_iff_eq, gt_iff_lt, ge_iff_le, Int.not_lt, Int.not_le] at hg65
          refine wlg_yes rfl (ro_move rfl) ?_
          refine wl (ro_pick rfl rfl rfl) ?_
          refine wl_nil (x_then (hK7 _ _ ?_))
          clear hK7 K7
          refine wc_cond rfl (fun hc67 => ?_) (fun hc67 => ?_)
          · try simp only [decide_eq_true_eq, decide_eq_false_iff_not, Bool.not_eq_true', Bool.not_eq_false', Bool.not_eq_eq_eq_not, Bool.not_true, Bool.not_false, beq_iff_eq, bne_iff_ne, ne_eq, beq_eq_false_iff_ne, bne_eq_false_iff_eq, gt_iff_lt, ge_iff_le, Int.not_lt, Int.not_le] at hc67
            refine c_reg ?_ -- region 7 ops.go:152
            refine wl_callP rfl en_259 (raise259 (s := mFor)) (fun pv w9 hE => bpp_pan (P := Tryz.prog) (fn := Tryz.f274) (AE.thr hX hF hR.q hE ((hEz (.inr (by by_cases q9 : fCmp 1 p2.N 0 = true; exact .inl q9; exact .inr (by simp_all)))).symm))) ?_
            rintro _ _ ⟨⟩
          · try simp only [decide_eq_true_eq, decide_eq_false_iff_not, Bool.not_eq_true', Bool.not_eq_false', Bool.not_eq_eq_eq_not, Bool.not_true, Bool.not_false, beq_iff_eq, bne_iff_ne, ne_eq, beq_eq_false_iff_ne, bne_eq_false_iff_eq, gt_iff_lt, ge_iff_le, Int.not_lt, Int.not_le] at hc67
            refine c_skip (x_blk ?_)
            refine bpp_end Tryz.results274 rfl ?_
            exact ⟨⟨by omega, by omega, by omega, by simp_all⟩, rfl, _, hX, hF.thenDrew, hR.dr⟩
set_option maxHeartbeats 8000000 in
theorem for_31 (o : AO C fg fc w ow a y gs g vars V κ Vv U x f fs) {sg sc sc' so z : Nat} (hU : U a.cur 2 = .slice (some ⟨sg, 0, none⟩) x.stack.length sc) (hz : z + 3 < g.slots.length) (hso : so = (f.base + z) * 3) (hw0 : W64 (sloV g vars z).N) (hw1 : W64 (sloV g vars (z + 1)).N) (hw2 : W64 (sloV g vars (z + 2)).N) (hol : g.ops.length ≤ 131) :
    Ret Tryz.prog 274 [ptr C.E.mb, tptr C a.cur, .slice (some ⟨sg, so, none⟩) 4 sc', u8n 31] w (AR C fg fc w ow (.tuple #[]) (mkA a y gs { g with ops := vBool (fCmp (if fCmp 5 (sloV g vars (z + 2)).N 0 then 4 else 6) (sloV g vars z).N (sloV g vars (z + 1)).N) :: g.ops } vars)) := by
  have hX : Xt w ow ow := Xt.refl _ _
  have hF : Fram (tg ow vtT) w w := Fram.refl _ _
  obtain ⟨l, hB5, ts, hls, hcs, hrw, -⟩ := o.v.stkR o.t.hx hU
  have r0 := hrw _ _ (o.slot (z := z) (by omega)).1
  have r1 := hrw _ _ (o.slot (z := z + 1) (by omega)).1
  have r2 := hrw _ _ (o.slot (z := z + 2) (by omega)).1
  have hR := o.am
  have hc := o.hc
  have e0 : so + 0 * 3 = (f.base + z) * 3 := by omega
  have e1 : so + 1 * 3 = (f.base + (z + 1)) * 3 := by omega
  have e2 : so + 2 * 3 = (f.base + (z + 2)) * 3 := by omega
  generalize sloV g vars z = p0 at *
  generalize sloV g vars (z + 1) = p1 at *
  generalize sloV g vars (z + 2) = p2 at *
  rcases hq : fCmp 5 p2.N 0 with _ | _
  all_goals simp only [Bool.false_eq_true, if_false, if_true]
  refine ret_of Tryz.func274 rfl Tryz.ntmps274 rfl ?_
  refine c_seq (fun K1 hK1 => ?_)
  refine c_reg ?_ -- region 0 ops.go:144
  refine wl (ro_move rfl) ?_
  refine wl_nil (x_then (hK1 _ _ ?_))
  clear hK1 K1
  refine c_block ?_
  refine forget [(0, _), (1, _), (2, _), (19, _)] ⟨rfl, rfl, rfl, rfl, trivial⟩ (fun e => ?_)
  refine c_seq (fun K2 hK2 => ?_)
  refine c_reg ?_ -- region 1 ops.go:145
  refine wl (ro_cmp rfl rfl rfl) ?_
  refine wl (ro_assign rfl) ?_
  refine wl_nil (x_then (hK2 _ _ ?_))
  clear hK2 K2
  refine wc_condF rfl ?_
  refine c_seq (fun K3 hK3 => ?_)
  refine c_reg ?_ -- region 8 ops.go:154
  refine wl (ro_cmp rfl rfl rfl) ?_
  refine wl (ro_assign rfl) ?_
  refine wl_nil (x_then (hK3 _ _ ?_))
  clear hK3 K3
  refine wc_condT rfl ?_
  refine c_seq (fun K4 hK4 => ?_)
  refine c_reg ?_ -- region 9 ops.go:155
  refine wl (ro_assign rfl) ?_
  refine wl_nil (x_then (hK4 _ _ ?_))
  clear hK4 K4
  refine forget [(0, _), (1, _), (2, _), (10, _)] ⟨rfl, rfl, rfl, rfl, trivial⟩ (fun e => ?_)
  refine c_seq (fun K5 hK5 => ?_)
  refine c_pi [(0, false), (1, false), (2, false), (3, false), (4, false), (5, false), (6, false), (7, false), (8, true), (9, false)] (La sg _ _ (Mz C)) mixed (by kernel_rfl) rfl (by kernel_rfl) (po_then (po_blk (po_bp))) (⟨hB5, hR.rz⟩) ?_ -- region 10 ops.go:156
  refine pi_ro rfl (fun w hS => ro_move rfl) ?_
  refine pi_ro rfl (fun w hS => ro_nilCheck rfl) ?_
  refine pi_ro rfl (fun w hS => ro_fieldAddr (k := 0) rfl fo_89_0) ?_
  refine pi_ro rfl (fun w hS => let ⟨_, hc, h0, h1⟩ := hS.2; ro_loadB rfl sc_36 hc (h0)) ?_
  refine pi_ro rfl (fun w hS => ro_move rfl) ?_
  refine pi_ro rfl (fun w hS => ro_indexAddr (et := 119) (k := 3) rfl rfl se_83 (rfl) ((by decide))) ?_
  refine pi_ro rfl (fun w hS => ro_fieldAddr (k := 1) rfl fo_119_1) ?_
  refine pi_ro rfl (fun w hS => ro_loadB rfl sc_117 (hS.1) (sl_row r2 e2 (by decide))) ?_
  refine pi_call rfl rfl en_142 (Cmp142 (op := 5) hw2 (by decide)) ?_
  rintro _ _ ⟨rfl, rfl⟩
  refine ⟨⟨hB5, hR.rz⟩, ?_⟩
  rw [hq]
  refine pi_ro rfl (fun w hS => ro_assign rfl) ?_
  refine pi_nil (x_then (hK5 _ _ ?_))
  clear hK5 K5
  refine c_seq (fun K6 hK6 => ?_)
  refine c_seq (fun K7 hK7 => ?_)
  refine c_reg ?_ -- region 11 ops.go:157
  refine wl (ro_move rfl) ?_
  refine wl_nil (x_then (hK7 _ _ ?_))
  clear hK7 K7
  refine wc_condF rfl ?_
  refine c_skip (x_then (hK6 _ _ ?_))
  clear hK6 K6
  refine forget [(0, _), (1, _), (2, _), (10, _)] ⟨rfl, rfl, rfl, rfl, trivial⟩ (fun e => ?_)
  refine c_seq (fun K8 hK8 => ?_)
  refine c_pi [(0, false), (1, false), (2, false), (3, false), (4, false), (5, false), (6, false), (7, false), (8, false), (9, false), (10, false), (11, false), (12, false), (13, true), (14, false)] (La sg _ _ (Mz C)) mixed (by kernel_rfl) rfl (by kernel_rfl) (po_then (po_blk (po_bp))) (⟨hB5, hR.rz⟩) ?_ -- region 13 ops.go:160
  refine pi_ro rfl (fun w hS => ro_move rfl) ?_
  refine pi_ro rfl (fun w hS => ro_nilCheck rfl) ?_
  refine pi_ro rfl (fun w hS => ro_fieldAddr (k := 0) rfl fo_89_0) ?_
  refine pi_ro rfl (fun w hS => let ⟨_, hc, h0, h1⟩ := hS.2; ro_loadB rfl sc_36 hc (h0)) ?_
  refine pi_ro rfl (fun w hS => ro_move rfl) ?_
  refine pi_ro rfl (fun w hS => ro_move rfl) ?_
  refine pi_ro rfl (fun w hS => ro_indexAddr (et := 119) (k := 3) rfl rfl se_83 (rfl) ((by decide))) ?_
  refine pi_ro rfl (fun w hS => ro_fieldAddr (k := 1) rfl fo_119_1) ?_
  refine pi_ro rfl (fun w hS => ro_loadB rfl sc_117 (hS.1) (sl_row r0 e0 (by decide))) ?_
  refine pi_ro rfl (fun w hS => ro_move rfl) ?_
  refine pi_ro rfl (fun w hS => ro_indexAddr (et := 119) (k := 3) rfl rfl se_83 (rfl) ((by decide))) ?_
  refine pi_ro rfl (fun w hS => ro_fieldAddr (k := 1) rfl fo_119_1) ?_
  refine pi_ro rfl (fun w hS => ro_loadB rfl sc_117 (hS.1) (sl_row r1 e1 (by decide))) ?_
  refine pi_call rfl rfl en_142 (Cmp142 (op := 6) hw0 hw1) ?_
  rintro _ _ ⟨rfl, rfl⟩
  refine ⟨⟨hB5, hR.rz⟩, ?_⟩
  refine pi_ro rfl (fun w hS => ro_assign rfl) ?_
  refine pi_nil (x_then (hK8 _ _ ?_))
  clear hK8 K8
  refine forget [(1, _), (12, _)] ⟨rfl, rfl, trivial⟩ (fun e => ?_)
  refine c_seq (fun K9 hK9 => ?_)
  refine c_reg ?_ -- region 14 ops.go:161
  refine wl (ro_move rfl) ?_
  refine wl_call rfl en_91 (Bool91 (b := fCmp 6 p0.N p1.N)) ?_
  rintro _ w1 ⟨rfl, F1⟩
  replace hB5 := F1.blkN hB5
  replace hF := hF.thenDrew.thenN F1
  replace hR := hR.thruN ((Fram.refl none' _).thenDrew.thenN F1)
  refine wl_new (ze_119) (fun b13 w2 hbb13 h13 F2 => ?_)
  have hnesgb13 : sg < b13 := Nat.lt_of_lt_of_le hB5.lt hbb13
  have hbsb13 := Nat.le_trans hF.size hbb13
  have kh13 := hR.df b13 hbb13
  replace hB5 := F2.blkN hB5
  replace hF := hF.thenDrew.thenN F2
  replace hR := hR.thruN ((Fram.refl none' _).thenDrew.thenN F2)
  refine wl_puta rfl rfl ((pvc_one (vBool _))) sz_119 (rfl) h13 ((by simp)) (rfl) (fun w3 h13 F3 => ?_)
  replace hB5 := F3.blkO hB5 (by first | omega | exact ow_ne (by assumption) (by assumption) (by omega))
  replace hF := hF.thenDrew.thenO F3 (by first | exact .inr (by omega) | exact .inl rfl | exact .inl (by assumption) | assumption)
  replace hR := hR.hbput ((Fram.refl (one b13) _).thenDrew.thenO F3 (.inl rfl))
  refine wl_nil (x_then (hK9 _ _ ?_))
  clear hK9 K9
  refine c_reg ?_ -- region 15 ops.go:162
  refine wl (ro_move rfl) ?_
  refine wl (ro_loadAggB rfl ag_119 (h13) rfl rfl) ?_
  refine wl_pu (vs := [vBool (fCmp 6 p0.N p1.N)]) (eo_bsV1 rfl se_83 zx_119) rfl hR.dr hc rfl (by show g.ops.length + 1 ≤ 300; omega) ?_
  intro u4 ow4 x4 f4 r4
  obtain ⟨h13, kh13⟩ := vm_loc x4 f4 h13 kh13
  have hs4 := hF.size
  replace hF := vm_trans hX hF f4
  replace hX := hX.trans hs4 x4
  replace hR := r4
  refine wl_nil (x_blk ?_)
  refine bp_end Tryz.results274 rfl ?_
  exact ⟨rfl, _, hX, hF, hR⟩
  refine ret_of Tryz.func274 rfl Tryz.ntmps274 rfl ?_
  refine c_seq (fun K1 hK1 => ?_)
  refine c_reg ?_ -- region 0 ops.go:144
  refine wl (ro_move rfl) ?_
  refine wl_nil (x_then (hK1 _ _ ?_))
  clear hK1 K1
  refine c_block ?_
  refine forget [(0, _), (1, _), (2, _), (19, _)] ⟨rfl, rfl, rfl, rfl, trivial⟩ (fun e => ?_)
  refine c_seq (fun K2 hK2 => ?_)
  refine c_reg ?_ -- region 1 ops.go:145
  refine wl (ro_cmp rfl rfl rfl) ?_
  refine wl (ro_assign rfl) ?_
  refine wl_nil (x_then (hK2 _ _ ?_))
  clear hK2 K2
  refine wc_condF rfl ?_
  refine c_seq (fun K3 hK3 => ?_)
  refine c_reg ?_ -- region 8 ops.go:154
  refine wl (ro_cmp rfl rfl rfl) ?_
  refine wl (ro_assign rfl) ?_
  refine wl_nil (x_then (hK3 _ _ ?_))
  clear hK3 K3
  refine wc_condT rfl ?_
  refine c_seq (fun K4 hK4 => ?_)
  refine c_reg ?_ -- region 9 ops.go:155
  refine wl (ro_assign rfl) ?_
  refine wl_nil (x_then (hK4 _ _ ?_))
  clear hK4 K4
  refine forget [(0, _), (1, _), (2, _), (10, _)] ⟨rfl, rfl, rfl, rfl, trivial⟩ (fun e => ?_)
  refine c_seq (fun K5 hK5 => ?_)
  refine c_pi [(0, false), (1, false), (2, false), (3, false), (4, false), (5, false), (6, false), (7, false), (8, true), (9, false)] (La sg _ _ (Mz C)) mixed (by kernel_rfl) rfl (by kernel_rfl) (po_then (po_blk (po_bp))) (⟨hB5, hR.rz⟩) ?_ -- region 10 ops.go:156
  refine pi_ro rfl (fun w hS => ro_move rfl) ?_
  refine pi_ro rfl (fun w hS => ro_nilCheck rfl) ?_
  refine pi_ro rfl (fun w hS => ro_fieldAddr (k := 0) rfl fo_89_0) ?_
  refine pi_ro rfl (fun w hS => let ⟨_, hc, h0, h1⟩ := hS.2; ro_loadB rfl sc_36 hc (h0)) ?_
  refine pi_ro rfl (fun w hS => ro_move rfl) ?_
  refine pi_ro rfl (fun w hS => ro_indexAddr (et := 119) (k := 3) rfl rfl se_83 (rfl) ((by decide))) ?_
  refine pi_ro rfl (fun w hS => ro_fieldAddr (k := 1) rfl fo_119_1) ?_
  refine pi_ro rfl (fun w hS => ro_loadB rfl sc_117 (hS.1) (sl_row r2 e2 (by decide))) ?_
  refine pi_call rfl rfl en_142 (Cmp142 (op := 5) hw2 (by decide)) ?_
  rintro _ _ ⟨rfl, rfl⟩
  refine ⟨⟨hB5, hR.rz⟩, ?_⟩
  rw [hq]
  refine pi_ro rfl (fun w hS => ro_assign rfl) ?_
  refine pi_nil (x_then (hK5 _ _ ?_))
  clear hK5 K5
  refine c_seq (fun K6 hK6 => ?_)
  refine c_seq (fun K7 hK7 => ?_)
  refine c_reg ?_ -- region 11 ops.go:157
  refine wl (ro_move rfl) ?_
  refine wl_nil (x_then (hK7 _ _ ?_))
  clear hK7 K7
  refine wc_condT rfl ?_
  refine c_reg ?_ -- region 12 ops.go:158
  refine wl (ro_assign rfl) ?_
  refine wl_nil (x_then (hK6 _ _ ?_))
  clear hK6 K6
  refine forget [(0, _), (1, _), (2, _), (10, _)] ⟨rfl, rfl, rfl, rfl, trivial⟩ (fun e => ?_)
  refine c_seq (fun K8 hK8 => ?_)
  refine c_pi [(0, false), (1, false), (2, false), (3, false), (4, false), (5, false), (6, false), (7, false), (8, false), (9, false), (10, false), (11, false), (12, false), (13, true), (14, false)] (La sg _ _ (Mz C)) mixed (by kernel_rfl) rfl (by kernel_rfl) (po_then (po_blk (po_bp))) (⟨hB5, hR.rz⟩) ?_ -- region 13 ops.go:160
  refine pi_ro rfl (fun w hS => ro_move rfl) ?_
  refine pi_ro rfl (fun w hS => ro_nilCheck rfl) ?_
  refine pi_ro rfl (fun w hS => ro_fieldAddr (k := 0) rfl fo_89_0) ?_
  refine pi_ro rfl (fun w hS => let ⟨_, hc, h0, h1⟩ := hS.2; ro_loadB rfl sc_36 hc (h0)) ?_
  refine pi_ro rfl (fun w hS => ro_move rfl) ?_
  refine pi_ro rfl (fun w hS => ro_move rfl) ?_
  refine pi_ro rfl (fun w hS => ro_indexAddr (et := 119) (k := 3) rfl rfl se_83 (rfl) ((by decide))) ?_
  refine pi_ro rfl (fun w hS => ro_fieldAddr (k := 1) rfl fo_119_1) ?_
  refine pi_ro rfl (fun w hS => ro_loadB rfl sc_117 (hS.1) (sl_row r0 e0 (by decide))) ?_
  refine pi_ro rfl (fun w hS => ro_move rfl) ?_
  refine pi_ro rfl (fun w hS => ro_indexAddr (et := 119) (k := 3) rfl rfl se_83 (rfl) ((by decide))) ?_
  refine pi_ro rfl (fun w hS => ro_fieldAddr (k := 1) rfl fo_119_1) ?_
  refine pi_ro rfl (fun w hS => ro_loadB rfl sc_117 (hS.1) (sl_row r1 e1 (by decide))) ?_
  refine pi_call rfl rfl en_142 (Cmp142 (op := 4) hw0 hw1) ?_
  rintro _ _ ⟨rfl, rfl⟩
  refine ⟨⟨hB5, hR.rz⟩, ?_⟩
  refine pi_ro rfl (fun w hS => ro_assign rfl) ?_
  refine pi_nil (x_then (hK8 _ _ ?_))
  clear hK8 K8
  refine forget [(1, _), (12, _)] ⟨rfl, rfl, trivial⟩ (fun e => ?_)
  refine c_seq (fun K9 hK9 => ?_)
  refine c_reg ?_ -- region 14 ops.go:161
  refine wl (ro_move rfl) ?_
  refine wl_call rfl en_91 (Bool91 (b := fCmp 4 p0.N p1.N)) ?_
  rintro _ w1 ⟨rfl, F1⟩
  replace hB5 := F1.blkN hB5
  replace hF := hF.thenDrew.thenN F1
  replace hR := hR.thruN ((Fram.refl none' _).thenDrew.thenN F1)
  refine wl_new (ze_119) (fun b13 w2 hbb13 h13 F2 => ?_)
  have hnesgb13 : sg < b13 := Nat.lt_of_lt_of_le hB5.lt hbb13
  have hbsb13 := Nat.le_trans hF.size hbb13
  have kh13 := hR.df b13 hbb13
  replace hB5 := F2.blkN hB5
  replace hF := hF.thenDrew.thenN F2
  replace hR := hR.thruN ((Fram.refl none' _).thenDrew.thenN F2)
  refine wl_puta rfl rfl ((pvc_one (vBool _))) sz_119 (rfl) h13 ((by simp)) (rfl) (fun w3 h13 F3 => ?_)
  replace hB5 := F3.blkO hB5 (by first | omega | exact ow_ne (by assumption) (by assumption) (by omega))
  replace hF := hF.thenDrew.thenO F3 (by first | exact .inr (by omega) | exact .inl rfl | exact .inl (by assumption) | assumption)
  replace hR := hR.hbput ((Fram.refl (one b13) _).thenDrew.thenO F3 (.inl rfl))
  refine wl_nil (x_then (hK9 _ _ ?_))
  clear hK9 K9
  refine c_reg ?_ -- region 15 ops.go:162
  refine wl (ro_move rfl) ?_
  refine wl (ro_loadAggB rfl ag_119 (h13) rfl rfl) ?_
  refine wl_pu (vs := [vBool (fCmp 4 p0.N p1.N)]) (eo_bsV1 rfl se_83 zx_119) rfl hR.dr hc rfl (by show g.ops.length + 1 ≤ 300; omega) ?_
  intro u4 ow4 x4 f4 r4
  obtain ⟨h13, kh13⟩ := vm_loc x4 f4 h13 kh13
  have hs4 := hF.size
  replace hF := vm_trans hX hF f4
  replace hX := hX.trans hs4 x4
  replace hR := r4
  refine wl_nil (x_blk ?_)
  refine bp_end Tryz.results274 rfl ?_
  exact ⟨rfl, _, hX, hF, hR⟩
end
end Go.Proofs.Qxb6500568aGreatDoor
