import Derived.Test.Qxb6500568aGreatDoorHc
/- The machine: the loop over a table. -/
namespace Go.Proofs.Qxb6500568aGreatDoor
open Ieee
set_option linter.unusedVariables false
set_option linter.unusedSimpArgs false
set_option linter.unusedSectionVars false

section
variable {C : VC} {w w' w1 u u1 u2 : World} {ow ow' ow1 : Nat → Nat} {s : AS} {a : AS} {y : ATh} {gs : List AFr} {g : AFr} {vars : List PV} {fg fc : Nat} {V : VS} {κ : List Nat} {Vv : Nat → Value} {U : Nat → Nat → Value} {x : VTh} {f : VFr} {fs : List VFr} {L : VL} {e fuel t : Nat} {out : Str} {T : List Tb}
theorem AO.dr (o : AO C fg fc w ow a y gs g vars V κ Vv U x f fs) {d : Nat} : AO C fg fc { w with drawn := d } ow a y gs g vars V κ Vv U x f fs := { v := o.v.dr, z := o.z, t := o.t, hf := o.hf, hc := o.hc, ns := o.ns, dp := o.dp }
theorem AO.thruN (o : AO C fg fc w ow a y gs g vars V κ Vv U x f fs) (fr : Fram none' w u) : AO C fg fc u ow a y gs g vars V κ Vv U x f fs := { v := o.v.thruN fr, z := o.z, t := o.t, hf := o.hf, hc := o.hc, ns := o.ns, dp := o.dp }
theorem neq0 (n : Nat) : some ((n : Int) != 0) = some (decide (n ≠ 0)) := by
  congr 1
  by_cases h : n = 0
  · subst h; rfl
  · rw [decide_eq_true h]; simpa using h
theorem put_len {l cs : List Value} {i m : Nat} (hc : cs.length = m) (hi : i + m ≤ l.length) : (l.take i ++ cs ++ l.drop (i + m)).length = l.length := by
  simp only [List.length_append, List.length_take, List.length_drop]; omega
set_option maxHeartbeats 8000000 in
theorem for_32 (o : AO C fg fc w ow a y gs g vars V κ Vv U x f fs) {sg sc sc' so z : Nat} (hU : U a.cur 2 = .slice (some ⟨sg, 0, none⟩) x.stack.length sc) (hz : z + 3 < g.slots.length) (hso : so = (f.base + z) * 3) (h32 : (sloV g vars z).T = 4 → (sloV g vars z).N < a.tabs.length) (hk : wfV (sloV g vars (z + 1)) = true) (hN : W64 (sloV g vars (z + 1)).N) (hol : g.ops.length ≤ 131) (htl : a.tabs.length ≤ 12) {zz : AS}
    (hz1 : (sloV g vars z).T ≠ 4 → zz = araise mFor (mkA a y gs g vars)) (hz2 : (sloV g vars z).T = 4 → tNext (a.tabs.getD (sloV g vars z).N []) (sloV g vars (z + 1)) = none → zz = araise mNext (mkA a y gs g vars)) :
    RetP Tryz.prog 274 [ptr C.E.mb, tptr C a.cur, .slice (some ⟨sg, so, none⟩) 4 sc', u8n 32] w (fun r w' => (sloV g vars z).T = 4 ∧ ∃ k v, tNext (a.tabs.getD (sloV g vars z).N []) (sloV g vars (z + 1)) = some (k, v) ∧
      AR C fg fc w ow (.tuple #[]) (mkA a y gs { g with ops := vBool (decide (k.T ≠ 0)) :: g.ops } (((vars.set (g.slots.getD (z + 1) 0) k).set (g.slots.getD (z + 2) 0) k).set (g.slots.getD (z + 3) 0) v)) r w') (AE C (kH a) w ow zz) := by
  have hc9 := o.hc
  have hX : Xt w ow ow := Xt.refl _ _
  have hF : Fram (tg ow vtT) w w := Fram.refl _ _
  obtain ⟨l, hB5, ts, hls, hcs, hrw, -⟩ := o.v.stkR o.t.hx hU
  have r0 := hrw _ _ (o.slot (z := z) (by omega)).1
  have r1 := hrw _ _ (o.slot (z := z + 1) (by omega)).1
  have e2 : so + 2 * 3 = (f.base + (z + 2)) * 3 := by omega
  have e3 : so + 3 * 3 = (f.base + (z + 3)) * 3 := by omega
  have hs3 := (List.getElem?_eq_some_iff.1 (o.slot (z := z + 3) (by omega)).1).1
  have hh1 : so + 1 * 3 + 3 ≤ l.length := by omega
  have hh2 : so + 2 * 3 + 3 ≤ l.length := by omega
  have hh3 : so + 3 * 3 + 3 ≤ l.length := by omega
  have hN0 : Fram none' w w := Fram.refl _ _
  have hsv : ∀ k, k < w.heap.size → one sg k → tg ow vtT k := fun k _ q => by have q : k = sg := q; rw [q]; exact vt_440 o.lt ts
  have hR := o.am
  have hc := o.hc
  have e0 : so + 0 * 3 = (f.base + z) * 3 := by omega
  have e1 : so + 1 * 3 = (f.base + (z + 1)) * 3 := by omega
  generalize sloV g vars z = p0 at *
  generalize sloV g vars (z + 1) = p1 at *
  have hnx : p0.T = 4 → ∀ {w : World}, AM C fg fc w ow (mkA a y gs g vars) → Ret Tryz.prog 288 [ptr C.xb, i64c p0.N, pv p1] w (fun r w' => r = .tuple #[pv ((tNext (a.tabs.getD p0.N []) p1).getD (vNil, vNil)).1, pv ((tNext (a.tabs.getD p0.N []) p1).getD (vNil, vNil)).2, icv (if (tNext (a.tabs.getD p0.N []) p1).isSome then 0 else 7)] ∧ Fram none' w w') := fun q _ h => h.next288' (h32 q) hk hN
  rcases hn : tNext (a.tabs.getD p0.N []) p1 with _ | ⟨k, v⟩
  · rw [hn] at hnx
    refine retp_of Tryz.func274 rfl Tryz.ntmps274 rfl ?_
    refine c_seq (fun K1 hK1 => ?_)
    refine c_reg ?_ -- region 0 ops.go:144
    refine wl (ro_move rfl) ?_
    refine wl_nil (x_then (hK1 _ _ ?_))
    clear hK1 K1
    refine c_block ?_
    refine forget [(0, _), (1, _), (2, _), (19, _)] ⟨rfl, rfl, rfl, rfl, trivial⟩ (fun e => ?_)
    refine c_seq (fun K2 hK2 => ?_)
    refine c_reg ?_ -- region 1 ops.go:145
    refine wl (ro_cmp rfl rfl rfl) ?_
    refine wl (ro_assign rfl) ?_
    refine wl_nil (x_then (hK2 _ _ ?_))
    clear hK2 K2
    refine wc_condF rfl ?_
    refine c_seq (fun K3 hK3 => ?_)
    refine c_reg ?_ -- region 8 ops.go:154
    refine wl (ro_cmp rfl rfl rfl) ?_
    refine wl (ro_assign rfl) ?_
    refine wl_nil (x_then (hK3 _ _ ?_))
    clear hK3 K3
    refine wc_condF rfl ?_
    refine c_seq (fun K4 hK4 => ?_)
    refine c_reg ?_ -- region 16 ops.go:163
    refine wl (ro_cmp rfl rfl rfl) ?_
    refine wl (ro_assign rfl) ?_
    refine wl_nil (x_then (hK4 _ _ ?_))
    clear hK4 K4
    refine wc_condT rfl ?_
    refine c_seq (fun K5 hK5 => ?_)
    refine c_reg ?_ -- region 17 ops.go:164
    refine wl (ro_move rfl) ?_
    refine wl (ro_indexAddr (et := 119) (k := 3) rfl rfl se_83 (rfl) ((by decide))) ?_
    refine wl (ro_loadAggB rfl ag_119 hB5 (pvc_len _) (sl_agg r0 e0)) ?_
    refine wl_callP rfl en_272 (tabOf272 (s := mFor) (fun q ↦ by have := h32 q; omega)) (fun pv w9 hE => bpp_pan (P := Tryz.prog) (fn := Tryz.f274) (AE.thr hX hF hR.q hE.2 ((hz1 hE.1).symm))) ?_
    rintro _ w1 ⟨rfl, hq1, F1⟩
    replace hB5 := F1.blkN hB5
    replace hF := hF.thenDrew.thenN F1
    replace hR := hR.thruN ((Fram.refl none' _).thenDrew.thenN F1)
    refine wl (ro_assign rfl) ?_
    refine wl_nil (x_then (hK5 _ _ ?_))
    clear hK5 K5
    refine forget [(0, _), (1, _), (2, _), (14, _)] ⟨rfl, rfl, rfl, rfl, trivial⟩ (fun e => ?_)
    refine c_seq (fun K6 hK6 => ?_)
    refine c_piH 17 8 13 14 [0, 1, 2, 3, 4, 5, 6, 7] [9, 10, 11, 12] [(15, true), (16, true)] (La sg _ _ (Mz C)) mixed (by kernel_rfl) rfl (by kernel_rfl) (po_then (po_blk (po_bpp))) (⟨hB5, hR.rz⟩) ?_ -- region 18 ops.go:165
    refine wh_ro rfl (fun w hS => ro_move rfl) ?_
    refine wh_ro rfl (fun w hS => ro_nilCheck rfl) ?_
    refine wh_ro rfl (fun w hS => ro_fieldAddr (k := 1) rfl fo_89_1) ?_
    refine wh_ro rfl (fun w hS => let ⟨_, hc, h0, h1⟩ := hS.2; ro_loadB rfl sc_38 hc (h1)) ?_
    refine wh_ro rfl (fun w hS => ro_move rfl) ?_
    refine wh_ro rfl (fun w hS => ro_move rfl) ?_
    refine wh_ro rfl (fun w hS => ro_indexAddr (et := 119) (k := 3) rfl rfl se_83 (rfl) ((by decide))) ?_
    refine wh_ro rfl (fun w hS => ro_loadAggB rfl ag_119 (hS.1) (pvc_len _) (sl_agg r1 e1)) ?_
    refine wh_nx (.tuple #[pv vNil, pv vNil, icv 7]) (pvc vNil) (pvc vNil) (icv 7) rfl rfl rfl rfl rfl rfl rfl rfl rfl rfl rfl (by decide) (by decide) rfl (fun _ => rfl) (fun _ => rfl) (fun _ _ => rfl) (fun _ _ => rfl) en_288 ze_119 sz_119 rfl rfl rfl (pvc_one _) (pvc_one _) (fun w1 F => hnx hq1 (hR.dr.thruN F)) (fun u F => ⟨F.blkN hB5, (hR.dr.thruN F).rz⟩) ?_
    intro b15 b16 w2 hbb15 hbb16 hneb15b16 h15 h16 F2
    have hnesgb15 : sg < b15 := Nat.lt_of_lt_of_le hB5.lt hbb15
    have hbsb15 := Nat.le_trans hF.size hbb15
    have hnesgb16 : sg < b16 := Nat.lt_of_lt_of_le hB5.lt hbb16
    have hbsb16 := Nat.le_trans hF.size hbb16
    have kh15 := hR.df b15 hbb15
    have kh16 := hR.df b16 hbb16
    replace hB5 := F2.blkN hB5
    replace hF := hF.thenDrew.thenN F2
    replace hR := hR.thruN ((Fram.refl none' _).thenDrew.thenN F2)
    refine x_then (hK6 _ _ ?_)
    clear hK6 K6
    refine c_seq (fun K7 hK7 => ?_)
    refine c_seq (fun K8 hK8 => ?_)
    refine c_reg ?_ -- region 19 ops.go:166
    refine wl (ro_move rfl) ?_
    refine wl (ro_cmp rfl rfl rfl) ?_
    refine wl_nil (x_then (hK8 _ _ ?_))
    clear hK8 K8
    refine wc_condT rfl ?_
    refine c_reg ?_ -- region 20 ops.go:167
    refine wl_callP rfl en_259 (raise259 (s := mNext)) (fun pv w9 hE => bpp_pan (P := Tryz.prog) (fn := Tryz.f274) (AE.thr hX hF hR.q hE ((hz2 hq1 hn).symm))) ?_
    rintro _ _ ⟨⟩
  · rw [hn] at hnx
    refine retp_of Tryz.func274 rfl Tryz.ntmps274 rfl ?_
    refine c_seq (fun K1 hK1 => ?_)
    refine c_reg ?_ -- region 0 ops.go:144
    refine wl (ro_move rfl) ?_
    refine wl_nil (x_then (hK1 _ _ ?_))
    clear hK1 K1
    refine c_block ?_
    refine forget [(0, _), (1, _), (2, _), (19, _)] ⟨rfl, rfl, rfl, rfl, trivial⟩ (fun e => ?_)
    refine c_seq (fun K2 hK2 => ?_)
    refine c_reg ?_ -- region 1 ops.go:145
    refine wl (ro_cmp rfl rfl rfl) ?_
    refine wl (ro_assign rfl) ?_
    refine wl_nil (x_then (hK2 _ _ ?_))
    clear hK2 K2
    refine wc_condF rfl ?_
    refine c_seq (fun K3 hK3 => ?_)
    refine c_reg ?_ -- region 8 ops.go:154
    refine wl (ro_cmp rfl rfl rfl) ?_
    refine wl (ro_assign rfl) ?_
    refine wl_nil (x_then (hK3 _ _ ?_))
    clear hK3 K3
    refine wc_condF rfl ?_
    refine c_seq (fun K4 hK4 => ?_)
    refine c_reg ?_ -- region 16 ops.go:163
    refine wl (ro_cmp rfl rfl rfl) ?_
    refine wl (ro_assign rfl) ?_
    refine wl_nil (x_then (hK4 _ _ ?_))
    clear hK4 K4
    refine wc_condT rfl ?_
    refine c_seq (fun K5 hK5 => ?_)
    refine c_reg ?_ -- region 17 ops.go:164
    refine wl (ro_move rfl) ?_
    refine wl (ro_indexAddr (et := 119) (k := 3) rfl rfl se_83 (rfl) ((by decide))) ?_
    refine wl (ro_loadAggB rfl ag_119 hB5 (pvc_len _) (sl_agg r0 e0)) ?_
    refine wl_callP rfl en_272 (tabOf272 (s := mFor) (fun q ↦ by have := h32 q; omega)) (fun pv w9 hE => bpp_pan (P := Tryz.prog) (fn := Tryz.f274) (AE.thr hX hF hR.q hE.2 ((hz1 hE.1).symm))) ?_
    rintro _ w1 ⟨rfl, hq1, F1⟩
    replace hB5 := F1.blkN hB5
    replace hF := hF.thenDrew.thenN F1
    replace hN0 := hN0.thenDrew.thenN F1
    replace hR := hR.thruN ((Fram.refl none' _).thenDrew.thenN F1)
    refine wl (ro_assign rfl) ?_
    refine wl_nil (x_then (hK5 _ _ ?_))
    clear hK5 K5
    refine forget [(0, _), (1, _), (2, _), (14, _)] ⟨rfl, rfl, rfl, rfl, trivial⟩ (fun e => ?_)
    refine c_seq (fun K6 hK6 => ?_)
    refine c_piH 17 8 13 14 [0, 1, 2, 3, 4, 5, 6, 7] [9, 10, 11, 12] [(15, true), (16, true)] (La sg _ _ (Mz C)) mixed (by kernel_rfl) rfl (by kernel_rfl) (po_then (po_blk (po_bpp))) (⟨hB5, hR.rz⟩) ?_ -- region 18 ops.go:165
    refine wh_ro rfl (fun w hS => ro_move rfl) ?_
    refine wh_ro rfl (fun w hS => ro_nilCheck rfl) ?_
    refine wh_ro rfl (fun w hS => ro_fieldAddr (k := 1) rfl fo_89_1) ?_
    refine wh_ro rfl (fun w hS => let ⟨_, hc, h0, h1⟩ := hS.2; ro_loadB rfl sc_38 hc (h1)) ?_
    refine wh_ro rfl (fun w hS => ro_move rfl) ?_
    refine wh_ro rfl (fun w hS => ro_move rfl) ?_
    refine wh_ro rfl (fun w hS => ro_indexAddr (et := 119) (k := 3) rfl rfl se_83 (rfl) ((by decide))) ?_
    refine wh_ro rfl (fun w hS => ro_loadAggB rfl ag_119 (hS.1) (pvc_len _) (sl_agg r1 e1)) ?_
    refine wh_nx (.tuple #[pv k, pv v, icv 0]) (pvc k) (pvc v) (icv 0) rfl rfl rfl rfl rfl rfl rfl rfl rfl rfl rfl (by decide) (by decide) rfl (fun _ => rfl) (fun _ => rfl) (fun _ _ => rfl) (fun _ _ => rfl) en_288 ze_119 sz_119 rfl rfl rfl (pvc_one _) (pvc_one _) (fun w1 F => hnx hq1 (hR.dr.thruN F)) (fun u F => ⟨F.blkN hB5, (hR.dr.thruN F).rz⟩) ?_
    intro b15 b16 w2 hbb15 hbb16 hneb15b16 h15 h16 F2
    have hnesgb15 : sg < b15 := Nat.lt_of_lt_of_le hB5.lt hbb15
    have hbsb15 := Nat.le_trans hF.size hbb15
    have hbsb15 := Nat.le_trans hN0.size hbb15
    have hnesgb16 : sg < b16 := Nat.lt_of_lt_of_le hB5.lt hbb16
    have hbsb16 := Nat.le_trans hF.size hbb16
    have hbsb16 := Nat.le_trans hN0.size hbb16
    have kh15 := hR.df b15 hbb15
    have kh16 := hR.df b16 hbb16
    replace hB5 := F2.blkN hB5
    replace hF := hF.thenDrew.thenN F2
    replace hN0 := hN0.thenDrew.thenN F2
    replace hR := hR.thruN ((Fram.refl none' _).thenDrew.thenN F2)
    refine x_then (hK6 _ _ ?_)
    clear hK6 K6
    refine c_seq (fun K7 hK7 => ?_)
    refine c_seq (fun K8 hK8 => ?_)
    refine c_reg ?_ -- region 19 ops.go:166
    refine wl (ro_move rfl) ?_
    refine wl (ro_cmp rfl rfl rfl) ?_
    refine wl_nil (x_then (hK8 _ _ ?_))
    clear hK8 K8
    refine wc_condF rfl ?_
    refine c_skip (x_then (hK7 _ _ ?_))
    clear hK7 K7
    refine forget [(1, _), (2, _), (15, _), (16, _)] ⟨rfl, rfl, rfl, rfl, trivial⟩ (fun e => ?_)
    refine c_seq (fun K9 hK9 => ?_)
    refine c_piL 11 [(0, false), (1, false), (2, false), (3, false), (4, false), (5, false), (6, false), (7, true), (8, false), (9, true), (10, false)] (fun w ↦ Blk w.heap b15 (pvc k) 119 ∧ Blk w.heap b16 (pvc v) 119) mixed (by kernel_rfl) rfl (by kernel_rfl) (po_then (po_blk (po_bpp))) (⟨h15, h16⟩) ?_ -- region 21 ops.go:169
    refine ql_ro rfl (fun w hS => ro_move rfl) ?_
    refine ql_ro rfl (fun w hS => ro_move rfl) ?_
    refine ql_ro rfl (fun w hS => ro_move rfl) ?_
    refine ql_ro rfl (fun w hS => ro_loadAggB rfl ag_119 (hS.1) rfl rfl) ?_
    refine ql_ro rfl (fun w hS => ro_loadAggB rfl ag_119 (hS.1) rfl rfl) ?_
    refine ql_ro rfl (fun w hS => ro_loadAggB rfl ag_119 (hS.2) rfl rfl) ?_
    refine ql_ro rfl (fun w hS => ro_indexAddr (et := 119) (k := 3) rfl rfl se_83 (rfl) ((by decide))) ?_
    refine ql_putam (cs := pvc k) rfl rfl rfl (pvc_one _) sz_119 (pvc_len _) hB5 hh1 rfl (fun w7 hB1 F ↦ ⟨F.blkO h15 (by omega), F.blkO h16 (by omega)⟩) (fun w7 hB7 F7 ↦ ?_)
    have o7 := (o.thruN (hN0.thenDrew (k := w2.drawn + 1))).setS (z := z + 1) hU hB5 (by omega) F7 (by rw [← e1]; exact hB7)
    have hl7 := put_len (l := l) (cs := pvc k) (i := so + 1 * 3) (m := 3) (pvc_len _) (by omega)
    replace h15 := F7.blkO h15 (by omega)
    replace h16 := F7.blkO h16 (by omega)
    have hG := (hF.thenDrew (k := w2.drawn + 1)).trans' F7 hsv
    have hU7 : U a.cur 2 = .slice (some ⟨sg, 0, none⟩) (x.stack.set (f.base + (z + 1)) k).length sc := by rw [List.length_set]; exact hU
    generalize l.take (so + 1 * 3) ++ pvc k ++ l.drop (so + 1 * 3 + 3) = l7 at *
    refine ql_ro rfl (fun w hS => ro_indexAddr (et := 119) (k := 3) rfl rfl se_83 (rfl) ((by decide))) ?_
    refine ql_putam (cs := pvc k) rfl rfl rfl (pvc_one _) sz_119 (pvc_len _) hB7 (by rw [hl7]; exact hh2) rfl (fun w7 hB1 F ↦ ⟨F.blkO h15 (by omega), F.blkO h16 (by omega)⟩) (fun w8 hB8 F8 ↦ ?_)
    have o8 := o7.setS (z := z + 2) hU7 hB7 (by omega) F8 (by rw [← e2]; exact hB8)
    have hl8 := put_len (l := l7) (cs := pvc k) (i := so + 2 * 3) (m := 3) (pvc_len _) (by omega)
    replace h15 := F8.blkO h15 (by omega)
    replace h16 := F8.blkO h16 (by omega)
    replace hG := hG.trans' F8 hsv
    have hU8 : U a.cur 2 = .slice (some ⟨sg, 0, none⟩) ((x.stack.set (f.base + (z + 1)) k).set (f.base + (z + 2)) k).length sc := by rw [List.length_set]; exact hU7
    generalize l7.take (so + 2 * 3) ++ pvc k ++ l7.drop (so + 2 * 3 + 3) = l8 at *
    refine ql_ro rfl (fun w hS => ro_indexAddr (et := 119) (k := 3) rfl rfl se_83 (rfl) ((by decide))) ?_
    refine ql_puta (cs := pvc v) rfl rfl rfl (pvc_one _) sz_119 (pvc_len _) hB8 (by rw [hl8, hl7]; exact hh3) rfl (fun w9 hB9 F9 ↦ ?_)
    replace hR := (o8.setS (z := z + 3) hU8 hB8 (by omega) F9 (by rw [← e3]; exact hB9)).am
    replace h15 := F9.blkO h15 (by omega)
    replace h16 := F9.blkO h16 (by omega)
    replace hF := hG.trans' F9 hsv
    replace hB5 := hB9
    replace hN0 := Fram.refl (one sg) w9
    refine x_then (hK9 _ _ ?_)
    clear hK9 K9
    refine forget [(1, _), (15, _)] ⟨rfl, rfl, trivial⟩ (fun e => ?_)
    refine c_seq (fun K10 hK10 => ?_)
    refine c_reg ?_ -- region 22 ops.go:170
    refine wl (ro_fieldAddr (k := 0) rfl fo_119_0) ?_
    refine wl (ro_loadB rfl sc_3 (by assumption) rfl) ?_
    refine wl (ro_cmp (r := decide (k.T ≠ 0)) rfl rfl (neq0 k.T)) ?_
    refine wl_call rfl en_91 (Bool91 (b := decide (k.T ≠ 0))) ?_
    rintro _ w3 ⟨rfl, F3⟩
    replace hB5 := F3.blkN hB5
    replace hF := hF.thenDrew.thenN F3
    replace hN0 := hN0.thenDrew.thenN F3
    replace hR := hR.thruN ((Fram.refl none' _).thenDrew.thenN F3)
    replace h15 := F3.blkN h15
    replace h16 := F3.blkN h16
    refine wl_new (ze_119) (fun b18 w4 hbb18 h18 F4 => ?_)
    have hnesgb18 : sg < b18 := Nat.lt_of_lt_of_le hB5.lt hbb18
    have hbsb18 := Nat.le_trans hF.size hbb18
    have hbsb18 := Nat.le_trans hN0.size hbb18
    have hneb15b18 : b15 < b18 := Nat.lt_of_lt_of_le h15.lt hbb18
    have hneb16b18 : b16 < b18 := Nat.lt_of_lt_of_le h16.lt hbb18
    have kh18 := hR.df b18 hbb18
    replace hB5 := F4.blkN hB5
    replace hF := hF.thenDrew.thenN F4
    replace hN0 := hN0.thenDrew.thenN F4
    replace hR := hR.thruN ((Fram.refl none' _).thenDrew.thenN F4)
    replace h15 := F4.blkN h15
    replace h16 := F4.blkN h16
    refine wl_puta rfl rfl ((pvc_one (vBool _))) sz_119 (rfl) h18 ((by simp)) (rfl) (fun w5 h18 F5 => ?_)
    replace hB5 := F5.blkO hB5 (by first | omega | exact ow_ne (by assumption) (by assumption) (by omega))
    replace hF := hF.thenDrew.thenO F5 (by first | exact .inr (by omega) | exact .inl rfl | exact .inl (by assumption) | assumption)
    replace hN0 := hN0.thenDrew.thenO F5 (by first | exact .inr (by omega) | exact .inl rfl | exact .inl (by assumption) | assumption)
    replace hR := hR.hbput ((Fram.refl (one b18) _).thenDrew.thenO F5 (.inl rfl))
    replace h15 := F5.blkO h15 (by first | omega | exact ow_ne (by assumption) (by assumption) (by omega))
    replace h16 := F5.blkO h16 (by first | omega | exact ow_ne (by assumption) (by assumption) (by omega))
    refine wl_nil (x_then (hK10 _ _ ?_))
    clear hK10 K10
    refine c_reg ?_ -- region 23 ops.go:171
    refine wl (ro_move rfl) ?_
    refine wl (ro_loadAggB rfl ag_119 (h18) rfl rfl) ?_
    refine wl_pu (vs := [vBool (decide (k.T ≠ 0))]) (eo_bsV1 rfl se_83 zx_119) rfl hR.dr hc rfl (by show g.ops.length + 1 ≤ 300; omega) ?_
    intro u6 ow6 x6 f6 r6
    obtain ⟨h15, kh15⟩ := vm_loc x6 f6 h15 kh15
    obtain ⟨h16, kh16⟩ := vm_loc x6 f6 h16 kh16
    obtain ⟨h18, kh18⟩ := vm_loc x6 f6 h18 kh18
    have hs6 := hF.size
    replace hF := vm_trans hX hF f6
    replace hX := hX.trans hs6 x6
    replace hR := r6
    refine wl_nil (x_blk ?_)
    refine bpp_end Tryz.results274 rfl ?_
    exact ⟨hq1, k, v, rfl, rfl, _, hX, hF, hR⟩
end
end Go.Proofs.Qxb6500568aGreatDoor
