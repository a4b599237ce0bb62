import Derived.Test.Qxb6500568aGreatDoorKp
/- The machine: fuel, jumps, numbers and tables asked for, stores. -/
namespace Go.Proofs.Qxb6500568aGreatDoor
open Ieee
set_option linter.unusedVariables false
set_option linter.unusedSimpArgs false
set_option linter.unusedSectionVars false

theorem numOf290 {w : World} {v : PV} {s : Str} : RetP Tryz.prog 290 [pv v, S s] w (fun r w' => r = u64c v.N ∧ v.T = 2 ∧ Fram none' w w') (fun p w' => v.T ≠ 2 ∧ Thr (vStr s) w p w') := by
  have hF : Fram none' w w := Fram.refl _ _
  refine retp_of Tryz.func290 rfl Tryz.ntmps290 rfl ?_
  refine c_seq (fun K1 hK1 => ?_)
  refine c_reg ?_ -- region 0 ops.go:6
  refine wl_box (cs := (pvc v)) rfl rfl (fun b2 w1 hbb2 h2 F1 => ?_)
  have hbsb2 := Nat.le_trans hF.size hbb2
  replace hF := hF.thenDrew.thenN F1
  refine wl (ro_assign rfl) ?_
  refine wl_nil (x_then (hK1 _ _ ?_))
  clear hK1 K1
  refine c_seq (fun K2 hK2 => ?_)
  refine c_seq (fun K3 hK3 => ?_)
  refine c_reg ?_ -- region 1 ops.go:7
  refine wl (ro_fieldAddr (k := 0) rfl fo_119_0) ?_
  refine wl (ro_loadB rfl sc_3 (h2) rfl) ?_
  refine wl (ro_cmp rfl rfl rfl) ?_
  refine wl_nil (x_then (hK3 _ _ ?_))
  clear hK3 K3
  refine wc_cond rfl (fun hc7 => ?_) (fun hc7 => ?_)
  · try simp only [decide_eq_true_eq, decide_eq_false_iff_not, Bool.not_eq_true', Bool.not_eq_false', Bool.not_eq_eq_eq_not, Bool.not_true, Bool.not_false, beq_iff_eq, bne_iff_ne, ne_eq, beq_eq_false_iff_ne, bne_eq_false_iff_eq, gt_iff_lt, ge_iff_le, Int.not_lt, Int.not_le] at hc7
    have hne : v.T ≠ 2 := by omega
    refine c_reg ?_ -- region 2 ops.go:8
    refine wl (ro_move rfl) ?_
    refine wl_callP rfl en_259 (raise259) (fun pv w9 hE => bpp_pan (P := Tryz.prog) (fn := Tryz.f290) (⟨hne, let ⟨b, k1, k2, k3, k4⟩ := hE; ⟨b, k1, k2, hF.trans k3, by have := hF.size; omega⟩⟩)) ?_
    rintro _ _ ⟨⟩
  · try simp only [decide_eq_true_eq, decide_eq_false_iff_not, Bool.not_eq_true', Bool.not_eq_false', Bool.not_eq_eq_eq_not, Bool.not_true, Bool.not_false, beq_iff_eq, bne_iff_ne, ne_eq, beq_eq_false_iff_ne, bne_eq_false_iff_eq, gt_iff_lt, ge_iff_le, Int.not_lt, Int.not_le] at hc7
    have he : v.T = 2 := by omega
    refine c_skip (x_then (hK2 _ _ ?_))
    clear hK2 K2
    refine forget [(2, _)] ⟨rfl, trivial⟩ (fun e => ?_)
    refine c_seq (fun K4 hK4 => ?_)
    refine c_reg ?_ -- region 3 ops.go:10
    refine wl (ro_fieldAddr (k := 1) rfl fo_119_1) ?_
    refine wl (ro_loadB rfl sc_117 (h2) rfl) ?_
    refine wl (ro_assign rfl) ?_
    refine wl_nil (x_then (hK4 _ _ ?_))
    clear hK4 K4
    refine c_ret ?_
    refine bpp_ret Tryz.results290 rfl ?_
    exact ⟨rfl, he, hF⟩
theorem tabOf272 {w : World} {v : PV} {s : Str} (hv : v.T = 4 → v.N < 4294967296) : RetP Tryz.prog 272 [pv v, S s] w (fun r w' => r = i64c v.N ∧ v.T = 4 ∧ Fram none' w w') (fun p w' => v.T ≠ 4 ∧ Thr (vStr s) w p w') := by
  have hF : Fram none' w w := Fram.refl _ _
  refine retp_of Tryz.func272 rfl Tryz.ntmps272 rfl ?_
  refine c_seq (fun K1 hK1 => ?_)
  refine c_reg ?_ -- region 0 ops.go:14
  refine wl_box (cs := (pvc v)) rfl rfl (fun b2 w1 hbb2 h2 F1 => ?_)
  have hbsb2 := Nat.le_trans hF.size hbb2
  replace hF := hF.thenDrew.thenN F1
  refine wl (ro_assign rfl) ?_
  refine wl_nil (x_then (hK1 _ _ ?_))
  clear hK1 K1
  refine c_seq (fun K2 hK2 => ?_)
  refine c_seq (fun K3 hK3 => ?_)
  refine c_reg ?_ -- region 1 ops.go:15
  refine wl (ro_fieldAddr (k := 0) rfl fo_119_0) ?_
  refine wl (ro_loadB rfl sc_3 (h2) rfl) ?_
  refine wl (ro_cmp rfl rfl rfl) ?_
  refine wl_nil (x_then (hK3 _ _ ?_))
  clear hK3 K3
  refine wc_cond rfl (fun hc7 => ?_) (fun hc7 => ?_)
  · try simp only [decide_eq_true_eq, decide_eq_false_iff_not, Bool.not_eq_true', Bool.not_eq_false', Bool.not_eq_eq_eq_not, Bool.not_true, Bool.not_false, beq_iff_eq, bne_iff_ne, ne_eq, beq_eq_false_iff_ne, bne_eq_false_iff_eq, gt_iff_lt, ge_iff_le, Int.not_lt, Int.not_le] at hc7
    have hne : v.T ≠ 4 := by omega
    refine c_reg ?_ -- region 2 ops.go:16
    refine wl (ro_move rfl) ?_
    refine wl_callP rfl en_259 (raise259) (fun pv w9 hE => bpp_pan (P := Tryz.prog) (fn := Tryz.f272) (⟨hne, let ⟨b, k1, k2, k3, k4⟩ := hE; ⟨b, k1, k2, hF.trans k3, by have := hF.size; omega⟩⟩)) ?_
    rintro _ _ ⟨⟩
  · try simp only [decide_eq_true_eq, decide_eq_false_iff_not, Bool.not_eq_true', Bool.not_eq_false', Bool.not_eq_eq_eq_not, Bool.not_true, Bool.not_false, beq_iff_eq, bne_iff_ne, ne_eq, beq_eq_false_iff_ne, bne_eq_false_iff_eq, gt_iff_lt, ge_iff_le, Int.not_lt, Int.not_le] at hc7
    have he : v.T = 4 := by omega
    have hlt := hv he
    refine c_skip (x_then (hK2 _ _ ?_))
    clear hK2 K2
    refine forget [(2, _)] ⟨rfl, trivial⟩ (fun e => ?_)
    refine c_seq (fun K4 hK4 => ?_)
    refine c_reg ?_ -- region 3 ops.go:18
    refine wl (ro_fieldAddr (k := 1) rfl fo_119_1) ?_
    refine wl (ro_loadB rfl sc_117 (h2) rfl) ?_
    refine wl (ro_conv rfl sc_117 in_3 (Go.IntWalk.i64_in _ (by omega))) ?_
    refine wl (ro_assign rfl) ?_
    refine wl_nil (x_then (hK4 _ _ ?_))
    clear hK4 K4
    refine c_ret ?_
    refine bpp_ret Tryz.results272 rfl ?_
    exact ⟨rfl, he, hF⟩
section
variable {C : VC} {w w' w1 u u1 u2 : World} {ow ow' ow1 : Nat → Nat} {s : AS} {a : AS} {y : ATh} {gs : List AFr} {g : AFr} {vars : List PV} {fg fc : Nat} {V : VS} {κ : List Nat} {Vv : Nat → Value} {U : Nat → Nat → Value} {x : VTh} {f : VFr} {fs : List VFr}
theorem vt_mb {b : Nat} (op : ow b = 400) : vtT (ow b) := by rw [op]; left; unfold vmT; omega
theorem burn0 (hR : AMq C w ow s) (hf : s.fuel = 0) : RetP Tryz.prog 258 [ptr C.E.mb] w (fun _ _ => False) (fun p w' => p = .iface 336 (i64c 9) ∧ w' = w) := by
  obtain ⟨V, κ, Vv, U, hv, hz⟩ := hR
  obtain ⟨L, op, vl⟩ := hv.ex
  have hM := op.m
  unfold mbc at hM
  rw [vl.f, hf] at hM
  refine retp_of Tryz.func258 rfl Tryz.ntmps258 rfl ?_
  refine c_seq (fun K1 hK1 => ?_)
  refine c_seq (fun K2 hK2 => ?_)
  refine c_reg ?_ -- region 0 exec.go:126
  refine wl (ro_move rfl) ?_
  refine wl (ro_nilCheck rfl) ?_
  refine wl (ro_fieldAddr (k := 10) rfl fo_89_10) ?_
  refine wl (ro_loadB rfl sc_3 (hM) rfl) ?_
  refine wl (ro_cmp rfl rfl rfl) ?_
  refine wl_nil (x_then (hK2 _ _ ?_))
  clear hK2 K2
  refine wc_condT rfl ?_
  refine c_reg ?_ -- region 1 exec.go:127
  refine wl_callP rfl en_240 (stop240 (e := 9)) (fun pv w9 hE => bpp_pan (P := Tryz.prog) (fn := Tryz.f258) (hE)) ?_
  rintro _ _ ⟨⟩
theorem burn1 (hR : AM C fg fc w ow s) (hf : 0 < s.fuel) : Ret Tryz.prog 258 [ptr C.E.mb] w (AR C fg fc w ow (.tuple #[]) { s with fuel := s.fuel - 1 }) := by
  obtain ⟨V, κ, Vv, U, hv, hz, hu⟩ := hR
  obtain ⟨L, op, vl⟩ := hv.ex
  have hM := op.m
  have hfu := hv.fu
  have htm := op.tm
  unfold mbc at hM
  rw [vl.f] at hM
  have hF : Fram (one C.E.mb) w w := Fram.refl _ _
  refine ret_of Tryz.func258 rfl Tryz.ntmps258 rfl ?_
  refine c_seq (fun K1 hK1 => ?_)
  refine c_seq (fun K2 hK2 => ?_)
  refine c_reg ?_ -- region 0 exec.go:126
  refine wl (ro_move rfl) ?_
  refine wl (ro_nilCheck rfl) ?_
  refine wl (ro_fieldAddr (k := 10) rfl fo_89_10) ?_
  refine wl (ro_loadB rfl sc_3 (hM) rfl) ?_
  refine wl (ro_cmp rfl rfl rfl) ?_
  refine wl_nil (x_then (hK2 _ _ ?_))
  clear hK2 K2
  refine wc_cond rfl (fun hc6 => ?_) (fun hc6 => ?_)
  · try simp only [decide_eq_true_eq, decide_eq_false_iff_not, Bool.not_eq_true', Bool.not_eq_false', Bool.not_eq_eq_eq_not, Bool.not_true, Bool.not_false, beq_iff_eq, bne_iff_ne, ne_eq, beq_eq_false_iff_ne, bne_eq_false_iff_eq, gt_iff_lt, ge_iff_le, Int.not_lt, Int.not_le] at hc6
    exfalso; omega
  · try simp only [decide_eq_true_eq, decide_eq_false_iff_not, Bool.not_eq_true', Bool.not_eq_false', Bool.not_eq_eq_eq_not, Bool.not_true, Bool.not_false, beq_iff_eq, bne_iff_ne, ne_eq, beq_eq_false_iff_ne, bne_eq_false_iff_eq, gt_iff_lt, ge_iff_le, Int.not_lt, Int.not_le] at hc6
    refine c_skip (x_then (hK1 _ _ ?_))
    clear hK1 K1
    refine c_reg ?_ -- region 2 exec.go:129
    refine wl (ro_move rfl) ?_
    refine wl (ro_nilCheck rfl) ?_
    refine wl (ro_fieldAddr (k := 10) rfl fo_89_10) ?_
    refine wl (ro_loadB rfl sc_3 (hM) rfl) ?_
    refine wl (ro_subN (m := s.fuel) (k := 1) (r := s.fuel - 1) rfl rfl (by omega) (by omega)) ?_
    refine wl (ro_nilCheck rfl) ?_
    refine wl (ro_fieldAddr (k := 10) rfl fo_89_10) ?_
    refine wl_put rfl rfl rfl sz_3 hM (by simp) (rfl) (fun w1 hM F1 => ?_)
    replace hF := hF.thenDrew.thenO F1 (by first | exact .inr (by omega) | exact .inl rfl | exact .inl (by assumption) | assumption)
    refine wl_nil ?_
    refine bp_end Tryz.results258 rfl ?_
    refine ⟨rfl, ow, Xt.refl _ _, hF.mono (fun b _ z ↦ by have z : b = C.E.mb := z; show vtT (ow b); rw [z]; exact vt_mb htm), V, κ, Vv, U, hv.fuT (n := s.fuel - 1) op vl (by omega) hF hM, hz.same rfl rfl rfl, hu⟩
/-- the top frame's row. -/
theorem AO.frow (o : AO C fg fc w ow a y gs g vars V κ Vv U x f fs) : ∃ l, Blk w.heap fg l 331 ∧ ow fg = 450 + a.cur ∧ (l.drop (gs.length * 5)).take 5 = frc f ∧ (gs.length + 1) * 5 ≤ l.length ∧
    ∀ u p, Fram (one fg) w u → Blk u.heap fg (l.set (gs.length * 5 + 1) (i64c p)) 331 → AM C fg fc u ow (mkA a y gs { g with pc := p } vars) := by
  obtain ⟨L, op, vl⟩ := o.v.ex
  have hO := op.fk vl o.t.hx o.lt
  have hlen : x.frs.reverse.length = x.frs.length := List.length_reverse
  have hfl : x.frs.length = gs.length + 1 := by rw [o.t.hf, List.length_cons, o.t.nl]
  have hget : x.frs.reverse[gs.length]? = some f := by
    rw [o.t.hf, List.reverse_cons, List.getElem?_append_right (by rw [List.length_reverse, o.t.nl]; exact Nat.le_refl _), List.length_reverse, o.t.nl, Nat.sub_self]; rfl
  have hO2 := hO
  rw [← hlen] at hO
  obtain ⟨g', cap, l, e1, hB, q1, q2, q3, q4, q5⟩ := hO.at frc_len hget
  have hcap := hO.cap e1
  rw [o.hf] at e1
  injection e1 with e2 e3 e4
  injection e2 with e2
  injection e2 with e2
  subst e2; subst e4
  have q6 := q5 _ _ hget
  rw [Nat.zero_add] at q6
  rw [hlen, hfl] at q1
  have hle : (gs.length + 1) * 5 ≤ l.length := by rw [q2]; exact Nat.mul_le_mul_right 5 q1
  refine ⟨l, hB, q4, q6, hle, fun u p fr hBu => ?_⟩
  have hput := OwT.put (w' := u) (ow := ow) (tag := 450 + a.cur) (L := x.frs.reverse) (x' := { f with pc := p }) (cs := [i64c p]) (i := gs.length) (j := 1) (m := 1) frc_len hBu (by rw [hlen, hfl]; exact q1) hcap q2 q3 q4 (by rw [set_td (by omega)]) hget rfl (by decide) rfl
  have hset : x.frs.reverse.set gs.length { f with pc := p } = (({ f with pc := p } : VFr) :: fs).reverse := by
    rw [o.t.hf, List.reverse_cons, List.reverse_cons, ← o.t.nl, ← (List.length_reverse : fs.reverse.length = fs.length)]
    simp
  rw [hset] at hput
  have hl2 : x.frs.reverse.length = (({ f with pc := p } : VFr) :: fs).length := by rw [hlen, o.t.hf]; rfl
  rw [hl2] at hput
  refine o.cl (p := p) (st := x.stack) (U' := U) (Vv' := Vv) o.t.st ?_ rfl
  have := o.v.wrT op o.lt (i := 3) (by unfold thI; omega) (fr.mono (fun b _ z => by have z : b = fg := z; rw [z, q4])) (by
    rw [o.hf]
    have e5 : gs.length + 1 = (({ f with pc := p } : VFr) :: fs).length := by rw [List.length_cons, o.t.nl]
    rw [e5]
    exact hput) (vl.frs o.t.hx ({ f with pc := p } :: fs)) rfl
  exact this
theorem frow_at {l : List Value} {n : Nat} (h : (l.drop (n * 5)).take 5 = frc f) {o : Nat} (ho : o < 5) : l[n * 5 + o]? = (frc f)[o]? := row_get h ho
set_option maxHeartbeats 4000000 in
theorem jumpA (hR : AM C fg fc w ow (mkA a y gs g vars)) (hc : a.cur < a.ths.length) {z : Nat} : RetP Tryz.prog 243 [ptr C.E.mb, fpt fg gs.length, i64c z] w (fun r w' => AR C fg fc w ow (.tuple #[]) (ajump z (mkA a y gs g vars)) r w' ∧ (ajump z (mkA a y gs g vars)).done = a.done) (AE C (kH a) w ow (ajump z (mkA a y gs g vars))) := by
  obtain ⟨V, κ, Vv, U, x, f, fs, o⟩ := hR.open hc
  obtain ⟨l, hB1, k1, q1, q2, W⟩ := o.frow
  have hpc := o.t.pc
  have hX : Xt w ow ow := Xt.refl _ _
  have hF : Fram (tg ow vtT) w w := Fram.refl _ _
  have hfr : (mkA a y gs g vars).fr = g := mk_fr hc
  have hvf : tg ow vtT fg := by show vtT (ow fg); rw [k1]; left; have := o.lt; unfold vmT; omega
  refine retp_of Tryz.func243 rfl Tryz.ntmps243 rfl ?_
  refine c_seq (fun K1 hK1 => ?_)
  refine c_seq (fun K2 hK2 => ?_)
  refine c_reg ?_ -- region 0 exec.go:134
  refine wl (ro_move rfl) ?_
  refine wl (ro_move rfl) ?_
  refine wl (ro_nilCheck rfl) ?_
  refine wl (ro_fieldAddr (k := 1) rfl fo_331_1) ?_
  refine wl (ro_loadB rfl sc_3 (hB1) (frow_at q1 (by decide))) ?_
  refine wl (ro_cmp rfl rfl rfl) ?_
  refine wl_nil (x_then (hK2 _ _ ?_))
  clear hK2 K2
  refine wc_cond rfl (fun hc11 => ?_) (fun hc11 => ?_)
  · try simp only [decide_eq_true_eq, decide_eq_false_iff_not, Bool.not_eq_true', Bool.not_eq_false', Bool.not_eq_eq_eq_not, Bool.not_true, Bool.not_false, beq_iff_eq, bne_iff_ne, ne_eq, beq_eq_false_iff_ne, bne_eq_false_iff_eq, gt_iff_lt, ge_iff_le, Int.not_lt, Int.not_le] at hc11
    have hle : z ≤ g.pc := by rw [← hpc]; omega
    rcases Nat.eq_zero_or_pos a.fuel with h0 | h0
    · skip
      refine c_reg ?_ -- region 1 exec.go:135
      refine wl (ro_move rfl) ?_
      refine wl_callP rfl en_258 (burn0 hR.q h0) (fun pv w9 hE => bpp_pan (P := Tryz.prog) (fn := Tryz.f243) (AE.stop hX hF hR.q hE (ATr.of (by unfold ajump; rw [hfr, if_pos hle]; exact if_pos h0)))) ?_
      rintro _ _ ⟨⟩
    · skip
      refine c_reg ?_ -- region 1 exec.go:135
      refine wl (ro_move rfl) ?_
      refine wl_call rfl en_258 (burn1 hR.dr h0) ?_
      rintro _ u1 ⟨rfl, ow1, x1, f1, r1⟩
      have hs1 := hF.size
      replace hF := vm_trans hX hF f1
      replace hX := hX.trans hs1 x1
      replace hR := r1
      obtain ⟨V, κ, Vv, U, x, f, fs, o⟩ := AM.open (a := { a with fuel := a.fuel - 1 }) hR hc
      obtain ⟨l, hB1, k1, q1, q2, W⟩ := o.frow
      have hF1 : Fram (one fg) u1 u1 := Fram.refl _ _
      have e9 : ajump z (mkA a y gs g vars) = mkA { a with fuel := a.fuel - 1 } y gs { g with pc := z } vars := by unfold ajump; rw [hfr, if_pos hle, if_neg (by show ¬ a.fuel = 0; omega)]; exact mk_pc (a := { a with fuel := a.fuel - 1 }) hc z
      refine wl_nil (x_then (hK1 _ _ ?_))
      clear hK1 K1
      refine c_reg ?_ -- region 2 exec.go:137
      refine wl (ro_move rfl) ?_
      refine wl (ro_move rfl) ?_
      refine wl (ro_nilCheck rfl) ?_
      refine wl (ro_fieldAddr (k := 1) rfl fo_331_1) ?_
      refine wl_put rfl rfl rfl sz_3 hB1 ((by omega)) (rfl) (fun w2 hB1 F2 => ?_)
      replace hF := hF.thenDrew.thenO F2 (by first | exact .inr (by omega) | exact .inl rfl | exact .inl (by assumption) | assumption)
      replace hF1 := hF1.thenDrew.thenO F2 (by first | exact .inr (by omega) | exact .inl rfl | exact .inl (by assumption) | assumption)
      refine wl_nil ?_
      refine bpp_end Tryz.results243 rfl ?_
      rw [e9]
      exact ⟨⟨rfl, _, hX, hF, W _ _ hF1 hB1⟩, rfl⟩
  · try simp only [decide_eq_true_eq, decide_eq_false_iff_not, Bool.not_eq_true', Bool.not_eq_false', Bool.not_eq_eq_eq_not, Bool.not_true, Bool.not_false, beq_iff_eq, bne_iff_ne, ne_eq, beq_eq_false_iff_ne, bne_eq_false_iff_eq, gt_iff_lt, ge_iff_le, Int.not_lt, Int.not_le] at hc11
    have hF1 : Fram (one fg) w w := Fram.refl _ _
    have hle : ¬ z ≤ g.pc := by rw [← hpc]; omega
    have e9 : ajump z (mkA a y gs g vars) = mkA a y gs { g with pc := z } vars := by unfold ajump; rw [hfr, if_neg hle]; exact mk_pc hc z
    refine c_skip (x_then (hK1 _ _ ?_))
    clear hK1 K1
    refine c_reg ?_ -- region 2 exec.go:137
    refine wl (ro_move rfl) ?_
    refine wl (ro_move rfl) ?_
    refine wl (ro_nilCheck rfl) ?_
    refine wl (ro_fieldAddr (k := 1) rfl fo_331_1) ?_
    refine wl_put rfl rfl rfl sz_3 hB1 ((by omega)) (rfl) (fun w3 hB1 F3 => ?_)
    replace hF := hF.thenDrew.thenO F3 (by first | exact .inr (by omega) | exact .inl rfl | exact .inl (by assumption) | assumption)
    replace hF1 := hF1.thenDrew.thenO F3 (by first | exact .inr (by omega) | exact .inl rfl | exact .inl (by assumption) | assumption)
    refine wl_nil ?_
    refine bpp_end Tryz.results243 rfl ?_
    rw [e9]
    exact ⟨⟨rfl, _, hX, hF, W _ _ hF1 hB1⟩, rfl⟩
theorem tSet_err {t : Tb} {k v : PV} (h : (tSet t k v).1 ≠ 0) : (tSet t k v).2 = t := by
  unfold tSet at h ⊢
  by_cases h1 : k.T = 0
  · rw [if_pos h1]
  · rw [if_neg h1] at h ⊢
    by_cases h2 : k.T = 2 ∧ isNaNW k.N = true
    · rw [if_pos h2]
    · rw [if_neg h2] at h ⊢
      rcases hp : place t (nrmK k) with _ | i
      · rw [hp] at h
        dsimp only at h ⊢
        by_cases h3 : v.T = 0
        · rw [if_pos h3]
        · rw [if_neg h3] at h ⊢
          by_cases h4 : 32 ≤ t.length
          · rw [if_pos h4]
          · rw [if_neg h4] at h
            exact absurd rfl h
      · rw [hp] at h
        exact absurd rfl h
set_option maxHeartbeats 4000000 in
theorem storeA (hR : AM C fg fc w ow s) (hlt : s.cur < s.ths.length) {h : Nat} {t : Tb} {k v : PV} (hh : s.tabs[h]? = some t) (hk : wfV k = true) (hN : W64 k.N) (hv : wfV v = true) (hvN : W64 v.N) (hok : TOK (tSet t k v).2) {z : AS}
    (h8 : (tSet t k v).1 = 8 → ATr 8 s z) (h1 : (tSet t k v).1 ≠ 8 → (tSet t k v).1 ≠ 0 → z = araise mKey s) :
    RetP Tryz.prog 271 [ptr C.E.mb, i64c h, pv k, pv v] w (fun r w' => (tSet t k v).1 = 0 ∧ AR C fg fc w ow (.tuple #[]) { s with tabs := s.tabs.set h (tSet t k v).2 } r w') (AE C (kH s) w ow z) := by
  have hX : Xt w ow ow := Xt.refl _ _
  have hF : Fram (tg ow vtT) w w := Fram.refl _ _
  refine retp_of Tryz.func271 rfl Tryz.ntmps271 rfl ?_
  refine c_seq (fun K1 hK1 => ?_)
  refine c_reg ?_ -- region 0 ops.go:22
  refine wl_box (cs := (pvc k)) rfl rfl (fun b6 w1 hbb6 h6 F1 => ?_)
  have hbsb6 := Nat.le_trans hF.size hbb6
  have kh6 := hR.df b6 hbb6
  replace hF := hF.thenDrew.thenN F1
  replace hR := hR.thruN ((Fram.refl none' _).thenDrew.thenN F1)
  refine wl_box (cs := (pvc v)) rfl rfl (fun b7 w2 hbb7 h7 F2 => ?_)
  have hbsb7 := Nat.le_trans hF.size hbb7
  have hneb6b7 : b6 < b7 := Nat.lt_of_lt_of_le h6.lt hbb7
  have kh7 := hR.df b7 hbb7
  replace hF := hF.thenDrew.thenN F2
  replace hR := hR.thruN ((Fram.refl none' _).thenDrew.thenN F2)
  replace h6 := F2.blkN h6
  refine wl_nil (x_then (hK1 _ _ ?_))
  clear hK1 K1
  refine forget [(0, _), (1, _), (6, _), (7, _)] ⟨rfl, rfl, rfl, rfl, trivial⟩ (fun e => ?_)
  refine c_seq (fun K2 hK2 => ?_)
  have htb := hR.rtab
  refine c_pi [(0, false), (1, false), (2, false), (3, false), (4, false), (5, false), (6, false), (7, true), (8, false)] (La b6 _ _ (La b7 _ _ (Mz C))) mixed (by kernel_rfl) rfl (by kernel_rfl) (po_then (po_bpp)) (⟨h6, h7, hR.rz⟩) ?_ -- region 1 ops.go:23
  refine pi_ro rfl (fun w hS => ro_move rfl) ?_
  refine pi_ro rfl (fun w hS => ro_nilCheck rfl) ?_
  refine pi_ro rfl (fun w hS => ro_fieldAddr (k := 1) rfl fo_89_1) ?_
  refine pi_ro rfl (fun w hS => let ⟨_, hc, h0, h1⟩ := hS.2.2; ro_loadB rfl sc_38 hc (h1)) ?_
  refine pi_ro rfl (fun w hS => ro_move rfl) ?_
  refine pi_ro rfl (fun w hS => ro_loadAggB rfl ag_119 (hS.1) rfl rfl) ?_
  refine pi_ro rfl (fun w hS => ro_loadAggB rfl ag_119 (hS.2.1) rfl rfl) ?_
  refine pi_call rfl rfl en_87 (Set87 (h := h) (k := k) (v := v) (htb.far ((Fram.refl none' _).thenDrew) (fun _ _ _ q ↦ q) (Xt.refl _ _)) hh hk hN hv hvN hok) ?_
  rintro _ u9 ⟨rfl, ow9, x9, ht9, f9⟩
  obtain ⟨ow10, x10, f10, r10⟩ := hR.dr.tabs x9 f9 ht9 (by unfold setR; rw [List.length_set]; exact Nat.le_refl _)
  obtain ⟨h6, kh6⟩ := vm_loc x10 f10 h6 kh6
  obtain ⟨h7, kh7⟩ := vm_loc x10 f10 h7 kh7
  have hs10 := hF.size
  replace hF := vm_trans hX hF f10
  replace hX := hX.trans hs10 x10
  replace hR := r10
  refine ⟨⟨h6, h7, hR.rz⟩, ?_⟩
  refine pi_ro rfl (fun w hS => ro_assign rfl) ?_
  refine pi_nil (x_then (hK2 _ _ ?_))
  clear hK2 K2
  refine c_seq (fun K3 hK3 => ?_)
  refine c_seq (fun K4 hK4 => ?_)
  have herr : (tSet t k v).1 ≠ 0 → AM C fg fc u9 ow10 s := fun q ↦ by
    have e1 : setR s.tabs h t k v = s.tabs := by unfold setR; rw [tSet_err q]; obtain ⟨hl, he⟩ := List.getElem?_eq_some_iff.1 hh; rw [← he, List.set_getElem_self]
    rw [e1] at hR
    exact hR
  rcases (by omega : (tSet t k v).1 = 8 ∨ ((tSet t k v).1 ≠ 8 ∧ (tSet t k v).1 ≠ 0) ∨ (tSet t k v).1 = 0) with hr | hr | hr
  · skip
    replace hR := herr (by omega)
    rw [hr]
    refine c_reg ?_ -- region 2 ops.go:24
    refine wl (ro_move rfl) ?_
    refine wl (ro_cmp rfl rfl rfl) ?_
    refine wl_nil (x_then (hK4 _ _ ?_))
    clear hK4 K4
    refine wc_condT rfl ?_
    refine c_reg ?_ -- region 3 ops.go:25
    refine wl_callP rfl en_240 (stop240 (e := 8)) (fun pv w9 hE => bpp_pan (P := Tryz.prog) (fn := Tryz.f271) (AE.stop hX hF hR.q hE (h8 hr))) ?_
    rintro _ _ ⟨⟩
  · skip
    replace hR := herr hr.2
    refine c_reg ?_ -- region 2 ops.go:24
    refine wl (ro_move rfl) ?_
    refine wl (ro_cmp rfl rfl rfl) ?_
    refine wl_nil (x_then (hK4 _ _ ?_))
    clear hK4 K4
    refine wc_cond rfl (fun hc18 => ?_) (fun hc18 => ?_)
    · try simp only [decide_eq_true_eq, decide_eq_false_iff_not, Bool.not_eq_true', Bool.not_eq_false', Bool.not_eq_eq_eq_not, Bool.not_true, Bool.not_false, beq_iff_eq, bne_iff_ne, ne_eq, beq_eq_false_iff_ne, bne_eq_false_iff_eq, gt_iff_lt, ge_iff_le, Int.not_lt, Int.not_le] at hc18
      exfalso; omega
    · try simp only [decide_eq_true_eq, decide_eq_false_iff_not, Bool.not_eq_true', Bool.not_eq_false', Bool.not_eq_eq_eq_not, Bool.not_true, Bool.not_false, beq_iff_eq, bne_iff_ne, ne_eq, beq_eq_false_iff_ne, bne_eq_false_iff_eq, gt_iff_lt, ge_iff_le, Int.not_lt, Int.not_le] at hc18
      refine c_skip (x_then (hK3 _ _ ?_))
      clear hK3 K3
      refine forget [(8, _)] ⟨rfl, trivial⟩ (fun e => ?_)
      refine c_seq (fun K5 hK5 => ?_)
      refine c_reg ?_ -- region 4 ops.go:27
      refine wl (ro_move rfl) ?_
      refine wl (ro_cmp rfl rfl rfl) ?_
      refine wl_nil (x_then (hK5 _ _ ?_))
      clear hK5 K5
      refine wc_cond rfl (fun hc21 => ?_) (fun hc21 => ?_)
      · try simp only [decide_eq_true_eq, decide_eq_false_iff_not, Bool.not_eq_true', Bool.not_eq_false', Bool.not_eq_eq_eq_not, Bool.not_true, Bool.not_false, beq_iff_eq, bne_iff_ne, ne_eq, beq_eq_false_iff_ne, bne_eq_false_iff_eq, gt_iff_lt, ge_iff_le, Int.not_lt, Int.not_le] at hc21
        refine c_reg ?_ -- region 5 ops.go:28
        refine wl_callP rfl en_259 (raise259 (s := mKey)) (fun pv w9 hE => bpp_pan (P := Tryz.prog) (fn := Tryz.f271) (AE.thr hX hF hR.q hE ((h1 hr.1 hr.2).symm))) ?_
        rintro _ _ ⟨⟩
      · try simp only [decide_eq_true_eq, decide_eq_false_iff_not, Bool.not_eq_true', Bool.not_eq_false', Bool.not_eq_eq_eq_not, Bool.not_true, Bool.not_false, beq_iff_eq, bne_iff_ne, ne_eq, beq_eq_false_iff_ne, bne_eq_false_iff_eq, gt_iff_lt, ge_iff_le, Int.not_lt, Int.not_le] at hc21
        exfalso; omega
  · skip
    rw [hr]
    refine c_reg ?_ -- region 2 ops.go:24
    refine wl (ro_move rfl) ?_
    refine wl (ro_cmp rfl rfl rfl) ?_
    refine wl_nil (x_then (hK4 _ _ ?_))
    clear hK4 K4
    refine wc_condF rfl ?_
    refine c_skip (x_then (hK3 _ _ ?_))
    clear hK3 K3
    refine forget [(8, _)] ⟨rfl, trivial⟩ (fun e => ?_)
    refine c_seq (fun K6 hK6 => ?_)
    refine c_reg ?_ -- region 4 ops.go:27
    refine wl (ro_move rfl) ?_
    refine wl (ro_cmp rfl rfl rfl) ?_
    refine wl_nil (x_then (hK6 _ _ ?_))
    clear hK6 K6
    refine wc_condF rfl ?_
    refine c_skip ?_
    refine bpp_end Tryz.results271 rfl ?_
    exact ⟨hr, rfl, _, hX, hF, hR⟩
end
end Go.Proofs.Qxb6500568aGreatDoor
