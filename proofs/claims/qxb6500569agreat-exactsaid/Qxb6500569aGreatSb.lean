import Derived.Test.Qxb6500569aGreatSa
/- The model's search: a cut; a call. -/
namespace Go.Proofs.Qxb6500569aGreat
set_option linter.unusedVariables false
set_option linter.unusedSimpArgs false

theorem argOf_lt {hp : List Nd} (wf : WFH hp) {a i k : Nat} (ha : a < hp.length) (h : argOf hp a i = some k) : k < hp.length := by
  obtain ⟨nd, hnd, _⟩ := deref_spec wf ha
  simp only [argOf, hnd] at h
  split at h
  · rename_i hi
    have hne : nd.h ≠ [] := by intro h0; rw [h0] at hi; simp [ar] at hi
    exact (wf.str _ _ hnd hne).2.2 i k h hi
  · cases h

theorem Head64o {w : World} {hb : Nat} {V : Value} {hp : List Nd} (M : MH w.heap hb V hp) (hok : HOK hp) (o : Option Nat) (ho : ∀ k, o = some k → k < hp.length) :
    Ret Tryz.prog 64 [ptr hb, optc o] w (fun r w' => r = S (hdO hp o) ∧ w' = w) := by
  cases o with
  | none => exact Head64n M
  | some k => exact Head64 M hok.wf (ho k rfl) hok.cap

structure DPre (cls : List Cl2) (f : Nat) (w : World) (sb hb : Nat) (VL VH VT VC v : Value) (C : SC) (st : SSt) (hp : List Nd) (gs : List Gl) (proof : List UInt8) (lvl left : Nat) : Prop where
  ms : SM w.heap sb VL C st
  mh : MH w.heap hb VH hp
  hok : HOK hp
  pos : 0 < hp.length
  mp : MP w.heap C.mpb VT VC cls
  gsl : GSl w.heap v gs
  ga : ∀ g ∈ gs, g.1 < hp.length ∧ g.2.1 ≤ st.inf ∧ g.2.2 ≤ st.inf
  pl : proof.length ≤ st.inf
  lv : lvl ≤ st.inf + 1
  lf : left ≤ st.inf
  inf : st.inf ≤ C.fuel
  fl : C.fuel ≤ 24
  fin : st.fin = 0
  ph : phi st ≤ 208
  ps : psi st ≤ 26
  fu : 4 * (C.fuel + 1 - st.inf) + gs.length + 1 ≤ f
  fm : f ≤ 1000

def DSpec (cls : List Cl2) (sb : Nat) (VT VC : Value) (C : SC) (f : Nat) : Prop := ∀ (w : World) (hb : Nat) (VL VH v : Value) (st : SSt) (hp : List Nd) (gs : List Gl) (proof : List UInt8) (lvl left : Nat),
  DPre cls f w sb hb VL VH VT VC v C st hp gs proof lvl left → Ret Tryz.prog 37 [ptr sb, ptr hb, v, S proof, i64c lvl, i64c left] w (DPost sb VL C w (dfsF cls C.fuel f hp gs proof lvl left st))

theorem dfs37_cut {cls : List Cl2} {sb : Nat} {VT VC : Value} {C : SC} {f : Nat} (IH : DSpec cls sb VT VC C f) {w : World} {hb : Nat} {VL VH v : Value} {st : SSt} {hp : List Nd} {g : Gl} {gs : List Gl} {proof : List UInt8} {lvl left : Nat}
    (P : DPre cls (f + 1) w sb hb VL VH VT VC v C st hp (g :: gs) proof lvl left) (hcut : hd hp g.1 = [33, 48]) :
    Ret Tryz.prog 37 [ptr sb, ptr hb, v, S proof, i64c lvl, i64c left] w (DPost sb VL C w (dfsF cls C.fuel (f + 1) hp (g :: gs) proof lvl left st)) := by
  obtain ⟨b, o, c, l, rfl, hc, hBl, h0, h1, h2, hGt⟩ := gsl_head P.gsl
  have M := P.mh
  have MS := P.ms
  have hg := P.ga g (by simp)
  have hfu := P.fu
  have hfm := P.fm
  simp only [List.length_cons] at hfu
  have hI := P.inf; have hF := P.fl
  obtain ⟨x, hx⟩ : ∃ x, x = dfsF cls C.fuel f hp gs proof lvl g.2.2 st := ⟨_, rfl⟩
  have hval : dfsF cls C.fuel (f + 1) hp (g :: gs) proof lvl left st = (if 0 ≤ x.1 ∧ x.1 < (g.2.1 : Int) then x else ((g.2.1 : Int), x.2)) := by
    simp only [dfsF]; rw [if_pos hcut, ← hx]
  rw [hval]
  have hcall := IH { w with drawn := w.drawn + 1 } hb VL VH _ st hp gs proof lvl g.2.2 ⟨P.ms, P.mh, P.hok, P.pos, P.mp, hGt, fun q hq => P.ga q (by simp [hq]), P.pl, P.lv, hg.2.2, P.inf, P.fl, P.fin, P.ph, P.ps, by omega, by omega⟩
  rw [← hx] at hcall
  refine ret_of Tryz.func37 rfl Tryz.ntmps37 rfl ?_
  refine c_seq (fun K1 hK1 => ?_)
  refine c_reg ?_ -- region 0 solvem.go:98
  refine wl (ro_assign rfl) ?_
  refine wl_nil (x_then (hK1 _ _ ?_))
  clear hK1 K1
  refine c_seq (fun K2 hK2 => ?_)
  refine c_seq (fun K3 hK3 => ?_)
  refine c_reg ?_ -- region 1 solvem.go:99
  refine wl (ro_move rfl) ?_
  refine wl (ro_lenL rfl se_90) ?_
  refine wl (ro_cmp (r := false) rfl rfl (by simp; omega)) ?_
  refine wl_nil (x_then (hK3 _ _ ?_))
  clear hK3 K3
  refine wc_condF rfl ?_
  refine c_skip (x_then (hK2 _ _ ?_))
  clear hK2 K2
  refine forget [(0, _), (1, _), (2, _), (3, _), (4, _), (5, _)] ⟨rfl, rfl, rfl, rfl, rfl, rfl, trivial⟩ (fun e => ?_)
  refine c_seq (fun K4 hK4 => ?_)
  refine c_reg ?_ -- region 11 solvem.go:112
  refine wl (ro_move rfl) ?_
  refine wl (ro_move rfl) ?_
  refine wl (ro_indexAddr (et := 127) (k := 3) rfl rfl se_90 rfl (Nat.succ_pos _)) ?_
  refine wl (ro_fieldAddr (k := 0) rfl fo_127_0) ?_
  refine wl (ro_loadB rfl sc_3 (hBl) ((by simpa using h0))) ?_
  refine wl_call rfl en_64 (Head64 M P.hok.wf hg.1 P.hok.cap) ?_
  rintro _ w ⟨rfl, rfl⟩
  rw [hcut]
  refine wl (ro_assign rfl) ?_
  refine wl_nil (x_then (hK4 _ _ ?_))
  clear hK4 K4
  refine c_seq (fun K5 hK5 => ?_)
  refine c_seq (fun K6 hK6 => ?_)
  refine c_reg ?_ -- region 12 solvem.go:113
  refine wl (ro_move rfl) ?_
  refine wl (ro_eqS rfl rfl rfl) ?_
  refine wl_nil (x_then (hK6 _ _ ?_))
  clear hK6 K6
  refine wc_condT rfl ?_
  refine c_seq (fun K7 hK7 => ?_)
  refine c_pi [(0, false), (1, false), (2, false), (3, false), (4, false), (5, false), (6, false), (7, false), (8, false), (9, false), (10, true), (11, false)] (fun w' => Blk w'.heap b l 127) mixed (by kernel_rfl) rfl (by kernel_rfl) (po_then (po_then (po_bp))) (hBl) ?_ -- region 13 solvem.go:114
  refine pi_ro rfl (fun w hS => ro_move rfl) ?_
  refine pi_ro rfl (fun w hS => ro_move rfl) ?_
  refine pi_ro rfl (fun w hS => ro_move rfl) ?_
  refine pi_ro rfl (fun w hS => ro_sliceL (l := 1) rfl rfl se_90 rfl (by omega)) ?_
  refine pi_ro rfl (fun w hS => ro_move rfl) ?_
  refine pi_ro rfl (fun w hS => ro_move rfl) ?_
  refine pi_ro rfl (fun w hS => ro_move rfl) ?_
  refine pi_ro rfl (fun w hS => ro_indexAddr (et := 127) (k := 3) rfl rfl se_90 rfl (Nat.succ_pos _)) ?_
  refine pi_ro rfl (fun w hS => ro_fieldAddr (k := 2) rfl fo_127_2) ?_
  refine pi_ro rfl (fun w hS => ro_loadB rfl sc_3 (hS) ((by simpa using h2))) ?_
  refine pi_call rfl rfl en_37 (hcall) ?_
  rintro _ w1 ⟨rfl, VL1, MS1, hn1, F1⟩
  have hBl1 : Blk w1.heap b l 127 := Blk.framT (w := { w with drawn := w.drawn + 1 }) hBl F1 MS.typ rfl
  refine ⟨hBl1, ?_⟩
  refine pi_ro rfl (fun w hS => ro_assign rfl) ?_
  have F2 : Fram (SFoot sb VL) w w1 := (Fram.drew _ w (w.drawn + 1)).trans F1
  refine pi_nil (x_then (hK7 _ _ ?_))
  clear hK7 K7
  refine c_seq (fun K8 hK8 => ?_)
  refine c_seq (fun K9 hK9 => ?_)
  by_cases hx0 : 0 ≤ x.1
  · skip
    refine c_reg ?_ -- region 14 solvem.go:115
    refine wl (ro_move rfl) ?_
    refine wl (ro_cmp (r := true) rfl rfl (by simp; omega)) ?_
    refine wl (ro_move rfl) ?_
    refine wlg_yes rfl (ro_move rfl) ?_
    refine wlg_yes rfl (ro_move rfl) ?_
    refine wlg_yes rfl (ro_indexAddr (et := 127) (k := 3) rfl rfl se_90 rfl (Nat.succ_pos _)) ?_
    refine wlg_yes rfl (ro_fieldAddr (k := 1) rfl fo_127_1) ?_
    refine wlg_yes rfl (ro_loadB rfl sc_3 (hBl1) ((by simpa using h1))) ?_
    refine wlg_yes rfl (ro_cmp rfl rfl rfl) ?_
    refine wl (ro_pick rfl rfl rfl) ?_
    refine wl_nil (x_then (hK9 _ _ ?_))
    clear hK9 K9
    refine wc_cond rfl (fun hc99 => ?_) (fun hc99 => ?_)
    · try simp only [decide_eq_true_eq, decide_eq_false_iff_not, Bool.not_eq_true', Bool.not_eq_false', Bool.not_eq_eq_eq_not, Bool.not_true, Bool.not_false, beq_iff_eq, bne_iff_ne, ne_eq, beq_eq_false_iff_ne, bne_eq_false_iff_eq, gt_iff_lt, ge_iff_le, Int.not_lt, Int.not_le] at hc99
      refine c_seq (fun K10 hK10 => ?_)
      refine c_reg ?_ -- region 15 solvem.go:116
      refine wl (ro_move rfl) ?_
      refine wl (ro_assign rfl) ?_
      refine wl_nil (x_then (hK10 _ _ ?_))
      clear hK10 K10
      refine c_ret (x_thenR (x_thenR ?_))
      refine bp_ret Tryz.results37 rfl ?_
      rw [if_pos ⟨hx0, hc99⟩]
      exact ⟨rfl, VL1, MS1, hn1, F2⟩
    · try simp only [decide_eq_true_eq, decide_eq_false_iff_not, Bool.not_eq_true', Bool.not_eq_false', Bool.not_eq_eq_eq_not, Bool.not_true, Bool.not_false, beq_iff_eq, bne_iff_ne, ne_eq, beq_eq_false_iff_ne, bne_eq_false_iff_eq, gt_iff_lt, ge_iff_le, Int.not_lt, Int.not_le] at hc99
      refine c_skip (x_then (hK8 _ _ ?_))
      clear hK8 K8
      refine forget [(2, _)] ⟨rfl, trivial⟩ (fun e => ?_)
      refine c_seq (fun K11 hK11 => ?_)
      refine c_reg ?_ -- region 16 solvem.go:118
      refine wl (ro_move rfl) ?_
      refine wl (ro_indexAddr (et := 127) (k := 3) rfl rfl se_90 rfl (Nat.succ_pos _)) ?_
      refine wl (ro_fieldAddr (k := 1) rfl fo_127_1) ?_
      refine wl (ro_loadB rfl sc_3 (hBl1) ((by simpa using h1))) ?_
      refine wl (ro_assign rfl) ?_
      refine wl_nil (x_then (hK11 _ _ ?_))
      clear hK11 K11
      refine c_ret (x_thenR ?_)
      refine bp_ret Tryz.results37 rfl ?_
      rw [if_neg (by omega)]
      exact ⟨rfl, VL1, MS1, hn1, F2⟩
  · skip
    refine c_reg ?_ -- region 14 solvem.go:115
    refine wl (ro_move rfl) ?_
    refine wl (ro_cmp (r := false) rfl rfl (by simp; omega)) ?_
    refine wl (ro_move rfl) ?_
    refine wlg_no rfl ?_
    refine wlg_no rfl ?_
    refine wlg_no rfl ?_
    refine wlg_no rfl ?_
    refine wlg_no rfl ?_
    refine wlg_no rfl ?_
    refine wl (ro_pick rfl rfl rfl) ?_
    refine wl_nil (x_then (hK9 _ _ ?_))
    clear hK9 K9
    refine wc_condF rfl ?_
    refine c_skip (x_then (hK8 _ _ ?_))
    clear hK8 K8
    refine forget [(2, _)] ⟨rfl, trivial⟩ (fun e => ?_)
    refine c_seq (fun K12 hK12 => ?_)
    refine c_reg ?_ -- region 16 solvem.go:118
    refine wl (ro_move rfl) ?_
    refine wl (ro_indexAddr (et := 127) (k := 3) rfl rfl se_90 rfl (Nat.succ_pos _)) ?_
    refine wl (ro_fieldAddr (k := 1) rfl fo_127_1) ?_
    refine wl (ro_loadB rfl sc_3 (hBl1) ((by simpa using h1))) ?_
    refine wl (ro_assign rfl) ?_
    refine wl_nil (x_then (hK12 _ _ ?_))
    clear hK12 K12
    refine c_ret (x_thenR ?_)
    refine bp_ret Tryz.results37 rfl ?_
    rw [if_neg (by omega)]
    exact ⟨rfl, VL1, MS1, hn1, F2⟩

end Go.Proofs.Qxb6500569aGreat
