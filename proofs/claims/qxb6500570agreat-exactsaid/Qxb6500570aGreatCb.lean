import Derived.Test.Qxb6500570aGreatCa
/- The model's reader: nodes. -/
namespace Go.Proofs.Qxb6500570aGreat
set_option linter.unusedVariables false
set_option linter.unusedSimpArgs false

theorem isRange174 {w : World} {pb n0 : Nat} {s : List UInt8} {p x : Nat} {ar : List Nd} {bad : Bool} (h : MR w pb n0 s p ar bad) (hx : x < ar.length) :
    Ret Tryz.prog 174 [ptr pb, i64c x] w (fun v w' => v = .bool (isRng ar x) ∧ Fram none' w w') := by
  have hF : Fram none' w w := Fram.refl _ _
  obtain ⟨V, er, at', M, hbad⟩ := h
  obtain ⟨g, cap, l, rfl, hG, h1, h2, h3, h4⟩ := M.own.pos (by omega)
  have hB := M.blk
  have hx0 : l[0 + x * 13 + 0]? = some (icv ar[x].k) := by
    have := rws_get (enc := ndc) ndc_len (List.getElem?_eq_getElem hx) (j := 0) (by omega)
    rw [← h4, List.getElem?_take] at this
    rw [if_pos (by omega)] at this
    rw [Nat.zero_add]
    exact this
  have hr : isRng ar x = decide (ar[x].k = 4) := by unfold isRng; rw [List.getElem?_eq_getElem hx]
  have hl24 := M.l24
  refine ret_of Tryz.func174 rfl Tryz.ntmps174 rfl ?_
  refine c_seq (fun K1 hK1 => ?_)
  refine c_reg ?_ -- region 0 formm.go:242
  refine wl (ro_assign rfl) ?_
  refine wl_nil (x_then (hK1 _ _ ?_))
  clear hK1 K1
  refine forget [(0, _), (1, _)] ⟨rfl, rfl, trivial⟩ (fun e => ?_)
  refine c_seq (fun K2 hK2 => ?_)
  refine c_reg ?_ -- region 1 formm.go:242
  refine wl (ro_move rfl) ?_
  refine wl (ro_cmp (r := true) rfl rfl (congrArg some (decide_eq_true (by omega)))) ?_
  refine wl (ro_move rfl) ?_
  refine wlg_yes rfl (ro_move rfl) ?_
  refine wlg_yes rfl (ro_move rfl) ?_
  refine wlg_yes rfl (ro_nilCheck rfl) ?_
  refine wlg_yes rfl (ro_fieldAddr (k := 2) rfl fo_168_2) ?_
  refine wlg_yes rfl (ro_loadB rfl sc_78 (hB) (rfl)) ?_
  refine wlg_yes rfl (ro_lenL rfl se_78) ?_
  refine wlg_yes rfl (ro_cmp (r := true) rfl rfl (congrArg some (decide_eq_true (by omega)))) ?_
  refine wl (ro_pick rfl rfl rfl) ?_
  refine wl (ro_move rfl) ?_
  refine wlg_yes rfl (ro_move rfl) ?_
  refine wlg_yes rfl (ro_nilCheck rfl) ?_
  refine wlg_yes rfl (ro_fieldAddr (k := 2) rfl fo_168_2) ?_
  refine wlg_yes rfl (ro_loadB rfl sc_78 (hB) (rfl)) ?_
  refine wlg_yes rfl (ro_move rfl) ?_
  refine wlg_yes rfl (ro_indexAddr (et := 143) (k := 13) rfl rfl se_78 (rfl) (hx)) ?_
  refine wlg_yes rfl (ro_fieldAddr (k := 0) rfl fo_143_0) ?_
  refine wlg_yes rfl (ro_loadB rfl sc_3 (hG) (hx0)) ?_
  refine wlg_yes rfl (ro_cmp (r := decide (ar[x].k = 4)) rfl rfl (congrArg some (by by_cases h : ar[x].k = 4 <;> simp [h]))) ?_
  refine wl (ro_pick rfl rfl rfl) ?_
  refine wl (ro_assign rfl) ?_
  refine wl_nil (x_then (hK2 _ _ ?_))
  clear hK2 K2
  refine c_ret ?_
  refine bp_ret Tryz.results174 rfl ?_
  exact ⟨by rw [hr]; rfl, hF⟩

set_option maxHeartbeats 4000000 in
theorem add175 {w : World} {pb n0 : Nat} {s : List UInt8} {p : Nat} {ar : List Nd} {bad : Bool} {x : Nd} (h : MR w pb n0 s p ar bad) :
    Ret Tryz.prog 175 [ptr pb, .agg (ndc x).toArray] w (fun v w' => v = icv (addX bad ar x).2.2 ∧ MR w' pb n0 s p (addX bad ar x).2.1 (addX bad ar x).1 ∧ Fram (fre n0) w w') := by
  have hF : Fram (fre n0) w w := Fram.refl _ _
  obtain ⟨V, er, at', M, hbad⟩ := h
  have hB := M.blk
  have hon := M.own
  have hlo := M.lo
  have hm : fre n0 pb := M.lo
  have hl24 := M.l24
  have hsz : n0 ≤ w.heap.size := Nat.le_trans hlo (Nat.le_of_lt hB.lt)
  obtain ⟨aV, cV, rfl⟩ := hon.form
  refine ret_of Tryz.func175 rfl Tryz.ntmps175 rfl ?_
  refine c_seq (fun K1 hK1 => ?_)
  refine c_reg ?_ -- region 0 formm.go:64
  refine wl_box (cs := (ndc x)) rfl rfl (fun xb w1 hbxb hX F1 => ?_)
  have hbsxb := Nat.le_trans hF.size hbxb
  have hnepbxb : pb < xb := Nat.lt_of_lt_of_le hB.lt hbxb
  replace hF := hF.thenDrew.thenN F1
  replace hB := F1.blkN hB
  have hxn : ∀ b, (Value.slice aV ar.length cV).ownBlock = some b → b ≠ xb := fun b hb he ↦ by have := hon.lt hb; omega
  replace hon := hon.fram F1 (fun _ _ h ↦ h)
  replace M : MRV w1 pb n0 s p ar (.slice aV ar.length cV) er at' := ⟨hB, hon, M.lo, M.vlo, M.l24, M.pl, M.sl40⟩
  refine wl (ro_assign rfl) ?_
  refine wl_nil (x_then (hK1 _ _ ?_))
  clear hK1 K1
  refine c_seq (fun K2 hK2 => ?_)
  refine c_seq (fun K3 hK3 => ?_)
  have hcs : er ≠ 0 ∨ (er = 0 ∧ ¬ ar.length < 24) ∨ (er = 0 ∧ ar.length < 24) := by
    by_cases h : er = 0
    · by_cases h2 : ar.length < 24
      · exact .inr (.inr ⟨h, h2⟩)
      · exact .inr (.inl ⟨h, h2⟩)
    · exact .inl h
  rcases hcs with h0 | ⟨rfl, h24⟩ | ⟨rfl, h24⟩
  · skip
    have hb : bad = true := by rw [← hbad]; simpa using h0
    refine c_reg ?_ -- region 1 formm.go:65
    refine wl (ro_move rfl) ?_
    refine wl (ro_nilCheck rfl) ?_
    refine wl (ro_fieldAddr (k := 3) rfl fo_168_3) ?_
    refine wl (ro_loadB rfl sc_26 (hB) (rfl)) ?_
    refine wl (ro_cmp (r := true) rfl rfl (congrArg some (by simpa using h0))) ?_
    refine wl_nil (x_then (hK3 _ _ ?_))
    clear hK3 K3
    refine wc_condT rfl ?_
    refine c_seq (fun K4 hK4 => ?_)
    refine c_reg ?_ -- region 2 formm.go:66
    refine wl (ro_assign rfl) ?_
    refine wl_nil (x_then (hK4 _ _ ?_))
    clear hK4 K4
    refine c_ret (x_thenR ?_)
    refine bp_ret Tryz.results175 rfl ?_
    rw [hb]; exact ⟨rfl, ⟨_, er, at', M, (by rw [hbad, hb]; rfl)⟩, hF⟩
  · skip
    have hb : bad = false := by rw [← hbad]; rfl
    refine c_reg ?_ -- region 1 formm.go:65
    refine wl (ro_move rfl) ?_
    refine wl (ro_nilCheck rfl) ?_
    refine wl (ro_fieldAddr (k := 3) rfl fo_168_3) ?_
    refine wl (ro_loadB rfl sc_26 (hB) (rfl)) ?_
    refine wl (ro_cmp (r := false) rfl rfl rfl) ?_
    refine wl_nil (x_then (hK3 _ _ ?_))
    clear hK3 K3
    refine wc_condF rfl ?_
    refine c_skip (x_then (hK2 _ _ ?_))
    clear hK2 K2
    refine c_seq (fun K5 hK5 => ?_)
    refine c_seq (fun K6 hK6 => ?_)
    refine c_reg ?_ -- region 3 formm.go:68
    refine wl (ro_move rfl) ?_
    refine wl (ro_nilCheck rfl) ?_
    refine wl (ro_fieldAddr (k := 2) rfl fo_168_2) ?_
    refine wl (ro_loadB rfl sc_78 (hB) (rfl)) ?_
    refine wl (ro_lenL rfl se_78) ?_
    refine wl (ro_cmp (r := true) rfl rfl (congrArg some (decide_eq_true (by omega)))) ?_
    refine wl_nil (x_then (hK6 _ _ ?_))
    clear hK6 K6
    refine wc_condT rfl ?_
    refine c_seq (fun K7 hK7 => ?_)
    refine c_reg ?_ -- region 4 formm.go:69
    refine wl (ro_move rfl) ?_
    refine wl (ro_move rfl) ?_
    refine wl (ro_nilCheck rfl) ?_
    refine wl (ro_fieldAddr (k := 1) rfl fo_168_1) ?_
    refine wl (ro_loadB rfl sc_3 (hB) (rfl)) ?_
    refine wl_call rfl en_133 (failM (x := 7) (by decide) ⟨_, _, _, M, rfl⟩) ?_
    rintro _ u9 ⟨rfl, M9, G9⟩
    replace hF := hF.transG G9 (by intro k hk h; simp only [one, none', fre] at h ⊢ <;> omega)
    replace hX := G9.blkF hX (by intro h; simp only [one, none', fre] at h <;> omega)
    refine wl (ro_assign rfl) ?_
    refine wl_nil (x_then (hK7 _ _ ?_))
    clear hK7 K7
    refine c_ret (x_thenR ?_)
    refine bp_ret Tryz.results175 rfl ?_
    rw [hb, addX_ge h24]; exact ⟨rfl, M9, hF⟩
  · skip
    have hb : bad = false := by rw [← hbad]; rfl
    refine c_reg ?_ -- region 1 formm.go:65
    refine wl (ro_move rfl) ?_
    refine wl (ro_nilCheck rfl) ?_
    refine wl (ro_fieldAddr (k := 3) rfl fo_168_3) ?_
    refine wl (ro_loadB rfl sc_26 (hB) (rfl)) ?_
    refine wl (ro_cmp (r := false) rfl rfl rfl) ?_
    refine wl_nil (x_then (hK3 _ _ ?_))
    clear hK3 K3
    refine wc_condF rfl ?_
    refine c_skip (x_then (hK2 _ _ ?_))
    clear hK2 K2
    refine c_seq (fun K8 hK8 => ?_)
    refine c_seq (fun K9 hK9 => ?_)
    refine c_reg ?_ -- region 3 formm.go:68
    refine wl (ro_move rfl) ?_
    refine wl (ro_nilCheck rfl) ?_
    refine wl (ro_fieldAddr (k := 2) rfl fo_168_2) ?_
    refine wl (ro_loadB rfl sc_78 (hB) (rfl)) ?_
    refine wl (ro_lenL rfl se_78) ?_
    refine wl (ro_cmp (r := false) rfl rfl (congrArg some (decide_eq_false (by omega)))) ?_
    refine wl_nil (x_then (hK9 _ _ ?_))
    clear hK9 K9
    refine wc_condF rfl ?_
    refine c_skip (x_then (hK8 _ _ ?_))
    clear hK8 K8
    refine forget [(0, _), (3, _)] ⟨rfl, rfl, trivial⟩ (fun e => ?_)
    refine c_seq (fun K10 hK10 => ?_)
    refine c_piL 10 [(0, false), (1, false), (2, false), (3, false), (4, false), (5, false), (6, true), (7, true), (8, false), (9, false)] (fun w' => Blk w'.heap pb (rdl s p (.slice aV ar.length cV) 0 at') 168 ∧ Blk w'.heap xb (ndc x) 143) mixed (by kernel_rfl) rfl (by kernel_rfl) (po_then (po_bp)) (⟨hB, hX⟩) ?_ -- region 5 formm.go:71
    refine ql_ro rfl (fun w hS => ro_move rfl) ?_
    refine ql_ro rfl (fun w hS => ro_move rfl) ?_
    refine ql_ro rfl (fun w hS => ro_nilCheck rfl) ?_
    refine ql_ro rfl (fun w hS => ro_fieldAddr (k := 2) rfl fo_168_2) ?_
    refine ql_ro rfl (fun w hS => ro_loadB rfl sc_78 (hS.1) (rfl)) ?_
    refine ql_ro rfl (fun w hS => ro_loadAggB rfl ag_143 (hS.2) (rfl) (rfl)) ?_
    skip
    have hwn : ∀ b, (Value.slice aV ar.length cV).ownBlock = some b → b ≠ pb := fun b hb => hon.neblk hB (by decide) b hb
    have hwa : ∀ b, (Value.slice aV ar.length cV).ownBlock = some b → b ≠ xb := fun b hb he => hxn b hb he
    refine ql_bsapp (w := { w1 with drawn := w1.drawn + 1 }) (cs := ndc x) rfl rfl rfl rfl rfl rfl se_78 zx_143 by_143 rfl rfl (ndc_len x) (ndc_cells x) hon (by omega) (by omega) (fun w2 F ↦ ⟨F.blkN hB, F.blkN hX⟩) (fun w2 F ↦ ⟨F.blkF hB (fun h => hwn _ h rfl), F.blkF hX (fun h => hwa _ h rfl)⟩) (fun VX w3 hon3 F3 hnb3 ↦ ?_)
    replace hB := F3.blkF hB (fun h => hwn _ h rfl)
    replace hX := F3.blkF hX (fun h => hwa _ h rfl)
    replace hF := hF.transG F3 (fun k _ h => M.vlo k h)
    obtain ⟨aX, cX, rfl⟩ := hon3.form
    have hB0 := hB
    refine ql_ro rfl (fun w hS => ro_nilCheck rfl) ?_
    refine ql_ro rfl (fun w hS => ro_fieldAddr (k := 2) rfl fo_168_2) ?_
    refine ql_put rfl rfl rfl rfl sz_78 hB ((by simp)) ((show _ = rdl s p (.slice aX (ar.length + 1) cX) 0 at' from rfl)) (fun w2 hB F2 => ?_)
    replace hF := hF.thenDrew.thenO F2 (by first | exact .inr (by omega) | exact .inl rfl | exact .inl (by assumption))
    replace hX := F2.blkO hX (by omega)
    have hon4 := hon3.fram F2 (fun b hb h ↦ hon3.neblk hB0 (by decide) b hb h)
    refine x_then (hK10 _ _ ?_)
    clear hK10 K10
    refine forget [(0, _)] ⟨rfl, trivial⟩ (fun e => ?_)
    refine c_seq (fun K11 hK11 => ?_)
    refine c_reg ?_ -- region 6 formm.go:72
    refine wl (ro_move rfl) ?_
    refine wl (ro_nilCheck rfl) ?_
    refine wl (ro_fieldAddr (k := 2) rfl fo_168_2) ?_
    refine wl (ro_loadB rfl sc_78 (hB) (rfl)) ?_
    refine wl (ro_lenL rfl se_78) ?_
    refine wl (ro_arith (r := (ar.length : Int)) rfl rfl (congrArg some (by show ((ar.length + 1 : Nat) : Int) - 1 = _; omega)) (Go.IntWalk.i64_in _ (by omega))) ?_
    refine wl (ro_assign rfl) ?_
    refine wl_nil (x_then (hK11 _ _ ?_))
    clear hK11 K11
    refine c_ret ?_
    refine bp_ret Tryz.results175 rfl ?_
    rw [hb, addX_lt h24]
    refine ⟨rfl, ⟨_, 0, at', ⟨hB, by rw [rws_app, rws_one, List.length_append]; exact hon4, M.lo, ?_, by rw [List.length_append]; show ar.length + 1 ≤ 24; omega, M.pl, M.sl40⟩, rfl⟩, hF⟩
    intro b hb
    rcases hnb3 b hb with h | h
    · exact M.vlo b h
    · have h5 : w1.heap.size ≤ b := h
      have := F1.size
      omega

end Go.Proofs.Qxb6500570aGreat
