import Derived.Test.Qxb6500568aGreatDoorTt
/- The law: one step of a script. -/
namespace Go.Proofs.Qxb6500568aGreatDoor
open Ieee
set_option linter.unusedVariables false
set_option linter.unusedSimpArgs false
set_option linter.unusedSectionVars false

section
variable {w0 w w' w1 w2 u1 u2 : World} {n0 id : Nat} {W W' : Nat → Nat} {Lx Lm Ld Ax Am Ad : List Nat} {Li : List (Str × Str)} {Vx Vm Vd Vi V' : Value} {wb c cb mc db i : Nat} {y : Str × Str}
theorem WS.newXM (h : WS w0 w W wb Vx Vm Vd Vi Lx Lm Ld Li) (G1 : Fram none' w u1) (hX : TEn w0.heap.size cb u1 (fun b => w.heap.size ≤ b)) (G2 : Fram none' u1 u2) (hM : MEn mc u2 (fun b => u1.heap.size ≤ b)) :
    ∃ W2, WEn w0.heap.size u2 W2 (Lx ++ [cb]) (Lm ++ [mc]) Ld ∧ WO w0.heap.size u2 W2 wb Vx Vm Vd Vi Lx Lm Ld Li ∧ Fram none' w0 u2 :=
  ⟨_, (h.e.newX G1 hX).newM G2 hM, h.o.far (G1.trans G2) (fun _ _ _ q => q) (fun b hb => by rw [owU_lt (by have := G1.size; omega), owU_lt hb]), (h.f.trans G1).trans G2⟩
theorem WS.newD1 (h : WS w0 w W wb Vx Vm Vd Vi Lx Lm Ld Li) (G1 : Fram none' w u1) (hD : DEn db u1 (fun b => w.heap.size ≤ b)) :
    ∃ W2, WEn w0.heap.size u1 W2 Lx Lm (Ld ++ [db]) ∧ WO w0.heap.size u1 W2 wb Vx Vm Vd Vi Lx Lm Ld Li ∧ Fram none' w0 u1 :=
  ⟨_, h.e.newD G1 hD, h.o.far G1 (fun _ _ _ q => q) (fun b hb => owU_lt hb), h.f.trans G1⟩
theorem appX3 (e : WEn w0.heap.size w W Ax Am Ad) (o : WO w0.heap.size w W wb Vx Vm Vd Vi Lx Lm Ld Li) (f : Fram none' w0 w) (own : Own w1.heap V' 22 1 (Lx.length + 1) (Lx.map ptr ++ [ptr c])) (g : Fram (own1 Vx) w w1) (nb : nob Vx V' w) (f2 : Fram (one wb) w1 w2) (hB : Blk w2.heap wb [V', Vm, Vd, Vi] 68) :
    ∃ W', WEn w0.heap.size w2 W' Ax Am Ad ∧ WO w0.heap.size w2 W' wb V' Vm Vd Vi (Lx ++ [c]) Lm Ld Li ∧ Fram none' w0 w2 := by
  obtain ⟨o3, FF⟩ := o.appX e.n0 own g nb f2 hB
  refine ⟨_, e.far FF (fun b _ q z => q ?_) (fun b hb => owU_lt hb), o3, f.trans' FF (fun b hb z => ?_)⟩
  · rcases z with z | z
    · rw [z]; exact o.zb.1
    · exact (o.zx b z).1
  · rcases z with z | z
    · have := o.zb.2; omega
    · have := (o.zx b z).2; omega
theorem appM3 (e : WEn w0.heap.size w W Ax Am Ad) (o : WO w0.heap.size w W wb Vx Vm Vd Vi Lx Lm Ld Li) (f : Fram none' w0 w) (own : Own w1.heap V' 24 1 (Lm.length + 1) (Lm.map ptr ++ [ptr c])) (g : Fram (own1 Vm) w w1) (nb : nob Vm V' w) (f2 : Fram (one wb) w1 w2) (hB : Blk w2.heap wb [Vx, V', Vd, Vi] 68) :
    ∃ W', WEn w0.heap.size w2 W' Ax Am Ad ∧ WO w0.heap.size w2 W' wb Vx V' Vd Vi Lx (Lm ++ [c]) Ld Li ∧ Fram none' w0 w2 := by
  obtain ⟨o3, FF⟩ := o.appM e.n0 own g nb f2 hB
  refine ⟨_, e.far FF (fun b _ q z => q ?_) (fun b hb => owU_lt hb), o3, f.trans' FF (fun b hb z => ?_)⟩
  · rcases z with z | z
    · rw [z]; exact o.zb.1
    · exact (o.zm b z).1
  · rcases z with z | z
    · have := o.zb.2; omega
    · have := (o.zm b z).2; omega
theorem appD3 (e : WEn w0.heap.size w W Ax Am Ad) (o : WO w0.heap.size w W wb Vx Vm Vd Vi Lx Lm Ld Li) (f : Fram none' w0 w) (own : Own w1.heap V' 29 1 (Ld.length + 1) (Ld.map ptr ++ [ptr c])) (g : Fram (own1 Vd) w w1) (nb : nob Vd V' w) (f2 : Fram (one wb) w1 w2) (hB : Blk w2.heap wb [Vx, Vm, V', Vi] 68) :
    ∃ W', WEn w0.heap.size w2 W' Ax Am Ad ∧ WO w0.heap.size w2 W' wb Vx Vm V' Vi Lx Lm (Ld ++ [c]) Li ∧ Fram none' w0 w2 := by
  obtain ⟨o3, FF⟩ := o.appD e.n0 own g nb f2 hB
  refine ⟨_, e.far FF (fun b _ q z => q ?_) (fun b hb => owU_lt hb), o3, f.trans' FF (fun b hb z => ?_)⟩
  · rcases z with z | z
    · rw [z]; exact o.zb.1
    · exact (o.zd b z).1
  · rcases z with z | z
    · have := o.zb.2; omega
    · have := (o.zd b z).2; omega
theorem appI3 (e : WEn w0.heap.size w W Ax Am Ad) (o : WO w0.heap.size w W wb Vx Vm Vd Vi Lx Lm Ld Li) (f : Fram none' w0 w) (own : Own w1.heap V' 139 2 (Li.length + 1) (rws imc Li ++ imc y)) (g : Fram (own1 Vi) w w1) (nb : nob Vi V' w) (f2 : Fram (one wb) w1 w2) (hB : Blk w2.heap wb [Vx, Vm, Vd, V'] 68) :
    ∃ W', WEn w0.heap.size w2 W' Ax Am Ad ∧ WO w0.heap.size w2 W' wb Vx Vm Vd V' Lx Lm Ld (Li ++ [y]) ∧ Fram none' w0 w2 := by
  obtain ⟨o3, FF⟩ := o.appI e.n0 own g nb f2 hB
  refine ⟨_, e.far FF (fun b _ q z => q ?_) (fun b hb => owU_lt hb), o3, f.trans' FF (fun b hb z => ?_)⟩
  · rcases z with z | z
    · rw [z]; exact o.zb.1
    · exact (o.zi b z).1
  · rcases z with z | z
    · have := o.zb.2; omega
    · have := (o.zi b z).2; omega
end
abbrev opl (k a b c : Int) (s t : Str) : List Value := [icv k, icv a, icv b, icv c, S s, S t]
theorem opl_cells (k a b c : Int) (s t : Str) : ∀ u ∈ opl k a b c s t, u.oneCell' = true := by
  intro u hu
  simp only [opl, List.mem_cons, List.not_mem_nil, or_false] at hu
  rcases hu with rfl | rfl | rfl | rfl | rfl | rfl <;> rfl
set_option maxHeartbeats 32000000 in
theorem step26 {w0 w : World} {wb N : Nat} {k a b c : Int} {s t : Str} (I : WI w0 w wb N) (hN : N ≤ 2000000000) (ha1 : -9223372036854775808 ≤ a) (ha2 : a ≤ 9223372036854775807) (hb1 : -9223372036854775808 ≤ b) (hb2 : b ≤ 9223372036854775807) (hc2 : c ≤ 9223372036854775807) :
    Ret Tryz.prog 26 [ptr wb, .agg (opl k a b c s t).toArray] w (fun v w' => v = .bool true ∧ WI w0 w' wb (N + 1)) := by
  obtain ⟨W, Vx, Vm, Vd, Vi, Lx, Lm, Ld, Li, h, hNL⟩ := I
  obtain ⟨ax, cx, rfl⟩ := h.o.ox.form
  obtain ⟨am, cm, rfl⟩ := h.o.om.form
  obtain ⟨ad, cd, rfl⟩ := h.o.od.form
  obtain ⟨ai, ci, rfl⟩ := h.o.oi.form
  have hlm := h.lm
  have hB := h.o.hB
  refine ret_of Tryz.func26 rfl Tryz.ntmps26 rfl ?_
  refine c_seq (fun K1 hK1 => ?_)
  refine c_reg ?_ -- region 0 law.go:107
  refine wl_box (cs := (opl k a b c s t)) rfl rfl (fun b3 w1 hbb3 h3 F1 => ?_)
  have hnewbb3 : wb < b3 := Nat.lt_of_lt_of_le hB.lt hbb3
  replace hB := F1.blkN hB
  replace h := h.far0 F1
  have hz3 : owU W w 0 b3 = 0 := owU_ge hbb3
  generalize owU W w 0 = W1 at h hz3
  refine wl (ro_assign rfl) ?_
  refine wl_nil (x_then (hK1 _ _ ?_))
  clear hK1 K1
  refine c_seq (fun K2 hK2 => ?_)
  refine c_seq (fun K3 hK3 => ?_)
  refine c_reg ?_ -- region 1 law.go:108
  refine wl (ro_fieldAddr (k := 0) rfl fo_61_0) ?_
  refine wl (ro_loadB rfl sc_3 (h3) (rfl)) ?_
  refine wl_nil (x_then (hK3 _ _ ?_))
  clear hK3 K3
  refine c_block ?_
  refine forget [(0, _), (3, _), (17, _)] ⟨rfl, rfl, rfl, trivial⟩ (fun e => ?_)
  refine c_seq (fun K4 hK4 => ?_)
  refine c_reg ?_ -- region 2 law.go:109
  refine wl (ro_cmp (r := decide (k = 1)) rfl rfl (congrArg some (by first | rfl | simp))) ?_
  refine wl (ro_assign rfl) ?_
  refine wl_nil (x_then (hK4 _ _ ?_))
  clear hK4 K4
  refine wc_cond rfl (fun hc18 => ?_) (fun hc18 => ?_)
  · try simp only [decide_eq_true_eq, decide_eq_false_iff_not, Bool.not_eq_true', Bool.not_eq_false', Bool.not_eq_eq_eq_not, Bool.not_true, Bool.not_false, beq_iff_eq, bne_iff_ne, ne_eq, beq_eq_false_iff_ne, bne_eq_false_iff_eq, gt_iff_lt, ge_iff_le, Int.not_lt, Int.not_le] at hc18
    refine c_seq (fun K5 hK5 => ?_)
    refine c_reg ?_ -- region 3 law.go:110
    refine wl_call rfl en_5 (TEn.new h.e.n0) ?_
    rintro _ u1 ⟨cb, rfl, hX, G1⟩
    replace hB := G1.blkN hB
    refine wl (ro_assign rfl) ?_
    refine wl_nil (x_then (hK5 _ _ ?_))
    clear hK5 K5
    refine forget [(0, _), (5, _)] ⟨rfl, rfl, trivial⟩ (fun e => ?_)
    refine c_seq (fun K6 hK6 => ?_)
    refine c_reg ?_ -- region 4 law.go:111
    refine wl_call rfl en_6 (MEn.new) ?_
    rintro _ u2 ⟨mc, rfl, hM, G2⟩
    replace hB := G2.blkN hB
    obtain ⟨W2, e2, o2, f2⟩ := h.newXM G1 hX G2 hM
    refine wl (ro_assign rfl) ?_
    refine wl_nil (x_then (hK6 _ _ ?_))
    clear hK6 K6
    refine forget [(0, _), (5, _), (6, _)] ⟨rfl, rfl, rfl, trivial⟩ (fun e => ?_)
    refine c_seq (fun K7 hK7 => ?_)
    refine c_reg ?_ -- region 5 law.go:112
    refine wl (ro_move rfl) ?_
    refine wl (ro_move rfl) ?_
    refine wl (ro_nilCheck rfl) ?_
    refine wl (ro_fieldAddr (k := 0) rfl fo_68_0) ?_
    refine wl (ro_loadB rfl sc_63 (hB) (rfl)) ?_
    refine wl (ro_move rfl) ?_
    skip
    refine wl_bsapp (cs := [ptr cb]) rfl rfl rfl rfl se_63 zx_22 by_22 rfl rfl rfl (by simp [ptr, Value.oneCell']) o2.ox (by omega) (by omega) (fun V' u3 ox' G3 nbx ↦ ?_)
    replace hB := G3.blkF hB (fun q => o2.ox.neblk o2.hB (by decide) wb q rfl)
    obtain ⟨a1, c1, rfl⟩ := ox'.form
    refine wl (ro_nilCheck rfl) ?_
    refine wl (ro_fieldAddr (k := 0) rfl fo_68_0) ?_
    refine wl_put rfl rfl rfl sz_63 hB ((by simp)) (rfl) (fun w2 hB F2 => ?_)
    obtain ⟨W3, e3, o3, f3⟩ := appX3 e2 o2 f2 ox' G3 nbx F2 hB
    refine wl_nil (x_then (hK7 _ _ ?_))
    clear hK7 K7
    refine forget [(0, _), (6, _)] ⟨rfl, rfl, trivial⟩ (fun e => ?_)
    refine c_seq (fun K8 hK8 => ?_)
    refine c_reg ?_ -- region 6 law.go:113
    refine wl (ro_move rfl) ?_
    refine wl (ro_move rfl) ?_
    refine wl (ro_nilCheck rfl) ?_
    refine wl (ro_fieldAddr (k := 1) rfl fo_68_1) ?_
    refine wl (ro_loadB rfl sc_64 (hB) (rfl)) ?_
    refine wl (ro_move rfl) ?_
    skip
    refine wl_bsapp (cs := [ptr mc]) rfl rfl rfl rfl se_64 zx_24 by_24 rfl rfl rfl (by simp [ptr, Value.oneCell']) o3.om (by omega) (by omega) (fun V2' u5 om' G5 nbm ↦ ?_)
    replace hB := G5.blkF hB (fun q => o3.om.neblk o3.hB (by decide) wb q rfl)
    obtain ⟨a2, c2, rfl⟩ := om'.form
    refine wl (ro_nilCheck rfl) ?_
    refine wl (ro_fieldAddr (k := 1) rfl fo_68_1) ?_
    refine wl_put rfl rfl rfl sz_64 hB ((by simp)) (rfl) (fun w3 hB F3 => ?_)
    obtain ⟨W4, e4, o4, f4⟩ := appM3 e3 o3 f3 om' G5 nbm F3 hB
    refine wl_nil (x_then (hK8 _ _ ?_))
    clear hK8 K8
    refine forget [] trivial (fun e => ?_)
    refine c_seq (fun K9 hK9 => ?_)
    refine c_reg ?_ -- region 7 law.go:114
    refine wl (ro_assign rfl) ?_
    refine wl_nil (x_then (hK9 _ _ ?_))
    clear hK9 K9
    refine c_ret (x_blkR (x_thenR ?_))
    refine bp_ret Tryz.results26 rfl ?_
    exact ⟨rfl, _, _, _, _, _, _, _, _, _, ⟨e4, o4, f4, by simp [hlm], h.im, h.gv⟩, by simp; omega⟩
  · try simp only [decide_eq_true_eq, decide_eq_false_iff_not, Bool.not_eq_true', Bool.not_eq_false', Bool.not_eq_eq_eq_not, Bool.not_true, Bool.not_false, beq_iff_eq, bne_iff_ne, ne_eq, beq_eq_false_iff_ne, bne_eq_false_iff_eq, gt_iff_lt, ge_iff_le, Int.not_lt, Int.not_le] at hc18
    refine c_seq (fun K10 hK10 => ?_)
    refine c_reg ?_ -- region 8 law.go:115
    refine wl (ro_cmp (r := decide (k = 2)) rfl rfl (congrArg some (by first | rfl | simp))) ?_
    refine wl (ro_assign rfl) ?_
    refine wl_nil (x_then (hK10 _ _ ?_))
    clear hK10 K10
    refine wc_cond rfl (fun hc42 => ?_) (fun hc42 => ?_)
    · try simp only [decide_eq_true_eq, decide_eq_false_iff_not, Bool.not_eq_true', Bool.not_eq_false', Bool.not_eq_eq_eq_not, Bool.not_true, Bool.not_false, beq_iff_eq, bne_iff_ne, ne_eq, beq_eq_false_iff_ne, bne_eq_false_iff_eq, gt_iff_lt, ge_iff_le, Int.not_lt, Int.not_le] at hc42
      refine c_seq (fun K11 hK11 => ?_)
      refine c_reg ?_ -- region 9 law.go:116
      refine wl_call rfl en_9 (DEn.new) ?_
      rintro _ u1 ⟨db, rfl, hD, G1⟩
      replace hB := G1.blkN hB
      obtain ⟨W2, e2, o2, f2⟩ := h.newD1 G1 hD
      refine wl (ro_assign rfl) ?_
      refine wl_nil (x_then (hK11 _ _ ?_))
      clear hK11 K11
      refine forget [(0, _), (7, _)] ⟨rfl, rfl, trivial⟩ (fun e => ?_)
      refine c_seq (fun K12 hK12 => ?_)
      refine c_reg ?_ -- region 10 law.go:117
      refine wl (ro_move rfl) ?_
      refine wl (ro_move rfl) ?_
      refine wl (ro_nilCheck rfl) ?_
      refine wl (ro_fieldAddr (k := 2) rfl fo_68_2) ?_
      refine wl (ro_loadB rfl sc_65 (hB) (rfl)) ?_
      refine wl (ro_move rfl) ?_
      skip
      refine wl_bsapp (cs := [ptr db]) rfl rfl rfl rfl se_65 zx_29 by_29 rfl rfl rfl (by simp [ptr, Value.oneCell']) o2.od (by omega) (by omega) (fun V' u3 od' G3 nbd ↦ ?_)
      replace hB := G3.blkF hB (fun q => o2.od.neblk o2.hB (by decide) wb q rfl)
      obtain ⟨a1, c1, rfl⟩ := od'.form
      refine wl (ro_nilCheck rfl) ?_
      refine wl (ro_fieldAddr (k := 2) rfl fo_68_2) ?_
      refine wl_put rfl rfl rfl sz_65 hB ((by simp)) (rfl) (fun w4 hB F4 => ?_)
      obtain ⟨W3, e3, o3, f3⟩ := appD3 e2 o2 f2 od' G3 nbd F4 hB
      refine wl_nil (x_then (hK12 _ _ ?_))
      clear hK12 K12
      refine forget [] trivial (fun e => ?_)
      refine c_seq (fun K13 hK13 => ?_)
      refine c_reg ?_ -- region 11 law.go:118
      refine wl (ro_assign rfl) ?_
      refine wl_nil (x_then (hK13 _ _ ?_))
      clear hK13 K13
      refine c_ret (x_blkR (x_thenR ?_))
      refine bp_ret Tryz.results26 rfl ?_
      exact ⟨rfl, _, _, _, _, _, _, _, _, _, ⟨e3, o3, f3, hlm, h.im, h.gv⟩, by simp; omega⟩
    · try simp only [decide_eq_true_eq, decide_eq_false_iff_not, Bool.not_eq_true', Bool.not_eq_false', Bool.not_eq_eq_eq_not, Bool.not_true, Bool.not_false, beq_iff_eq, bne_iff_ne, ne_eq, beq_eq_false_iff_ne, bne_eq_false_iff_eq, gt_iff_lt, ge_iff_le, Int.not_lt, Int.not_le] at hc42
      refine c_seq (fun K14 hK14 => ?_)
      refine c_reg ?_ -- region 12 law.go:119
      refine wl (ro_cmp (r := decide (k = 5)) rfl rfl (congrArg some (by first | rfl | simp))) ?_
      refine wl (ro_assign rfl) ?_
      refine wl_nil (x_then (hK14 _ _ ?_))
      clear hK14 K14
      refine wc_cond rfl (fun hc55 => ?_) (fun hc55 => ?_)
      · try simp only [decide_eq_true_eq, decide_eq_false_iff_not, Bool.not_eq_true', Bool.not_eq_false', Bool.not_eq_eq_eq_not, Bool.not_true, Bool.not_false, beq_iff_eq, bne_iff_ne, ne_eq, beq_eq_false_iff_ne, bne_eq_false_iff_eq, gt_iff_lt, ge_iff_le, Int.not_lt, Int.not_le] at hc55
        refine c_seq (fun K15 hK15 => ?_)
        refine c_seq (fun K16 hK16 => ?_)
        rcases Nat.eq_zero_or_pos Ld.length with hdz | hdp
        · skip
          refine c_reg ?_ -- region 13 law.go:120
          refine wl (ro_move rfl) ?_
          refine wl (ro_nilCheck rfl) ?_
          refine wl (ro_fieldAddr (k := 2) rfl fo_68_2) ?_
          refine wl (ro_loadB rfl sc_65 (hB) (rfl)) ?_
          refine wl (ro_lenL rfl se_65) ?_
          refine wl (ro_cmp (r := true) rfl rfl (congrArg some (by simp [hdz]))) ?_
          refine wl (ro_move rfl) ?_
          refine wlg_no rfl ?_
          refine wlg_no rfl ?_
          refine wlg_no rfl ?_
          refine wlg_no rfl ?_
          refine wlg_no rfl ?_
          refine wlg_no rfl ?_
          refine wl (ro_pick rfl rfl rfl) ?_
          refine wl_nil (x_then (hK16 _ _ ?_))
          clear hK16 K16
          refine wc_condT rfl ?_
          refine c_seq (fun K17 hK17 => ?_)
          refine c_reg ?_ -- region 14 law.go:121
          refine wl (ro_assign rfl) ?_
          refine wl_nil (x_then (hK17 _ _ ?_))
          clear hK17 K17
          refine c_ret (x_thenR (x_blkR (x_thenR ?_)))
          refine bp_ret Tryz.results26 rfl ?_
          exact ⟨rfl, _, _, _, _, _, _, _, _, _, h, by omega⟩
        · skip
          refine c_reg ?_ -- region 13 law.go:120
          refine wl (ro_move rfl) ?_
          refine wl (ro_nilCheck rfl) ?_
          refine wl (ro_fieldAddr (k := 2) rfl fo_68_2) ?_
          refine wl (ro_loadB rfl sc_65 (hB) (rfl)) ?_
          refine wl (ro_lenL rfl se_65) ?_
          refine wl (ro_cmp (r := false) rfl rfl (congrArg some ((beqc Ld.length 0).trans (decide_eq_false (by omega))))) ?_
          refine wl (ro_move rfl) ?_
          refine wlg_yes rfl (ro_move rfl) ?_
          refine wlg_yes rfl (ro_nilCheck rfl) ?_
          refine wlg_yes rfl (ro_fieldAddr (k := 3) rfl fo_68_3) ?_
          refine wlg_yes rfl (ro_loadB rfl sc_66 (hB) (rfl)) ?_
          refine wlg_yes rfl (ro_lenL rfl se_66) ?_
          refine wlg_yes rfl (ro_cmp (r := decide (Li.length = 0)) rfl rfl (congrArg some (beqc Li.length 0))) ?_
          refine wl (ro_pick rfl rfl rfl) ?_
          refine wl_nil (x_then (hK16 _ _ ?_))
          clear hK16 K16
          refine wc_cond rfl (fun hc70 => ?_) (fun hc70 => ?_)
          · try simp only [decide_eq_true_eq, decide_eq_false_iff_not, Bool.not_eq_true', Bool.not_eq_false', Bool.not_eq_eq_eq_not, Bool.not_true, Bool.not_false, beq_iff_eq, bne_iff_ne, ne_eq, beq_eq_false_iff_ne, bne_eq_false_iff_eq, gt_iff_lt, ge_iff_le, Int.not_lt, Int.not_le] at hc70
            refine c_seq (fun K18 hK18 => ?_)
            refine c_reg ?_ -- region 14 law.go:121
            refine wl (ro_assign rfl) ?_
            refine wl_nil (x_then (hK18 _ _ ?_))
            clear hK18 K18
            refine c_ret (x_thenR (x_blkR (x_thenR ?_)))
            refine bp_ret Tryz.results26 rfl ?_
            exact ⟨rfl, _, _, _, _, _, _, _, _, _, h, by omega⟩
          · try simp only [decide_eq_true_eq, decide_eq_false_iff_not, Bool.not_eq_true', Bool.not_eq_false', Bool.not_eq_eq_eq_not, Bool.not_true, Bool.not_false, beq_iff_eq, bne_iff_ne, ne_eq, beq_eq_false_iff_ne, bne_eq_false_iff_eq, gt_iff_lt, ge_iff_le, Int.not_lt, Int.not_le] at hc70
            have hip : 0 < Li.length := by omega
            obtain ⟨gd, cdd, ld, ed, hGd, -, -, -, t6⟩ := h.o.od.pos hdp
            injection ed with e1 e2 e3
            subst e1 e3
            obtain ⟨y0, hy0⟩ : ∃ y0, Li[0]? = some y0 := ⟨_, List.getElem?_eq_getElem hip⟩
            obtain ⟨gi, cii, li, ei, hGi, -, -, -, -, hri⟩ := RWV.at (enc := imc) (et := 139) imc_len (show RWV imc 139 2 w1 (.slice ai Li.length ci) Li 0 w1.heap.size from ⟨h.o.oi, fun _ _ => Nat.zero_le _, fun b hb => h.o.oi.lt hb⟩) hy0
            injection ei with e1 e2 e3
            subst e1 e3
            have hgd0 : W1 gd = 0 := (h.o.zd gd rfl).1
            refine c_skip (x_then (hK15 _ _ ?_))
            clear hK15 K15
            refine forget [(0, _), (3, _)] ⟨rfl, rfl, trivial⟩ (fun e => ?_)
            refine c_seq (fun K19 hK19 => ?_)
            refine c_cut (fun a' w' => ∃ (i : Nat) (y : Str × Str) (lb : Nat), Li[i]? = some y ∧ Blk w'.heap lb (imc y) 139 ∧ Fram none' w1 w' ∧ w1.heap.size ≤ lb ∧ ∃ e, a' = Fr 234 (upds e [(0, ptr wb), (3, ptr b3), (8, ptr lb)]) []) ?_ ?_
            · refine c_piF 15 11 14 [0, 1, 2, 3, 4, 5, 6, 7, 8, 9, 10] [(12, false), (13, false), (14, true)] [(11, true), (12, false), (13, false)] (fun w' => Fram none' w1 w') mixed (by kernel_rfl) rfl rfl (by kernel_rfl) po_cut (Fram.drew none' w1 _) ?_
              refine wf_ro rfl (fun w hS => ro_move rfl) ?_
              refine wf_ro rfl (fun w hS => ro_nilCheck rfl) ?_
              refine wf_ro rfl (fun w hS => ro_fieldAddr (k := 3) rfl fo_68_3) ?_
              refine wf_ro rfl (fun w hS => ro_loadB rfl sc_66 (hS.blkN hB) rfl) ?_
              refine wf_ro rfl (fun w hS => ro_fieldAddr (k := 2) rfl fo_61_2) ?_
              refine wf_ro rfl (fun w hS => ro_loadB rfl sc_3 (hS.blkN h3) rfl) ?_
              refine wf_ro rfl (fun w hS => ro_move rfl) ?_
              refine wf_ro rfl (fun w hS => ro_nilCheck rfl) ?_
              refine wf_ro rfl (fun w hS => ro_fieldAddr (k := 3) rfl fo_68_3) ?_
              refine wf_ro rfl (fun w hS => ro_loadB rfl sc_66 (hS.blkN hB) rfl) ?_
              refine wf_ro rfl (fun w hS => ro_lenL rfl se_66) ?_
              refine wf_fork ?_ ?_
              · refine ql_call rfl rfl en_43 (pick43 (c := b) hip hb1 hb2) ?_
                rintro _ _ ⟨⟨i, rfl, hi⟩, rfl⟩
                obtain ⟨y, hy⟩ : ∃ y, Li[i]? = some y := ⟨_, List.getElem?_eq_getElem hi⟩
                refine ⟨Fram.drew none' w1 _, ?_⟩
                refine ql_ro rfl (fun w hS => ro_indexAddr (et := 139) (k := 2) rfl rfl se_66 rfl hi) ?_
                refine ql_ro rfl (fun w hS => ro_loadAggB rfl ag_139 (hS.blkN hGi) rfl (hri i y hy)) ?_
                refine ql_new rfl ze_139 (fun u2 F2 => (Fram.drew none' w1 _).trans F2) (fun lb u2 hlb hL F2 => ?_)
                refine ql_puta rfl rfl rfl (imc_cells y) sz_139 rfl hL (by simp) rfl (fun u3 hL F3 => ?_)
                have hs2 : w1.heap.size ≤ lb := hlb
                exact ⟨rfl, i, y, lb, hy, hL, ((Fram.drew none' w1 _).trans F2).trans' F3 (fun b hb h => by have h' : b = lb := h; omega), hs2, kp _ ⟨rfl, rfl, rfl, trivial⟩⟩
              · refine ql_new rfl ze_139 (fun u2 F2 => (Fram.drew none' w1 _).trans F2) (fun lb u2 hlb hL F2 => ?_)
                refine ql_call rfl rfl en_43 (pick43 (c := b) hip hb1 hb2) ?_
                rintro _ _ ⟨⟨i, rfl, hi⟩, rfl⟩
                obtain ⟨y, hy⟩ : ∃ y, Li[i]? = some y := ⟨_, List.getElem?_eq_getElem hi⟩
                refine ⟨(Fram.drew none' w1 _).trans F2, ?_⟩
                refine ql_ro rfl (fun w hS => ro_indexAddr (et := 139) (k := 2) rfl rfl se_66 rfl hi) ?_
                refine ql_ro rfl (fun w hS => ro_loadAggB rfl ag_139 (hS.blkN hGi) rfl (hri i y hy)) ?_
                refine ql_puta rfl rfl rfl (imc_cells y) sz_139 rfl hL (by simp) rfl (fun u3 hL F3 => ?_)
                have hs2 : w1.heap.size ≤ lb := hlb
                exact ⟨rfl, i, y, lb, hy, hL, ((Fram.drew none' w1 _).trans F2).trans' F3 (fun b hb h => by have h' : b = lb := h; omega), hs2, kp _ ⟨rfl, rfl, rfl, trivial⟩⟩
            rintro a' u3 ⟨i, y, lb, hy, hL, F3, hlb, e, rfl⟩
            have hyL : y ∈ Li := List.mem_of_getElem? hy
            have l3 := h3.lt
            replace h := h.far0 F3
            have hz4 : owU W1 w1 0 b3 = 0 := by rw [owU_lt l3]; exact hz3
            have hz5 : owU W1 w1 0 lb = 0 := owU_ge hlb
            have hz6 : owU W1 w1 0 gd = 0 := (h.o.zd gd rfl).1
            have hz7 : owU W1 w1 0 wb = 0 := h.o.zb.1
            generalize owU W1 w1 0 = W2 at h hz4 hz5 hz6 hz7
            replace hB := F3.blkN hB
            replace h3 := F3.blkN h3
            replace hGd := F3.blkN hGd
            have h9 : WS w0 { u3 with drawn := u3.drawn + 1 } W2 wb _ _ _ _ Lx Lm Ld Li := h.farN (Fram.drew none' u3 _)
            refine x_then (hK19 _ _ ?_)
            clear hK19 K19
            refine forget [(0, _), (3, _), (8, _)] ⟨rfl, rfl, rfl, trivial⟩ (fun e => ?_)
            refine c_seq (fun K20 hK20 => ?_)
            refine c_pi [(0, false), (1, false), (2, false), (3, false), (4, false), (5, false), (6, false), (7, false), (8, false), (9, false), (10, false), (14, false), (15, false), (16, false), (17, false), (18, false), (19, false), (11, true), (12, false), (13, false), (20, true), (21, false)] (fun w' => Blk w'.heap wb [.slice ax Lx.length cx, .slice am Lm.length cm, .slice (some ⟨gd, 0, none⟩) Ld.length cd, .slice (some ⟨gi, 0, none⟩) Li.length ci] 68 ∧ Blk w'.heap b3 (opl k a b c s t) 61 ∧ Blk w'.heap lb (imc y) 139 ∧ Blk w'.heap gd ld 29) mixed (by kernel_rfl) rfl (by kernel_rfl) (po_then (po_blk (po_then (po_bp)))) (⟨hB, h3, hL, hGd⟩) ?_ -- region 16 law.go:124
            refine pi_ro rfl (fun w hS => ro_move rfl) ?_
            refine pi_ro rfl (fun w hS => ro_nilCheck rfl) ?_
            refine pi_ro rfl (fun w hS => ro_fieldAddr (k := 2) rfl fo_68_2) ?_
            refine pi_ro rfl (fun w hS => ro_loadB rfl sc_65 (hS.1) (rfl)) ?_
            refine pi_ro rfl (fun w hS => ro_fieldAddr (k := 1) rfl fo_61_1) ?_
            refine pi_ro rfl (fun w hS => ro_loadB rfl sc_3 (hS.2.1) (rfl)) ?_
            refine pi_ro rfl (fun w hS => ro_move rfl) ?_
            refine pi_ro rfl (fun w hS => ro_nilCheck rfl) ?_
            refine pi_ro rfl (fun w hS => ro_fieldAddr (k := 2) rfl fo_68_2) ?_
            refine pi_ro rfl (fun w hS => ro_loadB rfl sc_65 (hS.1) (rfl)) ?_
            refine pi_ro rfl (fun w hS => ro_lenL rfl se_65) ?_
            refine pi_ro rfl (fun w hS => ro_fieldAddr (k := 0) rfl fo_139_0) ?_
            refine pi_ro rfl (fun w hS => ro_loadB rfl sc_9 (hS.2.2.1) (rfl)) ?_
            refine pi_ro rfl (fun w hS => ro_fieldAddr (k := 1) rfl fo_139_1) ?_
            refine pi_ro rfl (fun w hS => ro_loadB rfl sc_9 (hS.2.2.1) (rfl)) ?_
            refine pi_ro rfl (fun w hS => ro_fieldAddr (k := 3) rfl fo_61_3) ?_
            refine pi_ro rfl (fun w hS => ro_loadB rfl sc_3 (hS.2.1) (rfl)) ?_
            refine pi_call rfl rfl en_43 (pick43 (c := a) hdp ha1 ha2) ?_
            rintro _ _ ⟨⟨j, rfl, hj⟩, rfl⟩
            obtain ⟨db, hdb⟩ : ∃ db, Ld[j]? = some db := ⟨_, List.getElem?_eq_getElem hj⟩
            refine ⟨⟨hB, h3, hL, hGd⟩, ?_⟩
            refine pi_ro rfl (fun w hS => ro_indexAddr (et := 29) (k := 1) rfl rfl se_65 (rfl) (hj)) ?_
            refine pi_ro rfl (fun w hS => ro_loadB rfl sc_29 (hS.2.2.2) ((by rw [Nat.mul_one, Nat.zero_add]; exact own_get t6 (by rw [List.getElem?_map, hdb]; rfl)))) ?_
            refine pi_call rfl rfl en_10 (h9.exec (fuel := c) hdb hyL (by omega)) ?_
            rintro _ u4 ⟨rfl, F4, W4, h4, e4⟩
            refine ⟨⟨F4.blkF hB (fun q => q hz7), F4.blkF h3 (fun q => q hz4), F4.blkF hL (fun q => q hz5), F4.blkF hGd (fun q => q hz6)⟩, ?_⟩
            refine pi_ro rfl (fun w hS => ro_assign rfl) ?_
            refine pi_nil (x_then (hK20 _ _ ?_))
            clear hK20 K20
            refine c_ret (x_blkR (x_thenR ?_))
            refine bp_ret Tryz.results26 rfl ?_
            exact ⟨rfl, _, _, _, _, _, _, _, _, _, h4.farN (Fram.refl _ _), by omega⟩
      · try simp only [decide_eq_true_eq, decide_eq_false_iff_not, Bool.not_eq_true', Bool.not_eq_false', Bool.not_eq_eq_eq_not, Bool.not_true, Bool.not_false, beq_iff_eq, bne_iff_ne, ne_eq, beq_eq_false_iff_ne, bne_eq_false_iff_eq, gt_iff_lt, ge_iff_le, Int.not_lt, Int.not_le] at hc55
        refine c_seq (fun K21 hK21 => ?_)
        refine c_reg ?_ -- region 17 law.go:125
        refine wl (ro_cmp (r := decide (k = 8)) rfl rfl (congrArg some (by first | rfl | simp))) ?_
        refine wl (ro_assign rfl) ?_
        refine wl_nil (x_then (hK21 _ _ ?_))
        clear hK21 K21
        refine wc_cond rfl (fun hc106 => ?_) (fun hc106 => ?_)
        · try simp only [decide_eq_true_eq, decide_eq_false_iff_not, Bool.not_eq_true', Bool.not_eq_false', Bool.not_eq_eq_eq_not, Bool.not_true, Bool.not_false, beq_iff_eq, bne_iff_ne, ne_eq, beq_eq_false_iff_ne, bne_eq_false_iff_eq, gt_iff_lt, ge_iff_le, Int.not_lt, Int.not_le] at hc106
          refine c_seq (fun K22 hK22 => ?_)
          refine c_seq (fun K23 hK23 => ?_)
          refine c_reg ?_ -- region 18 law.go:126
          refine wl (ro_move rfl) ?_
          refine wl (ro_nilCheck rfl) ?_
          refine wl (ro_fieldAddr (k := 2) rfl fo_68_2) ?_
          refine wl (ro_loadB rfl sc_65 (hB) (rfl)) ?_
          refine wl (ro_lenL rfl se_65) ?_
          refine wl (ro_cmp (r := decide (Ld.length = 0)) rfl rfl (congrArg some (beqc Ld.length 0))) ?_
          refine wl_nil (x_then (hK23 _ _ ?_))
          clear hK23 K23
          refine wc_cond rfl (fun hc113 => ?_) (fun hc113 => ?_)
          · try simp only [decide_eq_true_eq, decide_eq_false_iff_not, Bool.not_eq_true', Bool.not_eq_false', Bool.not_eq_eq_eq_not, Bool.not_true, Bool.not_false, beq_iff_eq, bne_iff_ne, ne_eq, beq_eq_false_iff_ne, bne_eq_false_iff_eq, gt_iff_lt, ge_iff_le, Int.not_lt, Int.not_le] at hc113
            refine c_seq (fun K24 hK24 => ?_)
            refine c_reg ?_ -- region 19 law.go:127
            refine wl (ro_assign rfl) ?_
            refine wl_nil (x_then (hK24 _ _ ?_))
            clear hK24 K24
            refine c_ret (x_thenR (x_blkR (x_thenR ?_)))
            refine bp_ret Tryz.results26 rfl ?_
            exact ⟨rfl, _, _, _, _, _, _, _, _, _, h, by omega⟩
          · try simp only [decide_eq_true_eq, decide_eq_false_iff_not, Bool.not_eq_true', Bool.not_eq_false', Bool.not_eq_eq_eq_not, Bool.not_true, Bool.not_false, beq_iff_eq, bne_iff_ne, ne_eq, beq_eq_false_iff_ne, bne_eq_false_iff_eq, gt_iff_lt, ge_iff_le, Int.not_lt, Int.not_le] at hc113
            have hdp : 0 < Ld.length := by omega
            obtain ⟨gd, cdd, ld, ed, hGd, -, -, -, t6⟩ := h.o.od.pos hdp
            injection ed with e1 e2 e3
            subst e1 e3
            have h9 : WS w0 { w1 with drawn := w1.drawn + 1 } W1 wb _ _ _ _ Lx Lm Ld Li := h.farN (Fram.drew none' w1 _)
            refine c_skip (x_then (hK22 _ _ ?_))
            clear hK22 K22
            refine forget [(0, _), (3, _)] ⟨rfl, rfl, trivial⟩ (fun e => ?_)
            refine c_seq (fun K25 hK25 => ?_)
            refine c_pi [(0, false), (1, false), (2, false), (3, false), (4, false), (5, false), (6, false), (7, false), (8, false), (9, false), (10, false), (11, true), (12, false), (13, false), (14, true), (15, false)] (fun w' => Blk w'.heap wb [.slice ax Lx.length cx, .slice am Lm.length cm, .slice (some ⟨gd, 0, none⟩) Ld.length cd, .slice ai Li.length ci] 68 ∧ Blk w'.heap b3 (opl k a b c s t) 61 ∧ Blk w'.heap gd ld 29) mixed (by kernel_rfl) rfl (by kernel_rfl) (po_then (po_blk (po_then (po_bp)))) (⟨hB, h3, hGd⟩) ?_ -- region 20 law.go:129
            refine pi_ro rfl (fun w hS => ro_move rfl) ?_
            refine pi_ro rfl (fun w hS => ro_nilCheck rfl) ?_
            refine pi_ro rfl (fun w hS => ro_fieldAddr (k := 2) rfl fo_68_2) ?_
            refine pi_ro rfl (fun w hS => ro_loadB rfl sc_65 (hS.1) (rfl)) ?_
            refine pi_ro rfl (fun w hS => ro_fieldAddr (k := 1) rfl fo_61_1) ?_
            refine pi_ro rfl (fun w hS => ro_loadB rfl sc_3 (hS.2.1) (rfl)) ?_
            refine pi_ro rfl (fun w hS => ro_move rfl) ?_
            refine pi_ro rfl (fun w hS => ro_nilCheck rfl) ?_
            refine pi_ro rfl (fun w hS => ro_fieldAddr (k := 2) rfl fo_68_2) ?_
            refine pi_ro rfl (fun w hS => ro_loadB rfl sc_65 (hS.1) (rfl)) ?_
            refine pi_ro rfl (fun w hS => ro_lenL rfl se_65) ?_
            refine pi_call rfl rfl en_43 (pick43 (c := a) hdp ha1 ha2) ?_
            rintro _ _ ⟨⟨j, rfl, hj⟩, rfl⟩
            obtain ⟨db, hdb⟩ : ∃ db, Ld[j]? = some db := ⟨_, List.getElem?_eq_getElem hj⟩
            refine ⟨⟨hB, h3, hGd⟩, ?_⟩
            refine pi_ro rfl (fun w hS => ro_indexAddr (et := 29) (k := 1) rfl rfl se_65 (rfl) (hj)) ?_
            refine pi_ro rfl (fun w hS => ro_loadB rfl sc_29 (hS.2.2) ((by rw [Nat.mul_one, Nat.zero_add]; exact own_get t6 (by rw [List.getElem?_map, hdb]; rfl)))) ?_
            refine pi_call rfl rfl en_44 ((h9.d hdb).left) ?_
            rintro _ u4 ⟨rfl, F4⟩
            refine ⟨⟨F4.blkN hB, F4.blkN h3, F4.blkN hGd⟩, ?_⟩
            have h4 := h9.farN F4
            refine pi_ro rfl (fun w hS => ro_assign rfl) ?_
            refine pi_nil (x_then (hK25 _ _ ?_))
            clear hK25 K25
            refine forget [(9, _)] ⟨rfl, trivial⟩ (fun e => ?_)
            refine c_seq (fun K26 hK26 => ?_)
            refine c_reg ?_ -- region 21 law.go:130
            refine wl (ro_move rfl) ?_
            refine wl (ro_cmp (r := true) rfl rfl rfl) ?_
            refine wl (ro_assign rfl) ?_
            refine wl_nil (x_then (hK26 _ _ ?_))
            clear hK26 K26
            refine c_ret (x_blkR (x_thenR ?_))
            refine bp_ret Tryz.results26 rfl ?_
            exact ⟨rfl, _, _, _, _, _, _, _, _, _, h4, by omega⟩
        · try simp only [decide_eq_true_eq, decide_eq_false_iff_not, Bool.not_eq_true', Bool.not_eq_false', Bool.not_eq_eq_eq_not, Bool.not_true, Bool.not_false, beq_iff_eq, bne_iff_ne, ne_eq, beq_eq_false_iff_ne, bne_eq_false_iff_eq, gt_iff_lt, ge_iff_le, Int.not_lt, Int.not_le] at hc106
          refine c_skip (x_blk (x_then (hK2 _ _ ?_)))
          clear hK2 K2
          refine c_seq (fun K27 hK27 => ?_)
          refine c_seq (fun K28 hK28 => ?_)
          refine c_reg ?_ -- region 22 law.go:132
          refine wl (ro_move rfl) ?_
          refine wl (ro_nilCheck rfl) ?_
          refine wl (ro_fieldAddr (k := 0) rfl fo_68_0) ?_
          refine wl (ro_loadB rfl sc_63 (hB) (rfl)) ?_
          refine wl (ro_lenL rfl se_63) ?_
          refine wl (ro_cmp (r := decide (Lx.length = 0)) rfl rfl (congrArg some (beqc Lx.length 0))) ?_
          refine wl_nil (x_then (hK28 _ _ ?_))
          clear hK28 K28
          refine wc_cond rfl (fun hc136 => ?_) (fun hc136 => ?_)
          · try simp only [decide_eq_true_eq, decide_eq_false_iff_not, Bool.not_eq_true', Bool.not_eq_false', Bool.not_eq_eq_eq_not, Bool.not_true, Bool.not_false, beq_iff_eq, bne_iff_ne, ne_eq, beq_eq_false_iff_ne, bne_eq_false_iff_eq, gt_iff_lt, ge_iff_le, Int.not_lt, Int.not_le] at hc136
            refine c_seq (fun K29 hK29 => ?_)
            refine c_reg ?_ -- region 23 law.go:133
            refine wl (ro_assign rfl) ?_
            refine wl_nil (x_then (hK29 _ _ ?_))
            clear hK29 K29
            refine c_ret (x_thenR ?_)
            refine bp_ret Tryz.results26 rfl ?_
            exact ⟨rfl, _, _, _, _, _, _, _, _, _, h, by omega⟩
          · try simp only [decide_eq_true_eq, decide_eq_false_iff_not, Bool.not_eq_true', Bool.not_eq_false', Bool.not_eq_eq_eq_not, Bool.not_true, Bool.not_false, beq_iff_eq, bne_iff_ne, ne_eq, beq_eq_false_iff_ne, bne_eq_false_iff_eq, gt_iff_lt, ge_iff_le, Int.not_lt, Int.not_le] at hc136
            have hxp : 0 < Lx.length := by omega
            obtain ⟨gx, cxx, lx, ex, hGx, -, -, -, x6⟩ := h.o.ox.pos hxp
            injection ex with e1 e2 e3
            subst e1 e3
            obtain ⟨gm, cmm, lm, em, hGm, -, -, -, m6⟩ := h.o.om.pos (by omega)
            injection em with e1 e2 e3
            subst e1 e3
            refine c_skip (x_then (hK27 _ _ ?_))
            clear hK27 K27
            refine forget [(0, _), (3, _)] ⟨rfl, rfl, trivial⟩ (fun e => ?_)
            refine c_seq (fun K30 hK30 => ?_)
            refine c_pi [(0, false), (1, false), (2, false), (3, false), (4, false), (5, false), (6, false), (7, true), (8, false)] (fun w' => Blk w'.heap wb [.slice (some ⟨gx, 0, none⟩) Lx.length cx, .slice (some ⟨gm, 0, none⟩) Lm.length cm, .slice ad Ld.length cd, .slice ai Li.length ci] 68 ∧ Blk w'.heap b3 (opl k a b c s t) 61) mixed (by kernel_rfl) rfl (by kernel_rfl) (po_then (po_bp)) (⟨hB, h3⟩) ?_ -- region 24 law.go:135
            refine pi_ro rfl (fun w hS => ro_fieldAddr (k := 1) rfl fo_61_1) ?_
            refine pi_ro rfl (fun w hS => ro_loadB rfl sc_3 (hS.2) (rfl)) ?_
            refine pi_ro rfl (fun w hS => ro_move rfl) ?_
            refine pi_ro rfl (fun w hS => ro_nilCheck rfl) ?_
            refine pi_ro rfl (fun w hS => ro_fieldAddr (k := 0) rfl fo_68_0) ?_
            refine pi_ro rfl (fun w hS => ro_loadB rfl sc_63 (hS.1) (rfl)) ?_
            refine pi_ro rfl (fun w hS => ro_lenL rfl se_63) ?_
            refine pi_call rfl rfl en_43 (pick43 (c := a) hxp ha1 ha2) ?_
            rintro _ _ ⟨⟨i, rfl, hi⟩, rfl⟩
            obtain ⟨cb, hcb⟩ : ∃ cb, Lx[i]? = some cb := ⟨_, List.getElem?_eq_getElem hi⟩
            obtain ⟨mc, hmc⟩ : ∃ mc, Lm[i]? = some mc := ⟨_, List.getElem?_eq_getElem (by omega)⟩
            refine ⟨⟨hB, h3⟩, ?_⟩
            refine pi_ro rfl (fun w hS => ro_assign rfl) ?_
            replace h : WS w0 { w1 with drawn := w1.drawn + 1 } W1 wb _ _ _ _ Lx Lm Ld Li := h.farN (Fram.drew none' w1 _)
            have hlx : lx[0 + i * 1]? = some (ptr cb) := by (rw [Nat.mul_one, Nat.zero_add]; exact own_get x6 (by rw [List.getElem?_map, hcb]; rfl))
            have hlm2 : lm[0 + i * 1]? = some (ptr mc) := by (rw [Nat.mul_one, Nat.zero_add]; exact own_get m6 (by rw [List.getElem?_map, hmc]; rfl))
            have hz7 : W1 wb = 0 := h.o.zb.1
            have hzx : W1 gx = 0 := (h.o.zx gx rfl).1
            have hzm : W1 gm = 0 := (h.o.zm gm rfl).1
            have him : i < Lm.length := by omega
            refine pi_nil (x_then (hK30 _ _ ?_))
            clear hK30 K30
            refine c_seq (fun K31 hK31 => ?_)
            refine c_seq (fun K32 hK32 => ?_)
            refine c_reg ?_ -- region 25 law.go:136
            refine wl (ro_fieldAddr (k := 0) rfl fo_61_0) ?_
            refine wl (ro_loadB rfl sc_3 (h3) (rfl)) ?_
            refine wl_nil (x_then (hK32 _ _ ?_))
            clear hK32 K32
            refine c_block ?_
            refine forget [(0, _), (3, _), (10, _), (146, _)] ⟨rfl, rfl, rfl, rfl, trivial⟩ (fun e => ?_)
            refine c_seq (fun K33 hK33 => ?_)
            refine c_reg ?_ -- region 26 law.go:137
            refine wl (ro_cmp (r := decide (k = 3)) rfl rfl (congrArg some (by first | rfl | simp))) ?_
            refine wl (ro_assign rfl) ?_
            refine wl_nil (x_then (hK33 _ _ ?_))
            clear hK33 K33
            refine wc_cond rfl (fun hc147 => ?_) (fun hc147 => ?_)
            · try simp only [decide_eq_true_eq, decide_eq_false_iff_not, Bool.not_eq_true', Bool.not_eq_false', Bool.not_eq_eq_eq_not, Bool.not_true, Bool.not_false, beq_iff_eq, bne_iff_ne, ne_eq, beq_eq_false_iff_ne, bne_eq_false_iff_eq, gt_iff_lt, ge_iff_le, Int.not_lt, Int.not_le] at hc147
              refine c_seq (fun K34 hK34 => ?_)
              refine c_pi [(0, false), (1, false), (2, false), (3, false), (4, false), (5, false), (6, false), (7, false), (8, false), (9, false), (10, false), (11, false), (12, false), (13, false), (14, false), (15, false), (16, false), (17, false), (18, true), (19, false)] (fun w' => Blk w'.heap wb [.slice (some ⟨gx, 0, none⟩) Lx.length cx, .slice (some ⟨gm, 0, none⟩) Lm.length cm, .slice ad Ld.length cd, .slice ai Li.length ci] 68 ∧ Blk w'.heap b3 (opl k a b c s t) 61 ∧ Blk w'.heap gx lx 22 ∧ Blk w'.heap gm lm 24) mixed (by kernel_rfl) rfl (by kernel_rfl) (po_then (po_blk (po_then (po_bp)))) (⟨hB, h3, hGx, hGm⟩) ?_ -- region 27 law.go:138
              refine pi_ro rfl (fun w hS => ro_move rfl) ?_
              refine pi_ro rfl (fun w hS => ro_nilCheck rfl) ?_
              refine pi_ro rfl (fun w hS => ro_fieldAddr (k := 0) rfl fo_68_0) ?_
              refine pi_ro rfl (fun w hS => ro_loadB rfl sc_63 (hS.1) (rfl)) ?_
              refine pi_ro rfl (fun w hS => ro_move rfl) ?_
              refine pi_ro rfl (fun w hS => ro_indexAddr (et := 22) (k := 1) rfl rfl se_63 (rfl) (hi)) ?_
              refine pi_ro rfl (fun w hS => ro_loadB rfl sc_22 (hS.2.2.1) (hlx)) ?_
              refine pi_ro rfl (fun w hS => ro_move rfl) ?_
              refine pi_ro rfl (fun w hS => ro_nilCheck rfl) ?_
              refine pi_ro rfl (fun w hS => ro_fieldAddr (k := 1) rfl fo_68_1) ?_
              refine pi_ro rfl (fun w hS => ro_loadB rfl sc_64 (hS.1) (rfl)) ?_
              refine pi_ro rfl (fun w hS => ro_move rfl) ?_
              refine pi_ro rfl (fun w hS => ro_indexAddr (et := 24) (k := 1) rfl rfl se_64 (rfl) (him)) ?_
              refine pi_ro rfl (fun w hS => ro_loadB rfl sc_24 (hS.2.2.2) (hlm2)) ?_
              refine pi_ro rfl (fun w hS => ro_fieldAddr (k := 4) rfl fo_61_4) ?_
              refine pi_ro rfl (fun w hS => ro_loadB rfl sc_9 (hS.2.1) (rfl)) ?_
              refine pi_ro rfl (fun w hS => ro_fieldAddr (k := 2) rfl fo_61_2) ?_
              refine pi_ro rfl (fun w hS => ro_loadB rfl sc_3 (hS.2.1) (rfl)) ?_
              refine pi_call rfl rfl en_7 ((h.farN (Fram.drew none' _ _)).ran (s := s) (fuel := b) hcb hmc (by omega)) ?_
              rintro _ u4 ⟨rfl, F4, W4, h4, e4⟩
              refine ⟨⟨F4.blkF hB (fun q => q hz7), F4.blkF h3 (fun q => q hz3), F4.blkF hGx (fun q => q hzx), F4.blkF hGm (fun q => q hzm)⟩, ?_⟩
              refine pi_ro rfl (fun w hS => ro_assign rfl) ?_
              refine pi_nil (x_then (hK34 _ _ ?_))
              clear hK34 K34
              refine c_ret (x_blkR (x_thenR ?_))
              refine bp_ret Tryz.results26 rfl ?_
              exact ⟨rfl, _, _, _, _, _, _, _, _, _, h4, by omega⟩
            · try simp only [decide_eq_true_eq, decide_eq_false_iff_not, Bool.not_eq_true', Bool.not_eq_false', Bool.not_eq_eq_eq_not, Bool.not_true, Bool.not_false, beq_iff_eq, bne_iff_ne, ne_eq, beq_eq_false_iff_ne, bne_eq_false_iff_eq, gt_iff_lt, ge_iff_le, Int.not_lt, Int.not_le] at hc147
              refine c_seq (fun K35 hK35 => ?_)
              refine c_reg ?_ -- region 28 law.go:139
              refine wl (ro_cmp (r := decide (k = 4)) rfl rfl (congrArg some (by first | rfl | simp))) ?_
              refine wl (ro_assign rfl) ?_
              refine wl_nil (x_then (hK35 _ _ ?_))
              clear hK35 K35
              refine wc_cond rfl (fun hc168 => ?_) (fun hc168 => ?_)
              · try simp only [decide_eq_true_eq, decide_eq_false_iff_not, Bool.not_eq_true', Bool.not_eq_false', Bool.not_eq_eq_eq_not, Bool.not_true, Bool.not_false, beq_iff_eq, bne_iff_ne, ne_eq, beq_eq_false_iff_ne, bne_eq_false_iff_eq, gt_iff_lt, ge_iff_le, Int.not_lt, Int.not_le] at hc168
                refine c_seq (fun K36 hK36 => ?_)
                rcases hp : prsV s with ⟨er, p⟩ | ⟨tr, tk⟩
                · skip
                  refine c_pi [(0, false), (1, false), (2, false), (3, false), (4, false), (5, false), (6, false), (7, false), (8, false), (9, true), (10, false), (11, false), (12, false), (13, false), (14, false), (15, false), (16, false)] (fun w' => Blk w'.heap wb [.slice (some ⟨gx, 0, none⟩) Lx.length cx, .slice (some ⟨gm, 0, none⟩) Lm.length cm, .slice ad Ld.length cd, .slice ai Li.length ci] 68 ∧ Blk w'.heap b3 (opl k a b c s t) 61 ∧ Blk w'.heap gx lx 22) mixed (by kernel_rfl) rfl (by kernel_rfl) (po_then (po_blk (po_then (po_bp)))) (⟨hB, h3, hGx⟩) ?_ -- region 29 law.go:140
                  refine pi_ro rfl (fun w hS => ro_move rfl) ?_
                  refine pi_ro rfl (fun w hS => ro_nilCheck rfl) ?_
                  refine pi_ro rfl (fun w hS => ro_fieldAddr (k := 0) rfl fo_68_0) ?_
                  refine pi_ro rfl (fun w hS => ro_loadB rfl sc_63 (hS.1) (rfl)) ?_
                  refine pi_ro rfl (fun w hS => ro_move rfl) ?_
                  refine pi_ro rfl (fun w hS => ro_indexAddr (et := 22) (k := 1) rfl rfl se_63 (rfl) (hi)) ?_
                  refine pi_ro rfl (fun w hS => ro_loadB rfl sc_22 (hS.2.2) (hlx)) ?_
                  refine pi_ro rfl (fun w hS => ro_fieldAddr (k := 4) rfl fo_61_4) ?_
                  refine pi_ro rfl (fun w hS => ro_loadB rfl sc_9 (hS.2.1) (rfl)) ?_
                  refine pi_call rfl rfl en_8 ((h.farN (Fram.drew none' _ _)).imaged (s := s) hcb) ?_
                  rintro r4 u4 ⟨hr4, F4, W4, h4, e4⟩
                  obtain rfl : r4 = .tuple #[S [], .bool false, .bool true] := by
                    rcases hr4 with ⟨_, _, _, q⟩ | ⟨t, k, q, _⟩
                    · exact q
                    · rw [hp] at q; cases q
                  replace hB := F4.blkF hB (fun q => q hz7)
                  replace h3 := F4.blkF h3 (fun q => q hz3)
                  replace hGx := F4.blkF hGx (fun q => q hzx)
                  refine ⟨⟨hB, h3, hGx⟩, ?_⟩
                  refine pi_ro rfl (fun w hS => ro_move rfl) ?_
                  refine pi_ro rfl (fun w hS => ro_extract rfl rfl) ?_
                  refine pi_ro rfl (fun w hS => ro_extract rfl rfl) ?_
                  refine pi_ro rfl (fun w hS => ro_extract rfl rfl) ?_
                  refine pi_ro rfl (fun w hS => ro_assign rfl) ?_
                  refine pi_ro rfl (fun w hS => ro_assign rfl) ?_
                  refine pi_ro rfl (fun w hS => ro_assign rfl) ?_
                  refine pi_nil (x_then (hK36 _ _ ?_))
                  clear hK36 K36
                  refine c_seq (fun K37 hK37 => ?_)
                  refine c_seq (fun K38 hK38 => ?_)
                  refine c_reg ?_ -- region 30 law.go:141
                  refine wl (ro_move rfl) ?_
                  refine wl (ro_not rfl) ?_
                  refine wl_nil (x_then (hK38 _ _ ?_))
                  clear hK38 K38
                  refine wc_condF rfl ?_
                  refine c_skip (x_then (hK37 _ _ ?_))
                  clear hK37 K37
                  refine forget [(0, _), (3, _), (11, _), (12, _)] ⟨rfl, rfl, rfl, rfl, trivial⟩ (fun e => ?_)
                  refine c_seq (fun K39 hK39 => ?_)
                  refine c_reg ?_ -- region 32 law.go:144
                  refine wl (ro_move rfl) ?_
                  refine wl_nil (x_then (hK39 _ _ ?_))
                  clear hK39 K39
                  refine wc_condF rfl ?_
                  refine c_skip (x_blk (x_then (hK31 _ _ ?_)))
                  clear hK31 K31
                  refine forget [] trivial (fun e => ?_)
                  refine c_seq (fun K40 hK40 => ?_)
                  refine c_reg ?_ -- region 42 law.go:156
                  refine wl (ro_assign rfl) ?_
                  refine wl_nil (x_then (hK40 _ _ ?_))
                  clear hK40 K40
                  refine c_ret ?_
                  refine bp_ret Tryz.results26 rfl ?_
                  exact ⟨rfl, _, _, _, _, _, _, _, _, _, h4, by omega⟩
                · skip
                  refine c_pi [(0, false), (1, false), (2, false), (3, false), (4, false), (5, false), (6, false), (7, false), (8, false), (9, true), (10, false), (11, false), (12, false), (13, false), (14, false), (15, false), (16, false)] (fun w' => Blk w'.heap wb [.slice (some ⟨gx, 0, none⟩) Lx.length cx, .slice (some ⟨gm, 0, none⟩) Lm.length cm, .slice ad Ld.length cd, .slice ai Li.length ci] 68 ∧ Blk w'.heap b3 (opl k a b c s t) 61 ∧ Blk w'.heap gx lx 22) mixed (by kernel_rfl) rfl (by kernel_rfl) (po_then (po_blk (po_then (po_bp)))) (⟨hB, h3, hGx⟩) ?_ -- region 29 law.go:140
                  refine pi_ro rfl (fun w hS => ro_move rfl) ?_
                  refine pi_ro rfl (fun w hS => ro_nilCheck rfl) ?_
                  refine pi_ro rfl (fun w hS => ro_fieldAddr (k := 0) rfl fo_68_0) ?_
                  refine pi_ro rfl (fun w hS => ro_loadB rfl sc_63 (hS.1) (rfl)) ?_
                  refine pi_ro rfl (fun w hS => ro_move rfl) ?_
                  refine pi_ro rfl (fun w hS => ro_indexAddr (et := 22) (k := 1) rfl rfl se_63 (rfl) (hi)) ?_
                  refine pi_ro rfl (fun w hS => ro_loadB rfl sc_22 (hS.2.2) (hlx)) ?_
                  refine pi_ro rfl (fun w hS => ro_fieldAddr (k := 4) rfl fo_61_4) ?_
                  refine pi_ro rfl (fun w hS => ro_loadB rfl sc_9 (hS.2.1) (rfl)) ?_
                  refine pi_call rfl rfl en_8 ((h.farN (Fram.drew none' _ _)).imaged (s := s) hcb) ?_
                  rintro r4 u4 ⟨hr4, F4, W4, h4, e4⟩
                  obtain rfl : r4 = .tuple #[S (img (progF tr (tk + 1))), .bool true, .bool true] := by
                    rcases hr4 with ⟨_, _, q, _⟩ | ⟨t', k', q, q2⟩
                    · rw [hp] at q; cases q
                    · rw [hp] at q; cases q; exact q2
                  have l3 := h3.lt
                  have hw3 : W4 b3 = 0 := by rw [e4 b3 l3]; exact hz3
                  replace hB := F4.blkF hB (fun q => q hz7)
                  replace h3 := F4.blkF h3 (fun q => q hz3)
                  replace hGx := F4.blkF hGx (fun q => q hzx)
                  refine ⟨⟨hB, h3, hGx⟩, ?_⟩
                  refine pi_ro rfl (fun w hS => ro_move rfl) ?_
                  refine pi_ro rfl (fun w hS => ro_extract rfl rfl) ?_
                  refine pi_ro rfl (fun w hS => ro_extract rfl rfl) ?_
                  refine pi_ro rfl (fun w hS => ro_extract rfl rfl) ?_
                  refine pi_ro rfl (fun w hS => ro_assign rfl) ?_
                  refine pi_ro rfl (fun w hS => ro_assign rfl) ?_
                  refine pi_ro rfl (fun w hS => ro_assign rfl) ?_
                  refine pi_nil (x_then (hK36 _ _ ?_))
                  clear hK36 K36
                  refine c_seq (fun K41 hK41 => ?_)
                  refine c_seq (fun K42 hK42 => ?_)
                  refine c_reg ?_ -- region 30 law.go:141
                  refine wl (ro_move rfl) ?_
                  refine wl (ro_not rfl) ?_
                  refine wl_nil (x_then (hK42 _ _ ?_))
                  clear hK42 K42
                  refine wc_condF rfl ?_
                  refine c_skip (x_then (hK41 _ _ ?_))
                  clear hK41 K41
                  refine forget [(0, _), (3, _), (11, _), (12, _)] ⟨rfl, rfl, rfl, rfl, trivial⟩ (fun e => ?_)
                  refine c_seq (fun K43 hK43 => ?_)
                  refine c_reg ?_ -- region 32 law.go:144
                  refine wl (ro_move rfl) ?_
                  refine wl_nil (x_then (hK43 _ _ ?_))
                  clear hK43 K43
                  refine wc_condT rfl ?_
                  refine c_piL 13 [(0, false), (1, false), (2, false), (3, false), (4, false), (5, false), (6, false), (7, false), (8, false), (9, true), (10, true), (11, false), (12, false)] (fun w' => Blk w'.heap wb [.slice (some ⟨gx, 0, none⟩) Lx.length cx, .slice (some ⟨gm, 0, none⟩) Lm.length cm, .slice ad Ld.length cd, .slice ai Li.length ci] 68 ∧ Blk w'.heap b3 (opl k a b c s t) 61) mixed (by kernel_rfl) rfl (by kernel_rfl) (po_blk (po_then (po_bp))) (⟨hB, h3⟩) ?_ -- region 33 law.go:145
                  refine ql_ro rfl (fun w hS => ro_move rfl) ?_
                  refine ql_ro rfl (fun w hS => ro_move rfl) ?_
                  refine ql_ro rfl (fun w hS => ro_nilCheck rfl) ?_
                  refine ql_ro rfl (fun w hS => ro_fieldAddr (k := 3) rfl fo_68_3) ?_
                  refine ql_ro rfl (fun w hS => ro_loadB rfl sc_66 (hS.1) (rfl)) ?_
                  refine ql_ro rfl (fun w hS => ro_move rfl) ?_
                  refine ql_ro rfl (fun w hS => ro_fieldAddr (k := 4) rfl fo_61_4) ?_
                  refine ql_ro rfl (fun w hS => ro_loadB rfl sc_9 (hS.2) (rfl)) ?_
                  refine ql_ro rfl (fun w hS => ro_build rfl bld_139_0_1) ?_
                  refine ql_bsapp (t := 66) (et := 139) (k := 2) (m := Li.length) (cs := imc (img (progF tr (tk + 1)), s)) rfl rfl rfl rfl rfl rfl se_66 zx_139 by_139 rfl rfl rfl (imc_cells _) (h4.o.oi.fram (Fram.refl none' _).thenDrew (fun _ _ h => h)) (by omega) (by omega) (fun w1 F ↦ ⟨F.blkN hB, F.blkN h3⟩) (fun w1 F ↦ ⟨F.blkF hB (fun q ↦ h4.o.oi.neblk h4.o.hB (by decide) wb q rfl), F.blkF h3 (fun q ↦ h4.o.oi.neblk h3 (by decide) b3 q rfl)⟩) ?_
                  intro v' u5 hon G5 nbi
                  obtain ⟨a3, c3, rfl⟩ := hon.form
                  replace hB := G5.blkF hB (fun q => h4.o.oi.neblk h4.o.hB (by decide) wb q rfl)
                  have h4d : WS w0 { u4 with drawn := u4.drawn + 1 } W4 wb _ _ _ _ Lx Lm Ld Li := h4.farN (Fram.drew none' u4 _)
                  skip
                  refine ql_ro rfl (fun w hS => ro_nilCheck rfl) ?_
                  refine ql_ro rfl (fun w hS => ro_fieldAddr (k := 3) rfl fo_68_3) ?_
                  refine ql_put rfl rfl rfl rfl sz_66 hB (by simp) (rfl) (fun w5 hB F5 => ?_)
                  obtain ⟨W5, e5, o5, f5⟩ := appI3 h4d.e h4d.o h4d.f hon G5 nbi F5 hB
                  refine x_blk (x_then (hK31 _ _ ?_))
                  clear hK31 K31
                  refine forget [] trivial (fun e => ?_)
                  refine c_seq (fun K44 hK44 => ?_)
                  refine c_reg ?_ -- region 42 law.go:156
                  refine wl (ro_assign rfl) ?_
                  refine wl_nil (x_then (hK44 _ _ ?_))
                  clear hK44 K44
                  refine c_ret ?_
                  refine bp_ret Tryz.results26 rfl ?_
                  exact ⟨rfl, _, _, _, _, _, _, _, _, _, ⟨e5, o5, f5, hlm, fun x hx => by
                    rcases List.mem_append.1 hx with q | q
                    · exact h.im x q
                    · rw [List.mem_singleton.1 q]; exact ⟨tr, tk, hp, rfl⟩, h.gv⟩, by simp; omega⟩
              · try simp only [decide_eq_true_eq, decide_eq_false_iff_not, Bool.not_eq_true', Bool.not_eq_false', Bool.not_eq_eq_eq_not, Bool.not_true, Bool.not_false, beq_iff_eq, bne_iff_ne, ne_eq, beq_eq_false_iff_ne, bne_eq_false_iff_eq, gt_iff_lt, ge_iff_le, Int.not_lt, Int.not_le] at hc168
                refine c_seq (fun K45 hK45 => ?_)
                refine c_reg ?_ -- region 34 law.go:147
                refine wl (ro_cmp (r := decide (k = 6)) rfl rfl (congrArg some (by first | rfl | simp))) ?_
                refine wl (ro_assign rfl) ?_
                refine wl_nil (x_then (hK45 _ _ ?_))
                clear hK45 K45
                refine wc_cond rfl (fun hc200 => ?_) (fun hc200 => ?_)
                · try simp only [decide_eq_true_eq, decide_eq_false_iff_not, Bool.not_eq_true', Bool.not_eq_false', Bool.not_eq_eq_eq_not, Bool.not_true, Bool.not_false, beq_iff_eq, bne_iff_ne, ne_eq, beq_eq_false_iff_ne, bne_eq_false_iff_eq, gt_iff_lt, ge_iff_le, Int.not_lt, Int.not_le] at hc200
                  refine c_seq (fun K46 hK46 => ?_)
                  refine c_reg ?_ -- region 35 law.go:148
                  refine wl (ro_move rfl) ?_
                  refine wl (ro_nilCheck rfl) ?_
                  refine wl (ro_fieldAddr (k := 0) rfl fo_68_0) ?_
                  refine wl (ro_loadB rfl sc_63 (hB) (rfl)) ?_
                  refine wl (ro_move rfl) ?_
                  refine wl (ro_indexAddr (et := 22) (k := 1) rfl rfl se_63 (rfl) (hi)) ?_
                  refine wl (ro_loadB rfl sc_22 (hGx) (hlx)) ?_
                  refine wl_call rfl en_45 ((h.x hcb).left) ?_
                  rintro _ u4 ⟨rfl, F4⟩
                  have h4 := h.farN F4
                  refine wl (ro_assign rfl) ?_
                  refine wl_nil (x_then (hK46 _ _ ?_))
                  clear hK46 K46
                  refine forget [(14, _)] ⟨rfl, trivial⟩ (fun e => ?_)
                  refine c_seq (fun K47 hK47 => ?_)
                  refine c_reg ?_ -- region 36 law.go:149
                  refine wl (ro_move rfl) ?_
                  refine wl (ro_cmp (r := true) rfl rfl rfl) ?_
                  refine wl (ro_assign rfl) ?_
                  refine wl_nil (x_then (hK47 _ _ ?_))
                  clear hK47 K47
                  refine c_ret (x_blkR (x_thenR ?_))
                  refine bp_ret Tryz.results26 rfl ?_
                  exact ⟨rfl, _, _, _, _, _, _, _, _, _, h4, by omega⟩
                · try simp only [decide_eq_true_eq, decide_eq_false_iff_not, Bool.not_eq_true', Bool.not_eq_false', Bool.not_eq_eq_eq_not, Bool.not_true, Bool.not_false, beq_iff_eq, bne_iff_ne, ne_eq, beq_eq_false_iff_ne, bne_eq_false_iff_eq, gt_iff_lt, ge_iff_le, Int.not_lt, Int.not_le] at hc200
                  refine c_seq (fun K48 hK48 => ?_)
                  refine c_reg ?_ -- region 37 law.go:150
                  refine wl (ro_cmp (r := decide (k = 7)) rfl rfl (congrArg some (by first | rfl | simp))) ?_
                  refine wl (ro_assign rfl) ?_
                  refine wl_nil (x_then (hK48 _ _ ?_))
                  clear hK48 K48
                  refine wc_cond rfl (fun hc212 => ?_) (fun hc212 => ?_)
                  · try simp only [decide_eq_true_eq, decide_eq_false_iff_not, Bool.not_eq_true', Bool.not_eq_false', Bool.not_eq_eq_eq_not, Bool.not_true, Bool.not_false, beq_iff_eq, bne_iff_ne, ne_eq, beq_eq_false_iff_ne, bne_eq_false_iff_eq, gt_iff_lt, ge_iff_le, Int.not_lt, Int.not_le] at hc212
                    refine c_seq (fun K49 hK49 => ?_)
                    refine c_reg ?_ -- region 38 law.go:151
                    refine wl (ro_move rfl) ?_
                    refine wl (ro_nilCheck rfl) ?_
                    refine wl (ro_fieldAddr (k := 0) rfl fo_68_0) ?_
                    refine wl (ro_loadB rfl sc_63 (hB) (rfl)) ?_
                    refine wl (ro_move rfl) ?_
                    refine wl (ro_indexAddr (et := 22) (k := 1) rfl rfl se_63 (rfl) (hi)) ?_
                    refine wl (ro_loadB rfl sc_22 (hGx) (hlx)) ?_
                    refine wl_call rfl en_46 (compShow46) ?_
                    rintro _ u4 ⟨rfl, F4⟩
                    have h4 := h.farN F4
                    refine wl (ro_assign rfl) ?_
                    refine wl_nil (x_then (hK49 _ _ ?_))
                    clear hK49 K49
                    refine forget [(15, _)] ⟨rfl, trivial⟩ (fun e => ?_)
                    refine c_seq (fun K50 hK50 => ?_)
                    refine c_reg ?_ -- region 39 law.go:152
                    refine wl (ro_move rfl) ?_
                    refine wl (ro_eqS (r := true) rfl rfl rfl) ?_
                    refine wl (ro_assign rfl) ?_
                    refine wl_nil (x_then (hK50 _ _ ?_))
                    clear hK50 K50
                    refine c_ret (x_blkR (x_thenR ?_))
                    refine bp_ret Tryz.results26 rfl ?_
                    exact ⟨rfl, _, _, _, _, _, _, _, _, _, h4, by omega⟩
                  · try simp only [decide_eq_true_eq, decide_eq_false_iff_not, Bool.not_eq_true', Bool.not_eq_false', Bool.not_eq_eq_eq_not, Bool.not_true, Bool.not_false, beq_iff_eq, bne_iff_ne, ne_eq, beq_eq_false_iff_ne, bne_eq_false_iff_eq, gt_iff_lt, ge_iff_le, Int.not_lt, Int.not_le] at hc212
                    refine c_seq (fun K51 hK51 => ?_)
                    refine c_reg ?_ -- region 40 law.go:153
                    refine wl (ro_cmp (r := decide (k = 9)) rfl rfl (congrArg some (by first | rfl | simp))) ?_
                    refine wl (ro_assign rfl) ?_
                    refine wl_nil (x_then (hK51 _ _ ?_))
                    clear hK51 K51
                    refine wc_cond rfl (fun hc224 => ?_) (fun hc224 => ?_)
                    · try simp only [decide_eq_true_eq, decide_eq_false_iff_not, Bool.not_eq_true', Bool.not_eq_false', Bool.not_eq_eq_eq_not, Bool.not_true, Bool.not_false, beq_iff_eq, bne_iff_ne, ne_eq, beq_eq_false_iff_ne, bne_eq_false_iff_eq, gt_iff_lt, ge_iff_le, Int.not_lt, Int.not_le] at hc224
                      refine c_seq (fun K52 hK52 => ?_)
                      refine c_reg ?_ -- region 41 law.go:154
                      refine wl (ro_move rfl) ?_
                      refine wl (ro_nilCheck rfl) ?_
                      refine wl (ro_fieldAddr (k := 0) rfl fo_68_0) ?_
                      refine wl (ro_loadB rfl sc_63 (hB) (rfl)) ?_
                      refine wl (ro_move rfl) ?_
                      refine wl (ro_indexAddr (et := 22) (k := 1) rfl rfl se_63 (rfl) (hi)) ?_
                      refine wl (ro_loadB rfl sc_22 (hGx) (hlx)) ?_
                      refine wl_call rfl en_47 ((h.x hcb).check) ?_
                      rintro _ u4 ⟨rfl, F4⟩
                      have h4 := h.farN F4
                      refine wl (ro_assign rfl) ?_
                      refine wl_nil (x_then (hK52 _ _ ?_))
                      clear hK52 K52
                      refine c_ret (x_blkR (x_thenR ?_))
                      refine bp_ret Tryz.results26 rfl ?_
                      exact ⟨rfl, _, _, _, _, _, _, _, _, _, h4, by omega⟩
                    · try simp only [decide_eq_true_eq, decide_eq_false_iff_not, Bool.not_eq_true', Bool.not_eq_false', Bool.not_eq_eq_eq_not, Bool.not_true, Bool.not_false, beq_iff_eq, bne_iff_ne, ne_eq, beq_eq_false_iff_ne, bne_eq_false_iff_eq, gt_iff_lt, ge_iff_le, Int.not_lt, Int.not_le] at hc224
                      refine c_skip (x_blk (x_then (hK31 _ _ ?_)))
                      clear hK31 K31
                      refine forget [] trivial (fun e => ?_)
                      refine c_seq (fun K53 hK53 => ?_)
                      refine c_reg ?_ -- region 42 law.go:156
                      refine wl (ro_assign rfl) ?_
                      refine wl_nil (x_then (hK53 _ _ ?_))
                      clear hK53 K53
                      refine c_ret ?_
                      refine bp_ret Tryz.results26 rfl ?_
                      exact ⟨rfl, _, _, _, _, _, _, _, _, _, h, by omega⟩
end Go.Proofs.Qxb6500568aGreatDoor
