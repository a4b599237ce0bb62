import Derived.Test.Qxb6500570aGreatTb
/- The law: one step. -/
namespace Go.Proofs.Qxb6500570aGreat
set_option linter.unusedVariables false
set_option linter.unusedSimpArgs false

theorem pick84 {w : World} {c : Int} {n : Nat} (hn : 0 < n) (h1 : -9223372036854775808 ≤ c) (h2 : c ≤ 9223372036854775807) : Ret Tryz.prog 84 [icv c, i64c n] w (fun r w' => (∃ i, r = i64c i ∧ i < n) ∧ w' = w) := by
  have hrem : ∀ x : Int, 0 ≤ x → ∃ i : Nat, x.tmod (n : Int) = (i : Int) ∧ i < n := by
    intro x hx
    refine ⟨(x.tmod (n : Int)).toNat, ?_, ?_⟩
    · have := Int.tmod_nonneg (n : Int) hx; omega
    · have := Int.tmod_lt_of_pos x (show (0 : Int) < n by omega); have := Int.tmod_nonneg (n : Int) hx; omega
  refine ret_of Tryz.func84 rfl Tryz.ntmps84 rfl ?_
  refine c_seq (fun K1 hK1 => ?_)
  refine c_reg ?_ -- region 0 law.go:43
  refine wl (ro_assign rfl) ?_
  refine wl_nil (x_then (hK1 _ _ ?_))
  clear hK1 K1
  refine c_seq (fun K2 hK2 => ?_)
  refine c_seq (fun K3 hK3 => ?_)
  refine c_reg ?_ -- region 1 law.go:44
  refine wl (ro_move rfl) ?_
  refine wl (ro_cmp rfl rfl rfl) ?_
  refine wl_nil (x_then (hK3 _ _ ?_))
  clear hK3 K3
  refine wc_cond rfl (fun hc6 => ?_) (fun hc6 => ?_)
  · try simp only [decide_eq_true_eq, decide_eq_false_iff_not, Bool.not_eq_true', Bool.not_eq_false', Bool.not_eq_eq_eq_not, Bool.not_true, Bool.not_false, beq_iff_eq, bne_iff_ne, ne_eq, beq_eq_false_iff_ne, bne_eq_false_iff_eq, gt_iff_lt, ge_iff_le, Int.not_lt, Int.not_le] at hc6
    obtain ⟨i, hi, hin⟩ := hrem (-(c + 1)) (by omega)
    refine c_reg ?_ -- region 2 law.go:45
    refine wl (ro_move rfl) ?_
    refine wl (ro_arith rfl rfl rfl (Go.IntWalk.i64_in _ (by omega))) ?_
    refine wl (ro_neg rfl (⟨by omega, by omega⟩)) ?_
    refine wl (ro_assign rfl) ?_
    refine wl_nil (x_then (hK2 _ _ ?_))
    clear hK2 K2
    refine forget [(0, _), (1, _)] ⟨rfl, rfl, trivial⟩ (fun e => ?_)
    refine c_seq (fun K4 hK4 => ?_)
    refine c_reg ?_ -- region 3 law.go:47
    refine wl (ro_move rfl) ?_
    refine wl (ro_move rfl) ?_
    refine wl (ro_rem rfl rfl (by omega)) ?_
    refine wl (ro_assign rfl) ?_
    refine wl_nil (x_then (hK4 _ _ ?_))
    clear hK4 K4
    refine c_ret ?_
    refine bp_ret Tryz.results84 rfl ?_
    exact ⟨⟨i, by simp only [i64c]; rw [← hi], hin⟩, rfl⟩
  · try simp only [decide_eq_true_eq, decide_eq_false_iff_not, Bool.not_eq_true', Bool.not_eq_false', Bool.not_eq_eq_eq_not, Bool.not_true, Bool.not_false, beq_iff_eq, bne_iff_ne, ne_eq, beq_eq_false_iff_ne, bne_eq_false_iff_eq, gt_iff_lt, ge_iff_le, Int.not_lt, Int.not_le] at hc6
    obtain ⟨i, hi, hin⟩ := hrem c (by omega)
    refine c_skip (x_then (hK2 _ _ ?_))
    clear hK2 K2
    refine forget [(0, _), (1, _)] ⟨rfl, rfl, trivial⟩ (fun e => ?_)
    refine c_seq (fun K5 hK5 => ?_)
    refine c_reg ?_ -- region 3 law.go:47
    refine wl (ro_move rfl) ?_
    refine wl (ro_move rfl) ?_
    refine wl (ro_rem rfl rfl (by omega)) ?_
    refine wl (ro_assign rfl) ?_
    refine wl_nil (x_then (hK5 _ _ ?_))
    clear hK5 K5
    refine c_ret ?_
    refine bp_ret Tryz.results84 rfl ?_
    exact ⟨⟨i, by simp only [i64c]; rw [← hi], hin⟩, rfl⟩
abbrev opl (k a b c : Int) (s t : Tx) : List Value := [icv k, icv a, icv b, icv c, S s, S t]
theorem opl_cells (k a b c : Int) (s t : Tx) : ∀ u ∈ opl k a b c s t, u.oneCell' = true := by
  intro u hu
  simp only [opl, List.mem_cons, List.not_mem_nil, or_false] at hu
  rcases hu with rfl | rfl | rfl | rfl | rfl | rfl <;> rfl
set_option maxHeartbeats 32000000 in
theorem step55 {w0 w : World} {wb N : Nat} {k a b c : Int} {s t : Tx} (I : WI w0 w wb N) (hN : N ≤ 2000000000) (ha1 : -9223372036854775808 ≤ a) (ha2 : a ≤ 9223372036854775807) (hb1 : -9223372036854775808 ≤ b) (hb2 : b ≤ 9223372036854775807) :
    Ret Tryz.prog 55 [ptr wb, .agg (opl k a b c s t).toArray] w (fun v w' => v = .bool true ∧ WI w0 w' wb (N + 1)) := by
  obtain ⟨ow, Vx, Vm, Vt, L, TL, h, hNL⟩ := I
  obtain ⟨ax, cx, rfl⟩ := h.ox.form
  obtain ⟨am, cm, rfl⟩ := h.om.form
  obtain ⟨at', ct, rfl⟩ := h.ot.form
  have lx : (L.map (fun E => ptr E.X.k)).length = L.length := List.length_map _
  have lm : (L.map (fun E => ptr E.Y.k)).length = L.length := List.length_map _
  have lt : (TL.map S).length = TL.length := List.length_map _
  generalize (L.map (fun E => ptr E.X.k)).length = nx at h lx
  generalize (L.map (fun E => ptr E.Y.k)).length = nm at h lm
  generalize (TL.map S).length = nt at h lt
  have hB := h.hB
  have hz0 : ∀ (i : Nat) (E : EN), L[i]? = some E → E.h2 ≤ w.heap.size := fun i E hE => (h.en i E hE).hz
  refine ret_of Tryz.func55 rfl Tryz.ntmps55 rfl ?_
  refine c_seq (fun K1 hK1 => ?_)
  refine c_reg ?_ -- region 0 law.go:129
  refine wl_box (cs := (opl k a b c s t)) rfl rfl (fun b3 w1 hbb3 h3 F1 => ?_)
  have hnewbb3 : wb < b3 := Nat.lt_of_lt_of_le hB.lt hbb3
  replace hB := F1.blkN hB
  replace h := h.farN F1
  refine wl (ro_assign rfl) ?_
  refine wl_nil (x_then (hK1 _ _ ?_))
  clear hK1 K1
  refine c_seq (fun K2 hK2 => ?_)
  refine c_seq (fun K3 hK3 => ?_)
  refine c_reg ?_ -- region 1 law.go:130
  refine wl (ro_fieldAddr (k := 0) rfl fo_70_0) ?_
  refine wl (ro_loadB rfl sc_3 (h3) (rfl)) ?_
  refine wl (ro_cmp (r := decide (k = 1)) rfl rfl rfl) ?_
  refine wl_nil (x_then (hK3 _ _ ?_))
  clear hK3 K3
  refine wc_cond rfl (fun hc37 => ?_) (fun hc37 => ?_)
  · try simp only [decide_eq_true_eq, decide_eq_false_iff_not, Bool.not_eq_true', Bool.not_eq_false', Bool.not_eq_eq_eq_not, Bool.not_true, Bool.not_false, beq_iff_eq, bne_iff_ne, ne_eq, beq_eq_false_iff_ne, bne_eq_false_iff_eq, gt_iff_lt, ge_iff_le, Int.not_lt, Int.not_le] at hc37
    refine c_seq (fun K4 hK4 => ?_)
    refine c_reg ?_ -- region 2 law.go:131
    refine wl_call rfl en_5 (tower5) ?_
    rintro _ u1 ⟨⟨X, rfl, hx, hX⟩, G1⟩
    replace hB := G1.blkF hB (by intro h; simp only [none'] at h <;> omega)
    replace h3 := G1.blkF h3 (by intro h; simp only [none'] at h <;> omega)
    have z1 := G1.size
    refine wl (ro_assign rfl) ?_
    refine wl_nil (x_then (hK4 _ _ ?_))
    clear hK4 K4
    refine forget [(0, _), (5, _)] ⟨rfl, rfl, trivial⟩ (fun e => ?_)
    refine c_seq (fun K5 hK5 => ?_)
    refine c_reg ?_ -- region 3 law.go:132
    refine wl_call rfl en_6 (New6 (O := fun b ↦ owU ow w1 (L.length + 1) b = L.length + 1)) ?_
    rintro _ u2 ⟨⟨Y, sb, rfl, hb, hsb, hY⟩, G2⟩
    replace hB := G2.blkF hB (by intro h; simp only [none'] at h <;> omega)
    replace h3 := G2.blkF h3 (by intro h; simp only [none'] at h <;> omega)
    have z2 := G2.size
    have hE : EnOK u2 (owU ow w1 (L.length + 1)) L.length ⟨X, Y, w1.heap.size, u1.heap.size, u1.heap.size, u2.heap.size, zL, [], [], .slice none 0 0, .slice none 0 0, sb⟩ := ⟨hx, hb, Nat.le_refl _, Nat.le_refl _, hX.farN hx G2, hY, fun b q _ => owU_ge q, fun b q _ => owU_ge (Nat.le_trans z1 q), (fun b q => (by cases q)), (fun b q => (by cases q)), owU_ge (Nat.le_trans z1 hsb)⟩
    have h2 := h.farN (G1.trans G2)
    refine wl (ro_assign rfl) ?_
    refine wl_nil (x_then (hK5 _ _ ?_))
    clear hK5 K5
    refine forget [(0, _), (5, _), (6, _)] ⟨rfl, rfl, rfl, trivial⟩ (fun e => ?_)
    refine c_seq (fun K6 hK6 => ?_)
    refine c_reg ?_ -- region 4 law.go:133
    refine wl (ro_move rfl) ?_
    refine wl (ro_move rfl) ?_
    refine wl (ro_nilCheck rfl) ?_
    refine wl (ro_fieldAddr (k := 0) rfl fo_75_0) ?_
    refine wl (ro_loadB rfl sc_72 (by assumption) rfl) ?_
    refine wl (ro_move rfl) ?_
    skip
    refine wl_app1 (u := ptr X.k) (xs := L.map (fun E => ptr E.X.k)) rfl rfl rfl rfl se_72 zx_22 by_22 rfl h2.ox (by rw [List.length_map]; omega) (by rw [List.length_map]; omega) (fun V' u3 ox' G3 nbx ↦ ?_)
    have hwx : ∀ c, own1 (Value.slice ax nx cx) c → c ≠ wb := fun c q => h2.ox.ne h2.hB (by decide) c q
    replace hB := G3.blkF hB (fun q => hwx wb q rfl)
    obtain ⟨g1, f1, c1, l1, rfl, _⟩ := (id ox').resolve_left (fun q => by simp at q)
    refine wl (ro_nilCheck rfl) ?_
    refine wl (ro_fieldAddr (k := 0) rfl fo_75_0) ?_
    refine wl_put rfl rfl rfl sz_72 hB ((by simp)) (rfl) (fun w2 hB F2 => ?_)
    have Fa := F2
    have hom4 := (h2.om.fram G3 (fun b q z => h2.ox.disj h2.om (by decide) b z q)).fram Fa (fun b q z => h2.om.ne h2.hB (by decide) b q z)
    refine wl_nil (x_then (hK6 _ _ ?_))
    clear hK6 K6
    refine forget [(0, _), (6, _)] ⟨rfl, rfl, trivial⟩ (fun e => ?_)
    refine c_seq (fun K7 hK7 => ?_)
    refine c_reg ?_ -- region 5 law.go:134
    refine wl (ro_move rfl) ?_
    refine wl (ro_move rfl) ?_
    refine wl (ro_nilCheck rfl) ?_
    refine wl (ro_fieldAddr (k := 1) rfl fo_75_1) ?_
    refine wl (ro_loadB rfl sc_73 (by assumption) rfl) ?_
    refine wl (ro_move rfl) ?_
    skip
    refine wl_app1 (u := ptr Y.k) (xs := L.map (fun E => ptr E.Y.k)) rfl rfl rfl rfl se_73 zx_24 by_24 rfl hom4 (by rw [List.length_map]; omega) (by rw [List.length_map]; omega) (fun V2' u5 om' G5 nbm ↦ ?_)
    replace hB := G5.blkF hB (fun q => h2.om.ne h2.hB (by decide) wb q rfl)
    obtain ⟨g2, f2, c2, l2, rfl, _⟩ := (id om').resolve_left (fun q => by simp at q)
    refine wl (ro_nilCheck rfl) ?_
    refine wl (ro_fieldAddr (k := 1) rfl fo_75_1) ?_
    refine wl_put rfl rfl rfl sz_73 hB ((by simp)) (rfl) (fun w3 hB F3 => ?_)
    have Fb := F3
    refine wl_nil (x_then (hK7 _ _ ?_))
    clear hK7 K7
    refine forget [] trivial (fun e => ?_)
    refine c_seq (fun K8 hK8 => ?_)
    refine c_reg ?_ -- region 6 law.go:135
    refine wl (ro_assign rfl) ?_
    refine wl_nil (x_then (hK8 _ _ ?_))
    clear hK8 K8
    refine c_ret (x_thenR ?_)
    refine bp_ret Tryz.results55 rfl ?_
    have hW := h.book (G1.trans G2) hE G3 Fa G5 Fb ox' nbx om' nbm hB
    exact ⟨rfl, _, _, _, _, _, _, hW, by simp; omega⟩
  · try simp only [decide_eq_true_eq, decide_eq_false_iff_not, Bool.not_eq_true', Bool.not_eq_false', Bool.not_eq_eq_eq_not, Bool.not_true, Bool.not_false, beq_iff_eq, bne_iff_ne, ne_eq, beq_eq_false_iff_ne, bne_eq_false_iff_eq, gt_iff_lt, ge_iff_le, Int.not_lt, Int.not_le] at hc37
    refine c_skip (x_then (hK2 _ _ ?_))
    clear hK2 K2
    refine c_seq (fun K9 hK9 => ?_)
    refine c_seq (fun K10 hK10 => ?_)
    refine c_reg ?_ -- region 7 law.go:137
    refine wl (ro_move rfl) ?_
    refine wl (ro_nilCheck rfl) ?_
    refine wl (ro_fieldAddr (k := 0) rfl fo_75_0) ?_
    refine wl (ro_loadB rfl sc_72 (by assumption) rfl) ?_
    refine wl (ro_lenL rfl se_72) ?_
    refine wl (ro_cmp (r := decide (L.length = 0)) rfl rfl (congrArg some (decide_eq_decide.2 (by omega)))) ?_
    refine wl_nil (x_then (hK10 _ _ ?_))
    clear hK10 K10
    refine wc_cond rfl (fun hc65 => ?_) (fun hc65 => ?_)
    · try simp only [decide_eq_true_eq, decide_eq_false_iff_not, Bool.not_eq_true', Bool.not_eq_false', Bool.not_eq_eq_eq_not, Bool.not_true, Bool.not_false, beq_iff_eq, bne_iff_ne, ne_eq, beq_eq_false_iff_ne, bne_eq_false_iff_eq, gt_iff_lt, ge_iff_le, Int.not_lt, Int.not_le] at hc65
      refine c_seq (fun K11 hK11 => ?_)
      refine c_reg ?_ -- region 8 law.go:138
      refine wl (ro_assign rfl) ?_
      refine wl_nil (x_then (hK11 _ _ ?_))
      clear hK11 K11
      refine c_ret (x_thenR ?_)
      refine bp_ret Tryz.results55 rfl ?_
      exact ⟨rfl, _, _, _, _, _, _, h, by omega⟩
    · try simp only [decide_eq_true_eq, decide_eq_false_iff_not, Bool.not_eq_true', Bool.not_eq_false', Bool.not_eq_eq_eq_not, Bool.not_true, Bool.not_false, beq_iff_eq, bne_iff_ne, ne_eq, beq_eq_false_iff_ne, bne_eq_false_iff_eq, gt_iff_lt, ge_iff_le, Int.not_lt, Int.not_le] at hc65
      have hpos : 0 < nx := by omega
      obtain ⟨gx, fx, cx', lxl, ex, hBx, _, _, _, x6⟩ := (id h.ox).resolve_left (fun q => by have := congrArg List.length q.2; rw [List.length_map] at this; simp at this; exact hc65 (by rw [this]; rfl))
      injection ex with e1 e2 e3
      subst e1 e3
      obtain ⟨gm, fm, cm', lml, em, hBm, _, _, _, m6⟩ := (id h.om).resolve_left (fun q => by have := congrArg List.length q.2; rw [List.length_map] at this; simp at this; exact hc65 (by rw [this]; rfl))
      injection em with e1 e2 e3
      subst e1 e3
      refine c_skip (x_then (hK9 _ _ ?_))
      clear hK9 K9
      refine forget [(0, _), (3, _)] ⟨rfl, rfl, trivial⟩ (fun e => ?_)
      refine c_seq (fun K12 hK12 => ?_)
      refine c_pi [(0, false), (1, false), (2, false), (3, false), (4, false), (5, false), (6, false), (7, true), (8, false)] (fun w' => Blk w'.heap wb [.slice (some ⟨gx, fx, none⟩) nx cx, .slice (some ⟨gm, fm, none⟩) nm cm, .slice at' nt ct] 75 ∧ Blk w'.heap b3 (opl k a b c s t) 70) mixed (by kernel_rfl) rfl (by kernel_rfl) (po_then (po_bp)) (⟨hB, h3⟩) ?_ -- region 9 law.go:140
      refine pi_ro rfl (fun w hS => ro_fieldAddr (k := 1) rfl fo_70_1) ?_
      refine pi_ro rfl (fun w hS => ro_loadB rfl sc_3 (hS.2) (rfl)) ?_
      refine pi_ro rfl (fun w hS => ro_move rfl) ?_
      refine pi_ro rfl (fun w hS => ro_nilCheck rfl) ?_
      refine pi_ro rfl (fun w hS => ro_fieldAddr (k := 0) rfl fo_75_0) ?_
      refine pi_ro rfl (fun w hS => ro_loadB rfl sc_72 (hS.1) (rfl)) ?_
      refine pi_ro rfl (fun w hS => ro_lenL rfl se_72) ?_
      refine pi_call rfl rfl en_84 (pick84 (c := a) (n := nx) hpos ha1 ha2) ?_
      rintro _ _ ⟨⟨i, rfl, hi⟩, rfl⟩
      rw [lx] at hi
      obtain ⟨E, hE⟩ : ∃ E, L[i]? = some E := ⟨_, List.getElem?_eq_getElem hi⟩
      replace h : WS w0 { w1 with drawn := w1.drawn + 1 } ow wb _ _ _ L TL := h.farN (Fram.drew none' w1 _)
      have hO := h.en i E hE
      have hEz := hz0 i E hE
      have hE1 := hO.hl
      have hE2 := hO.hb.loh
      have hE3 := hO.hb.hk
      have hE4 := hO.hb.kh
      have hn6 := hO.bx.n6
      have hzx : E.h1 ≤ ({ w1 with drawn := w1.drawn + 1 } : World).heap.size := by (have := hO.hz; omega)
      refine ⟨⟨hB, h3⟩, ?_⟩
      refine pi_ro rfl (fun w hS => ro_assign rfl) ?_
      refine pi_nil (x_then (hK12 _ _ ?_))
      clear hK12 K12
      refine forget [(0, _), (3, _), (7, _)] ⟨rfl, rfl, rfl, trivial⟩ (fun e => ?_)
      refine c_seq (fun K13 hK13 => ?_)
      refine c_reg ?_ -- region 10 law.go:141
      refine wl (ro_move rfl) ?_
      refine wl (ro_nilCheck rfl) ?_
      refine wl (ro_fieldAddr (k := 0) rfl fo_75_0) ?_
      refine wl (ro_loadB rfl sc_72 (by assumption) rfl) ?_
      refine wl (ro_move rfl) ?_
      refine wl (ro_indexAddr (et := 22) (k := 1) rfl rfl se_72 (rfl) ((by omega))) ?_
      refine wl (ro_loadB rfl sc_22 (hBx) ((by rw [Nat.mul_one]; exact ow_get x6 (by rw [List.getElem?_map, hE]; rfl)))) ?_
      refine wl (ro_assign rfl) ?_
      refine wl_nil (x_then (hK13 _ _ ?_))
      clear hK13 K13
      refine forget [(0, _), (3, _), (7, _), (8, _)] ⟨rfl, rfl, rfl, rfl, trivial⟩ (fun e => ?_)
      refine c_seq (fun K14 hK14 => ?_)
      refine c_reg ?_ -- region 11 law.go:142
      refine wl (ro_move rfl) ?_
      refine wl (ro_nilCheck rfl) ?_
      refine wl (ro_fieldAddr (k := 1) rfl fo_75_1) ?_
      refine wl (ro_loadB rfl sc_73 (by assumption) rfl) ?_
      refine wl (ro_move rfl) ?_
      refine wl (ro_indexAddr (et := 24) (k := 1) rfl rfl se_73 (rfl) ((by omega))) ?_
      refine wl (ro_loadB rfl sc_24 (hBm) ((by rw [Nat.mul_one]; exact ow_get m6 (by rw [List.getElem?_map, hE]; rfl)))) ?_
      refine wl (ro_assign rfl) ?_
      refine wl_nil (x_then (hK14 _ _ ?_))
      clear hK14 K14
      refine c_seq (fun K15 hK15 => ?_)
      refine c_seq (fun K16 hK16 => ?_)
      refine c_reg ?_ -- region 12 law.go:143
      refine wl (ro_fieldAddr (k := 0) rfl fo_70_0) ?_
      refine wl (ro_loadB rfl sc_3 (h3) (rfl)) ?_
      refine wl_nil (x_then (hK16 _ _ ?_))
      clear hK16 K16
      refine c_block ?_
      refine forget [(0, _), (3, _), (8, _), (9, _), (89, _)] ⟨rfl, rfl, rfl, rfl, rfl, trivial⟩ (fun e => ?_)
      refine c_seq (fun K17 hK17 => ?_)
      refine c_reg ?_ -- region 13 law.go:144
      refine wl (ro_cmp rfl rfl rfl) ?_
      refine wl (ro_assign rfl) ?_
      refine wl_nil (x_then (hK17 _ _ ?_))
      clear hK17 K17
      refine wc_cond rfl (fun hc90 => ?_) (fun hc90 => ?_)
      · try simp only [decide_eq_true_eq, decide_eq_false_iff_not, Bool.not_eq_true', Bool.not_eq_false', Bool.not_eq_eq_eq_not, Bool.not_true, Bool.not_false, beq_iff_eq, bne_iff_ne, ne_eq, beq_eq_false_iff_ne, bne_eq_false_iff_eq, gt_iff_lt, ge_iff_le, Int.not_lt, Int.not_le] at hc90
        refine c_seq (fun K18 hK18 => ?_)
        refine c_reg ?_ -- region 14 law.go:145
        refine wl (ro_move rfl) ?_
        refine wl (ro_fieldAddr (k := 2) rfl fo_70_2) ?_
        refine wl (ro_loadB rfl sc_3 (h3) (rfl)) ?_
        refine wl (ro_fieldAddr (k := 4) rfl fo_70_4) ?_
        refine wl (ro_loadB rfl sc_9 (h3) (rfl)) ?_
        refine wl_call rfl en_10 (Set10 hO.hx hzx hO.bx) ?_
        rintro _ u3 ⟨rfl, hX3, G3⟩
        replace h3 := G3.blkF h3 (fun q => by have := q.2; omega)
        refine wl (ro_assign rfl) ?_
        refine wl_nil (x_then (hK18 _ _ ?_))
        clear hK18 K18
        refine forget [(3, _), (9, _), (10, _)] ⟨rfl, rfl, rfl, trivial⟩ (fun e => ?_)
        refine c_seq (fun K19 hK19 => ?_)
        refine c_reg ?_ -- region 15 law.go:146
        refine wl (ro_move rfl) ?_
        refine wl (ro_fieldAddr (k := 2) rfl fo_70_2) ?_
        refine wl (ro_loadB rfl sc_3 (h3) (rfl)) ?_
        refine wl (ro_fieldAddr (k := 4) rfl fo_70_4) ?_
        refine wl (ro_loadB rfl sc_9 (h3) (rfl)) ?_
        refine wl_call rfl en_11 (Set11 hO.hb (hO.my.real hO.hb hO.hl G3) (by omega)) ?_
        rintro _ u4 ⟨rfl, hP⟩
        refine wl (ro_assign rfl) ?_
        refine wl_nil (x_then (hK19 _ _ ?_))
        clear hK19 K19
        refine forget [(10, _), (11, _)] ⟨rfl, rfl, trivial⟩ (fun e => ?_)
        refine c_seq (fun K20 hK20 => ?_)
        refine c_reg ?_ -- region 16 law.go:147
        refine wl (ro_move rfl) ?_
        refine wl (ro_move rfl) ?_
        refine wl (ro_cmp (r := true) rfl rfl (congrArg some (by simp))) ?_
        refine wl (ro_assign rfl) ?_
        refine wl_nil (x_then (hK20 _ _ ?_))
        clear hK20 K20
        refine c_ret (x_blkR (x_thenR ?_))
        refine bp_ret Tryz.results55 rfl ?_
        obtain ⟨E', hW⟩ := h.pair hE G3 hX3 hP
        exact ⟨rfl, _, _, _, _, _, _, hW, by rw [List.length_set]; omega⟩
      · try simp only [decide_eq_true_eq, decide_eq_false_iff_not, Bool.not_eq_true', Bool.not_eq_false', Bool.not_eq_eq_eq_not, Bool.not_true, Bool.not_false, beq_iff_eq, bne_iff_ne, ne_eq, beq_eq_false_iff_ne, bne_eq_false_iff_eq, gt_iff_lt, ge_iff_le, Int.not_lt, Int.not_le] at hc90
        refine c_seq (fun K21 hK21 => ?_)
        refine c_reg ?_ -- region 17 law.go:148
        refine wl (ro_cmp rfl rfl rfl) ?_
        refine wl (ro_assign rfl) ?_
        refine wl_nil (x_then (hK21 _ _ ?_))
        clear hK21 K21
        refine wc_cond rfl (fun hc107 => ?_) (fun hc107 => ?_)
        · try simp only [decide_eq_true_eq, decide_eq_false_iff_not, Bool.not_eq_true', Bool.not_eq_false', Bool.not_eq_eq_eq_not, Bool.not_true, Bool.not_false, beq_iff_eq, bne_iff_ne, ne_eq, beq_eq_false_iff_ne, bne_eq_false_iff_eq, gt_iff_lt, ge_iff_le, Int.not_lt, Int.not_le] at hc107
          refine c_seq (fun K22 hK22 => ?_)
          refine c_reg ?_ -- region 18 law.go:149
          refine wl (ro_move rfl) ?_
          refine wl (ro_fieldAddr (k := 2) rfl fo_70_2) ?_
          refine wl (ro_loadB rfl sc_3 (h3) (rfl)) ?_
          refine wl (ro_fieldAddr (k := 3) rfl fo_70_3) ?_
          refine wl (ro_loadB rfl sc_3 (h3) (rfl)) ?_
          refine wl_call rfl en_12 (Edit12 hO.hx hzx hO.bx) ?_
          rintro _ u3 ⟨rfl, hX3, G3⟩
          replace h3 := G3.blkF h3 (fun q => by have := q.2; omega)
          refine wl (ro_assign rfl) ?_
          refine wl_nil (x_then (hK22 _ _ ?_))
          clear hK22 K22
          refine forget [(3, _), (9, _), (12, _)] ⟨rfl, rfl, rfl, trivial⟩ (fun e => ?_)
          refine c_seq (fun K23 hK23 => ?_)
          refine c_reg ?_ -- region 19 law.go:150
          refine wl (ro_move rfl) ?_
          refine wl (ro_fieldAddr (k := 2) rfl fo_70_2) ?_
          refine wl (ro_loadB rfl sc_3 (h3) (rfl)) ?_
          refine wl (ro_fieldAddr (k := 3) rfl fo_70_3) ?_
          refine wl (ro_loadB rfl sc_3 (h3) (rfl)) ?_
          refine wl_call rfl en_13 (Edit13 hO.hb (hO.my.real hO.hb hO.hl G3) (by omega)) ?_
          rintro _ u4 ⟨rfl, hP⟩
          refine wl (ro_assign rfl) ?_
          refine wl_nil (x_then (hK23 _ _ ?_))
          clear hK23 K23
          refine forget [(12, _), (13, _)] ⟨rfl, rfl, trivial⟩ (fun e => ?_)
          refine c_seq (fun K24 hK24 => ?_)
          refine c_reg ?_ -- region 20 law.go:151
          refine wl (ro_move rfl) ?_
          refine wl (ro_move rfl) ?_
          refine wl (ro_cmp (r := true) rfl rfl (congrArg some (by simp))) ?_
          refine wl (ro_assign rfl) ?_
          refine wl_nil (x_then (hK24 _ _ ?_))
          clear hK24 K24
          refine c_ret (x_blkR (x_thenR ?_))
          refine bp_ret Tryz.results55 rfl ?_
          obtain ⟨E', hW⟩ := h.pair hE G3 hX3 hP
          exact ⟨rfl, _, _, _, _, _, _, hW, by rw [List.length_set]; omega⟩
        · try simp only [decide_eq_true_eq, decide_eq_false_iff_not, Bool.not_eq_true', Bool.not_eq_false', Bool.not_eq_eq_eq_not, Bool.not_true, Bool.not_false, beq_iff_eq, bne_iff_ne, ne_eq, beq_eq_false_iff_ne, bne_eq_false_iff_eq, gt_iff_lt, ge_iff_le, Int.not_lt, Int.not_le] at hc107
          refine c_seq (fun K25 hK25 => ?_)
          refine c_reg ?_ -- region 21 law.go:152
          refine wl (ro_cmp rfl rfl rfl) ?_
          refine wl (ro_assign rfl) ?_
          refine wl_nil (x_then (hK25 _ _ ?_))
          clear hK25 K25
          refine wc_cond rfl (fun hc124 => ?_) (fun hc124 => ?_)
          · try simp only [decide_eq_true_eq, decide_eq_false_iff_not, Bool.not_eq_true', Bool.not_eq_false', Bool.not_eq_eq_eq_not, Bool.not_true, Bool.not_false, beq_iff_eq, bne_iff_ne, ne_eq, beq_eq_false_iff_ne, bne_eq_false_iff_eq, gt_iff_lt, ge_iff_le, Int.not_lt, Int.not_le] at hc124
            refine c_seq (fun K26 hK26 => ?_)
            refine c_reg ?_ -- region 22 law.go:153
            refine wl (ro_move rfl) ?_
            refine wl (ro_fieldAddr (k := 2) rfl fo_70_2) ?_
            refine wl (ro_loadB rfl sc_3 (h3) (rfl)) ?_
            refine wl (ro_fieldAddr (k := 3) rfl fo_70_3) ?_
            refine wl (ro_loadB rfl sc_3 (h3) (rfl)) ?_
            refine wl_call rfl en_14 (Copy14 hO.hx hzx hO.bx) ?_
            rintro _ u3 ⟨rfl, hX3, G3⟩
            replace h3 := G3.blkF h3 (fun q => by have := q.2; omega)
            refine wl (ro_assign rfl) ?_
            refine wl_nil (x_then (hK26 _ _ ?_))
            clear hK26 K26
            refine forget [(3, _), (9, _), (14, _)] ⟨rfl, rfl, rfl, trivial⟩ (fun e => ?_)
            refine c_seq (fun K27 hK27 => ?_)
            refine c_reg ?_ -- region 23 law.go:154
            refine wl (ro_move rfl) ?_
            refine wl (ro_fieldAddr (k := 2) rfl fo_70_2) ?_
            refine wl (ro_loadB rfl sc_3 (h3) (rfl)) ?_
            refine wl (ro_fieldAddr (k := 3) rfl fo_70_3) ?_
            refine wl (ro_loadB rfl sc_3 (h3) (rfl)) ?_
            refine wl_call rfl en_15 (Copy15 hO.hb (hO.my.real hO.hb hO.hl G3) (by omega)) ?_
            rintro _ u4 ⟨rfl, hP⟩
            refine wl (ro_assign rfl) ?_
            refine wl_nil (x_then (hK27 _ _ ?_))
            clear hK27 K27
            refine forget [(14, _), (15, _)] ⟨rfl, rfl, trivial⟩ (fun e => ?_)
            refine c_seq (fun K28 hK28 => ?_)
            refine c_reg ?_ -- region 24 law.go:155
            refine wl (ro_move rfl) ?_
            refine wl (ro_move rfl) ?_
            refine wl (ro_cmp (r := true) rfl rfl (congrArg some (by simp))) ?_
            refine wl (ro_assign rfl) ?_
            refine wl_nil (x_then (hK28 _ _ ?_))
            clear hK28 K28
            refine c_ret (x_blkR (x_thenR ?_))
            refine bp_ret Tryz.results55 rfl ?_
            obtain ⟨E', hW⟩ := h.pair hE G3 hX3 hP
            exact ⟨rfl, _, _, _, _, _, _, hW, by rw [List.length_set]; omega⟩
          · try simp only [decide_eq_true_eq, decide_eq_false_iff_not, Bool.not_eq_true', Bool.not_eq_false', Bool.not_eq_eq_eq_not, Bool.not_true, Bool.not_false, beq_iff_eq, bne_iff_ne, ne_eq, beq_eq_false_iff_ne, bne_eq_false_iff_eq, gt_iff_lt, ge_iff_le, Int.not_lt, Int.not_le] at hc124
            refine c_seq (fun K29 hK29 => ?_)
            refine c_reg ?_ -- region 25 law.go:156
            refine wl (ro_cmp rfl rfl rfl) ?_
            refine wl (ro_assign rfl) ?_
            refine wl_nil (x_then (hK29 _ _ ?_))
            clear hK29 K29
            refine wc_cond rfl (fun hc141 => ?_) (fun hc141 => ?_)
            · try simp only [decide_eq_true_eq, decide_eq_false_iff_not, Bool.not_eq_true', Bool.not_eq_false', Bool.not_eq_eq_eq_not, Bool.not_true, Bool.not_false, beq_iff_eq, bne_iff_ne, ne_eq, beq_eq_false_iff_ne, bne_eq_false_iff_eq, gt_iff_lt, ge_iff_le, Int.not_lt, Int.not_le] at hc141
              refine c_seq (fun K30 hK30 => ?_)
              rcases nil_snoc E.past with hpe | ⟨p0, A, hpe⟩
              · skip
                have bx := hO.bx
                have my := hO.my
                rw [hpe] at bx my
                refine c_reg ?_ -- region 26 law.go:157
                refine wl (ro_move rfl) ?_
                refine wl_call rfl en_16 (Undo16N bx) ?_
                rintro _ u0 ⟨rfl, hw0⟩
                rw [hw0]
                clear hw0 u0
                refine wl (ro_assign rfl) ?_
                refine wl_nil (x_then (hK30 _ _ ?_))
                clear hK30 K30
                refine forget [(9, _), (16, _)] ⟨rfl, rfl, trivial⟩ (fun e => ?_)
                refine c_seq (fun K31 hK31 => ?_)
                refine c_reg ?_ -- region 27 law.go:158
                refine wl (ro_move rfl) ?_
                refine wl_call rfl en_17 (Undo17N my) ?_
                rintro _ u0 ⟨rfl, hw0⟩
                rw [hw0]
                clear hw0 u0
                refine wl (ro_assign rfl) ?_
                refine wl_nil (x_then (hK31 _ _ ?_))
                clear hK31 K31
                refine forget [(16, _), (17, _)] ⟨rfl, rfl, trivial⟩ (fun e => ?_)
                refine c_seq (fun K32 hK32 => ?_)
                refine c_reg ?_ -- region 28 law.go:159
                refine wl (ro_move rfl) ?_
                refine wl (ro_move rfl) ?_
                refine wl (ro_cmp (r := true) rfl rfl (congrArg some (by simp))) ?_
                refine wl (ro_assign rfl) ?_
                refine wl_nil (x_then (hK32 _ _ ?_))
                clear hK32 K32
                refine c_ret (x_blkR (x_thenR ?_))
                refine bp_ret Tryz.results55 rfl ?_
                exact ⟨rfl, _, _, _, _, _, _, h, by omega⟩
              · skip
                have bx := hO.bx
                have my := hO.my
                have hn7 : p0.length + E.next.length ≤ 6 := by (rw [hpe] at hn6; simp only [List.length_append, List.length_singleton] at hn6; omega)
                rw [hpe] at bx my
                refine c_reg ?_ -- region 26 law.go:157
                refine wl (ro_move rfl) ?_
                refine wl_call rfl en_16 (Undo16 hO.hx hzx bx) ?_
                rintro _ u3 ⟨rfl, hX3, G3⟩
                refine wl (ro_assign rfl) ?_
                refine wl_nil (x_then (hK30 _ _ ?_))
                clear hK30 K30
                refine forget [(9, _), (16, _)] ⟨rfl, rfl, trivial⟩ (fun e => ?_)
                refine c_seq (fun K33 hK33 => ?_)
                refine c_reg ?_ -- region 27 law.go:158
                refine wl (ro_move rfl) ?_
                refine wl_call rfl en_17 (Undo17 hO.hb (my.real hO.hb hO.hl G3) (by omega)) ?_
                rintro _ u4 ⟨rfl, hP⟩
                refine wl (ro_assign rfl) ?_
                refine wl_nil (x_then (hK33 _ _ ?_))
                clear hK33 K33
                refine forget [(16, _), (17, _)] ⟨rfl, rfl, trivial⟩ (fun e => ?_)
                refine c_seq (fun K34 hK34 => ?_)
                refine c_reg ?_ -- region 28 law.go:159
                refine wl (ro_move rfl) ?_
                refine wl (ro_move rfl) ?_
                refine wl (ro_cmp (r := true) rfl rfl (congrArg some (by simp))) ?_
                refine wl (ro_assign rfl) ?_
                refine wl_nil (x_then (hK34 _ _ ?_))
                clear hK34 K34
                refine c_ret (x_blkR (x_thenR ?_))
                refine bp_ret Tryz.results55 rfl ?_
                obtain ⟨E', hW⟩ := h.pair hE G3 hX3 hP
                exact ⟨rfl, _, _, _, _, _, _, hW, by rw [List.length_set]; omega⟩
            · try simp only [decide_eq_true_eq, decide_eq_false_iff_not, Bool.not_eq_true', Bool.not_eq_false', Bool.not_eq_eq_eq_not, Bool.not_true, Bool.not_false, beq_iff_eq, bne_iff_ne, ne_eq, beq_eq_false_iff_ne, bne_eq_false_iff_eq, gt_iff_lt, ge_iff_le, Int.not_lt, Int.not_le] at hc141
              refine c_seq (fun K35 hK35 => ?_)
              refine c_reg ?_ -- region 29 law.go:160
              refine wl (ro_cmp rfl rfl rfl) ?_
              refine wl (ro_assign rfl) ?_
              refine wl_nil (x_then (hK35 _ _ ?_))
              clear hK35 K35
              refine wc_cond rfl (fun hc150 => ?_) (fun hc150 => ?_)
              · try simp only [decide_eq_true_eq, decide_eq_false_iff_not, Bool.not_eq_true', Bool.not_eq_false', Bool.not_eq_eq_eq_not, Bool.not_true, Bool.not_false, beq_iff_eq, bne_iff_ne, ne_eq, beq_eq_false_iff_ne, bne_eq_false_iff_eq, gt_iff_lt, ge_iff_le, Int.not_lt, Int.not_le] at hc150
                refine c_seq (fun K36 hK36 => ?_)
                rcases nil_snoc E.next with hpe | ⟨p0, A, hpe⟩
                · skip
                  have bx := hO.bx
                  have my := hO.my
                  rw [hpe] at bx my
                  refine c_reg ?_ -- region 30 law.go:161
                  refine wl (ro_move rfl) ?_
                  refine wl_call rfl en_18 (Redo18N bx) ?_
                  rintro _ u0 ⟨rfl, hw0⟩
                  rw [hw0]
                  clear hw0 u0
                  refine wl (ro_assign rfl) ?_
                  refine wl_nil (x_then (hK36 _ _ ?_))
                  clear hK36 K36
                  refine forget [(9, _), (18, _)] ⟨rfl, rfl, trivial⟩ (fun e => ?_)
                  refine c_seq (fun K37 hK37 => ?_)
                  refine c_reg ?_ -- region 31 law.go:162
                  refine wl (ro_move rfl) ?_
                  refine wl_call rfl en_19 (Redo19N my) ?_
                  rintro _ u0 ⟨rfl, hw0⟩
                  rw [hw0]
                  clear hw0 u0
                  refine wl (ro_assign rfl) ?_
                  refine wl_nil (x_then (hK37 _ _ ?_))
                  clear hK37 K37
                  refine forget [(18, _), (19, _)] ⟨rfl, rfl, trivial⟩ (fun e => ?_)
                  refine c_seq (fun K38 hK38 => ?_)
                  refine c_reg ?_ -- region 32 law.go:163
                  refine wl (ro_move rfl) ?_
                  refine wl (ro_move rfl) ?_
                  refine wl (ro_cmp (r := true) rfl rfl (congrArg some (by simp))) ?_
                  refine wl (ro_assign rfl) ?_
                  refine wl_nil (x_then (hK38 _ _ ?_))
                  clear hK38 K38
                  refine c_ret (x_blkR (x_thenR ?_))
                  refine bp_ret Tryz.results55 rfl ?_
                  exact ⟨rfl, _, _, _, _, _, _, h, by omega⟩
                · skip
                  have bx := hO.bx
                  have my := hO.my
                  have hn7 : p0.length + E.past.length ≤ 6 := by (rw [hpe] at hn6; simp only [List.length_append, List.length_singleton] at hn6; omega)
                  rw [hpe] at bx my
                  refine c_reg ?_ -- region 30 law.go:161
                  refine wl (ro_move rfl) ?_
                  refine wl_call rfl en_18 (Redo18 hO.hx hzx bx) ?_
                  rintro _ u3 ⟨rfl, hX3, G3⟩
                  refine wl (ro_assign rfl) ?_
                  refine wl_nil (x_then (hK36 _ _ ?_))
                  clear hK36 K36
                  refine forget [(9, _), (18, _)] ⟨rfl, rfl, trivial⟩ (fun e => ?_)
                  refine c_seq (fun K39 hK39 => ?_)
                  refine c_reg ?_ -- region 31 law.go:162
                  refine wl (ro_move rfl) ?_
                  refine wl_call rfl en_19 (Redo19 hO.hb (my.real hO.hb hO.hl G3) (by omega)) ?_
                  rintro _ u4 ⟨rfl, hP⟩
                  refine wl (ro_assign rfl) ?_
                  refine wl_nil (x_then (hK39 _ _ ?_))
                  clear hK39 K39
                  refine forget [(18, _), (19, _)] ⟨rfl, rfl, trivial⟩ (fun e => ?_)
                  refine c_seq (fun K40 hK40 => ?_)
                  refine c_reg ?_ -- region 32 law.go:163
                  refine wl (ro_move rfl) ?_
                  refine wl (ro_move rfl) ?_
                  refine wl (ro_cmp (r := true) rfl rfl (congrArg some (by simp))) ?_
                  refine wl (ro_assign rfl) ?_
                  refine wl_nil (x_then (hK40 _ _ ?_))
                  clear hK40 K40
                  refine c_ret (x_blkR (x_thenR ?_))
                  refine bp_ret Tryz.results55 rfl ?_
                  obtain ⟨E', hW⟩ := h.pair hE G3 hX3 hP
                  exact ⟨rfl, _, _, _, _, _, _, hW, by rw [List.length_set]; omega⟩
              · try simp only [decide_eq_true_eq, decide_eq_false_iff_not, Bool.not_eq_true', Bool.not_eq_false', Bool.not_eq_eq_eq_not, Bool.not_true, Bool.not_false, beq_iff_eq, bne_iff_ne, ne_eq, beq_eq_false_iff_ne, bne_eq_false_iff_eq, gt_iff_lt, ge_iff_le, Int.not_lt, Int.not_le] at hc150
                refine c_seq (fun K41 hK41 => ?_)
                refine c_reg ?_ -- region 33 law.go:164
                refine wl (ro_cmp rfl rfl rfl) ?_
                refine wl (ro_assign rfl) ?_
                refine wl_nil (x_then (hK41 _ _ ?_))
                clear hK41 K41
                refine wc_cond rfl (fun hc159 => ?_) (fun hc159 => ?_)
                · try simp only [decide_eq_true_eq, decide_eq_false_iff_not, Bool.not_eq_true', Bool.not_eq_false', Bool.not_eq_eq_eq_not, Bool.not_true, Bool.not_false, beq_iff_eq, bne_iff_ne, ne_eq, beq_eq_false_iff_ne, bne_eq_false_iff_eq, gt_iff_lt, ge_iff_le, Int.not_lt, Int.not_le] at hc159
                  refine c_seq (fun K42 hK42 => ?_)
                  refine c_reg ?_ -- region 34 law.go:165
                  refine wl (ro_move rfl) ?_
                  refine wl (ro_move rfl) ?_
                  refine wl_call rfl en_20 (saved20 hO.hx hzx hO.hb hO.hl hO.bx hO.my) ?_
                  rintro _ u3 ⟨rfl, hX3, G3⟩
                  obtain ⟨E', hW⟩ := h.real hE G3 hX3
                  clear hB h3 hBx hBm
                  have hB := hW.hB
                  refine wl (ro_move rfl) ?_
                  refine wl (ro_extract rfl rfl) ?_
                  refine wl (ro_extract rfl rfl) ?_
                  refine wl (ro_assign rfl) ?_
                  refine wl (ro_assign rfl) ?_
                  refine wl_nil (x_then (hK42 _ _ ?_))
                  clear hK42 K42
                  refine c_seq (fun K43 hK43 => ?_)
                  refine c_seq (fun K44 hK44 => ?_)
                  refine c_reg ?_ -- region 35 law.go:166
                  refine wl (ro_move rfl) ?_
                  refine wl (ro_not rfl) ?_
                  refine wl_nil (x_then (hK44 _ _ ?_))
                  clear hK44 K44
                  refine wc_condF rfl ?_
                  refine c_skip (x_then (hK43 _ _ ?_))
                  clear hK43 K43
                  refine c_reg ?_ -- region 37 law.go:169
                  refine wl (ro_move rfl) ?_
                  refine wl (ro_move rfl) ?_
                  refine wl (ro_nilCheck rfl) ?_
                  refine wl (ro_fieldAddr (k := 2) rfl fo_75_2) ?_
                  refine wl (ro_loadB rfl sc_56 (by assumption) rfl) ?_
                  refine wl (ro_move rfl) ?_
                  skip
                  refine wl_app1 (u := S (svT E.T 24)) (xs := TL.map S) rfl rfl rfl rfl se_56 zx_9 by_9 rfl hW.ot (by rw [List.length_map]; omega) (by rw [List.length_map]; omega) (fun V' u5 ot' G5 nbt ↦ ?_)
                  replace hB := G5.blkF hB (fun q => hW.ot.ne hW.hB (by decide) wb q rfl)
                  obtain ⟨g1, f1, c1, l1, rfl, _⟩ := (id ot').resolve_left (fun q => by simp at q)
                  refine wl (ro_nilCheck rfl) ?_
                  refine wl (ro_fieldAddr (k := 2) rfl fo_75_2) ?_
                  refine wl_put rfl rfl rfl sz_56 hB ((by simp)) (rfl) (fun w4 hB F4 => ?_)
                  have Fa := F4
                  refine wl_nil (x_blk (x_then (hK15 _ _ ?_)))
                  clear hK15 K15
                  refine forget [] trivial (fun e => ?_)
                  refine c_seq (fun K45 hK45 => ?_)
                  refine c_reg ?_ -- region 66 law.go:200
                  refine wl (ro_assign rfl) ?_
                  refine wl_nil (x_then (hK45 _ _ ?_))
                  clear hK45 K45
                  refine c_ret ?_
                  refine bp_ret Tryz.results55 rfl ?_
                  have hW2 := hW.text G5 Fa ot' nbt hB
                  exact ⟨rfl, _, _, _, _, _, _, hW2, by simp; omega⟩
                · try simp only [decide_eq_true_eq, decide_eq_false_iff_not, Bool.not_eq_true', Bool.not_eq_false', Bool.not_eq_eq_eq_not, Bool.not_true, Bool.not_false, beq_iff_eq, bne_iff_ne, ne_eq, beq_eq_false_iff_ne, bne_eq_false_iff_eq, gt_iff_lt, ge_iff_le, Int.not_lt, Int.not_le] at hc159
                  refine c_seq (fun K46 hK46 => ?_)
                  refine c_reg ?_ -- region 38 law.go:170
                  refine wl (ro_cmp rfl rfl rfl) ?_
                  refine wl (ro_assign rfl) ?_
                  refine wl_nil (x_then (hK46 _ _ ?_))
                  clear hK46 K46
                  refine wc_cond rfl (fun hc179 => ?_) (fun hc179 => ?_)
                  · try simp only [decide_eq_true_eq, decide_eq_false_iff_not, Bool.not_eq_true', Bool.not_eq_false', Bool.not_eq_eq_eq_not, Bool.not_true, Bool.not_false, beq_iff_eq, bne_iff_ne, ne_eq, beq_eq_false_iff_ne, bne_eq_false_iff_eq, gt_iff_lt, ge_iff_le, Int.not_lt, Int.not_le] at hc179
                    refine c_seq (fun K47 hK47 => ?_)
                    refine c_reg ?_ -- region 39 law.go:171
                    refine wl (ro_move rfl) ?_
                    refine wl (ro_fieldAddr (k := 4) rfl fo_70_4) ?_
                    refine wl (ro_loadB rfl sc_9 (h3) (rfl)) ?_
                    refine wl_call rfl en_7 (Load7 hO.hx hzx hO.bx) ?_
                    rintro _ u3 ⟨rfl, hX3, G3⟩
                    replace h3 := G3.blkF h3 (fun q => by have := q.2; omega)
                    refine wl (ro_assign rfl) ?_
                    refine wl_nil (x_then (hK47 _ _ ?_))
                    clear hK47 K47
                    refine forget [(3, _), (9, _), (22, _)] ⟨rfl, rfl, rfl, trivial⟩ (fun e => ?_)
                    refine c_seq (fun K48 hK48 => ?_)
                    refine c_reg ?_ -- region 40 law.go:172
                    refine wl (ro_move rfl) ?_
                    refine wl (ro_fieldAddr (k := 4) rfl fo_70_4) ?_
                    refine wl (ro_loadB rfl sc_9 (h3) (rfl)) ?_
                    refine wl_call rfl en_8 (Load8 hO.hb (hO.my.real hO.hb hO.hl G3)) ?_
                    rintro _ u4 ⟨rfl, hP⟩
                    refine wl (ro_assign rfl) ?_
                    refine wl_nil (x_then (hK48 _ _ ?_))
                    clear hK48 K48
                    refine forget [(22, _), (23, _)] ⟨rfl, rfl, trivial⟩ (fun e => ?_)
                    refine c_seq (fun K49 hK49 => ?_)
                    refine c_reg ?_ -- region 41 law.go:173
                    refine wl (ro_move rfl) ?_
                    refine wl (ro_move rfl) ?_
                    refine wl (ro_cmp (r := true) rfl rfl (congrArg some (by simp))) ?_
                    refine wl (ro_assign rfl) ?_
                    refine wl_nil (x_then (hK49 _ _ ?_))
                    clear hK49 K49
                    refine c_ret (x_blkR (x_thenR ?_))
                    refine bp_ret Tryz.results55 rfl ?_
                    obtain ⟨E', hW⟩ := h.pair hE G3 hX3 hP
                    exact ⟨rfl, _, _, _, _, _, _, hW, by rw [List.length_set]; omega⟩
                  · try simp only [decide_eq_true_eq, decide_eq_false_iff_not, Bool.not_eq_true', Bool.not_eq_false', Bool.not_eq_eq_eq_not, Bool.not_true, Bool.not_false, beq_iff_eq, bne_iff_ne, ne_eq, beq_eq_false_iff_ne, bne_eq_false_iff_eq, gt_iff_lt, ge_iff_le, Int.not_lt, Int.not_le] at hc179
                    refine c_seq (fun K50 hK50 => ?_)
                    refine c_reg ?_ -- region 42 law.go:174
                    refine wl (ro_cmp rfl rfl rfl) ?_
                    refine wl (ro_assign rfl) ?_
                    refine wl_nil (x_then (hK50 _ _ ?_))
                    clear hK50 K50
                    refine wc_cond rfl (fun hc192 => ?_) (fun hc192 => ?_)
                    · try simp only [decide_eq_true_eq, decide_eq_false_iff_not, Bool.not_eq_true', Bool.not_eq_false', Bool.not_eq_eq_eq_not, Bool.not_true, Bool.not_false, beq_iff_eq, bne_iff_ne, ne_eq, beq_eq_false_iff_ne, bne_eq_false_iff_eq, gt_iff_lt, ge_iff_le, Int.not_lt, Int.not_le] at hc192
                      refine c_seq (fun K51 hK51 => ?_)
                      refine c_reg ?_ -- region 43 law.go:175
                      refine wl (ro_move rfl) ?_
                      refine wl (ro_nilCheck rfl) ?_
                      refine wl (ro_fieldAddr (k := 2) rfl fo_75_2) ?_
                      refine wl (ro_loadB rfl sc_56 (by assumption) rfl) ?_
                      refine wl (ro_lenL rfl se_56) ?_
                      refine wl (ro_cmp (r := decide (0 < TL.length)) rfl rfl (congrArg some (decide_eq_decide.2 (by omega)))) ?_
                      refine wl_nil (x_then (hK51 _ _ ?_))
                      clear hK51 K51
                      refine wc_cond rfl (fun hc199 => ?_) (fun hc199 => ?_)
                      · try simp only [decide_eq_true_eq, decide_eq_false_iff_not, Bool.not_eq_true', Bool.not_eq_false', Bool.not_eq_eq_eq_not, Bool.not_true, Bool.not_false, beq_iff_eq, bne_iff_ne, ne_eq, beq_eq_false_iff_ne, bne_eq_false_iff_eq, gt_iff_lt, ge_iff_le, Int.not_lt, Int.not_le] at hc199
                        have htpos : 0 < nt := by omega
                        obtain ⟨gt, ft, ct', ltl, et, hBt, _, _, _, t6⟩ := (id h.ot).resolve_left (fun q => by have := congrArg List.length q.2; rw [List.length_map] at this; simp at this; rw [this] at hc199; simp at hc199)
                        injection et with e1 e2 e3
                        subst e1 e3
                        refine c_seq (fun K52 hK52 => ?_)
                        refine c_pi [(0, false), (1, false), (2, false), (3, false), (4, false), (5, false), (6, false), (7, false), (8, false), (9, false), (10, false), (11, true), (12, false), (13, false), (14, false)] (fun w' => Blk w'.heap wb [.slice (some ⟨gx, fx, none⟩) nx cx, .slice (some ⟨gm, fm, none⟩) nm cm, .slice (some ⟨gt, ft, none⟩) nt ct] 75 ∧ Blk w'.heap b3 (opl k a b c s t) 70 ∧ Blk w'.heap gt ltl 9) mixed (by kernel_rfl) rfl (by kernel_rfl) (po_then (po_blk (po_then (po_bp)))) (⟨hB, h3, hBt⟩) ?_ -- region 44 law.go:176
                        refine pi_ro rfl (fun w hS => ro_move rfl) ?_
                        refine pi_ro rfl (fun w hS => ro_nilCheck rfl) ?_
                        refine pi_ro rfl (fun w hS => ro_fieldAddr (k := 2) rfl fo_75_2) ?_
                        refine pi_ro rfl (fun w hS => ro_loadB rfl sc_56 (hS.1) (rfl)) ?_
                        refine pi_ro rfl (fun w hS => ro_fieldAddr (k := 2) rfl fo_70_2) ?_
                        refine pi_ro rfl (fun w hS => ro_loadB rfl sc_3 (hS.2.1) (rfl)) ?_
                        refine pi_ro rfl (fun w hS => ro_move rfl) ?_
                        refine pi_ro rfl (fun w hS => ro_nilCheck rfl) ?_
                        refine pi_ro rfl (fun w hS => ro_fieldAddr (k := 2) rfl fo_75_2) ?_
                        refine pi_ro rfl (fun w hS => ro_loadB rfl sc_56 (hS.1) (rfl)) ?_
                        refine pi_ro rfl (fun w hS => ro_lenL rfl se_56) ?_
                        refine pi_call rfl rfl en_84 (pick84 (c := b) (n := nt) htpos hb1 hb2) ?_
                        rintro _ u6 ⟨⟨j, rfl, hj⟩, hu6⟩
                        have F6 : Fram none' { w1 with drawn := w1.drawn + 1 } u6 := by (rw [hu6]; exact Fram.drew none' _ _)
                        clear hu6
                        rw [lt] at hj
                        obtain ⟨s2, hs2⟩ : ∃ s2, TL[j]? = some s2 := ⟨_, List.getElem?_eq_getElem hj⟩
                        replace h := h.farN F6
                        replace hO := h.en i E hE
                        replace hzx : E.h1 ≤ u6.heap.size := by (have := hO.hz; omega)
                        replace hB := F6.blkN hB
                        replace h3 := F6.blkN h3
                        replace hBt := F6.blkN hBt
                        refine ⟨⟨hB, h3, hBt⟩, ?_⟩
                        refine pi_ro rfl (fun w hS => ro_indexAddr (et := 9) (k := 1) rfl rfl se_56 (rfl) ((by omega))) ?_
                        refine pi_ro rfl (fun w hS => ro_loadB rfl sc_9 (hS.2.2) ((by rw [Nat.mul_one]; exact ow_get t6 (by rw [List.getElem?_map, hs2]; rfl)))) ?_
                        refine pi_ro rfl (fun w hS => ro_assign rfl) ?_
                        refine pi_nil (x_then (hK52 _ _ ?_))
                        clear hK52 K52
                        refine forget [(8, _), (9, _), (24, _)] ⟨rfl, rfl, rfl, trivial⟩ (fun e => ?_)
                        refine c_seq (fun K53 hK53 => ?_)
                        refine c_reg ?_ -- region 45 law.go:177
                        refine wl (ro_move rfl) ?_
                        refine wl (ro_move rfl) ?_
                        refine wl_call rfl en_7 (Load7 (s := s2) hO.hx hzx hO.bx) ?_
                        rintro _ u3 ⟨rfl, hX3, G3⟩
                        refine wl (ro_assign rfl) ?_
                        refine wl_nil (x_then (hK53 _ _ ?_))
                        clear hK53 K53
                        refine forget [(9, _), (24, _), (25, _)] ⟨rfl, rfl, rfl, trivial⟩ (fun e => ?_)
                        refine c_seq (fun K54 hK54 => ?_)
                        refine c_reg ?_ -- region 46 law.go:178
                        refine wl (ro_move rfl) ?_
                        refine wl (ro_move rfl) ?_
                        refine wl_call rfl en_8 (Load8 (s := s2) hO.hb (hO.my.real hO.hb hO.hl G3)) ?_
                        rintro _ u4 ⟨rfl, hP⟩
                        refine wl (ro_assign rfl) ?_
                        refine wl_nil (x_then (hK54 _ _ ?_))
                        clear hK54 K54
                        refine forget [(25, _), (26, _)] ⟨rfl, rfl, trivial⟩ (fun e => ?_)
                        refine c_seq (fun K55 hK55 => ?_)
                        refine c_reg ?_ -- region 47 law.go:179
                        refine wl (ro_move rfl) ?_
                        refine wl (ro_move rfl) ?_
                        refine wl (ro_cmp (r := true) rfl rfl (congrArg some (by simp))) ?_
                        refine wl (ro_assign rfl) ?_
                        refine wl_nil (x_then (hK55 _ _ ?_))
                        clear hK55 K55
                        refine c_ret (x_blkR (x_thenR ?_))
                        refine bp_ret Tryz.results55 rfl ?_
                        obtain ⟨E', hW⟩ := h.pair hE G3 hX3 hP
                        exact ⟨rfl, _, _, _, _, _, _, hW, by rw [List.length_set]; omega⟩
                      · try simp only [decide_eq_true_eq, decide_eq_false_iff_not, Bool.not_eq_true', Bool.not_eq_false', Bool.not_eq_eq_eq_not, Bool.not_true, Bool.not_false, beq_iff_eq, bne_iff_ne, ne_eq, beq_eq_false_iff_ne, bne_eq_false_iff_eq, gt_iff_lt, ge_iff_le, Int.not_lt, Int.not_le] at hc199
                        refine c_skip (x_blk (x_then (hK15 _ _ ?_)))
                        clear hK15 K15
                        refine forget [] trivial (fun e => ?_)
                        refine c_seq (fun K56 hK56 => ?_)
                        refine c_reg ?_ -- region 66 law.go:200
                        refine wl (ro_assign rfl) ?_
                        refine wl_nil (x_then (hK56 _ _ ?_))
                        clear hK56 K56
                        refine c_ret ?_
                        refine bp_ret Tryz.results55 rfl ?_
                        exact ⟨rfl, _, _, _, _, _, _, h, by omega⟩
                    · try simp only [decide_eq_true_eq, decide_eq_false_iff_not, Bool.not_eq_true', Bool.not_eq_false', Bool.not_eq_eq_eq_not, Bool.not_true, Bool.not_false, beq_iff_eq, bne_iff_ne, ne_eq, beq_eq_false_iff_ne, bne_eq_false_iff_eq, gt_iff_lt, ge_iff_le, Int.not_lt, Int.not_le] at hc192
                      refine c_seq (fun K57 hK57 => ?_)
                      refine c_reg ?_ -- region 48 law.go:181
                      refine wl (ro_cmp rfl rfl rfl) ?_
                      refine wl (ro_assign rfl) ?_
                      refine wl_nil (x_then (hK57 _ _ ?_))
                      clear hK57 K57
                      refine wc_cond rfl (fun hc223 => ?_) (fun hc223 => ?_)
                      · try simp only [decide_eq_true_eq, decide_eq_false_iff_not, Bool.not_eq_true', Bool.not_eq_false', Bool.not_eq_eq_eq_not, Bool.not_true, Bool.not_false, beq_iff_eq, bne_iff_ne, ne_eq, beq_eq_false_iff_ne, bne_eq_false_iff_eq, gt_iff_lt, ge_iff_le, Int.not_lt, Int.not_le] at hc223
                        refine c_seq (fun K58 hK58 => ?_)
                        refine c_reg ?_ -- region 49 law.go:182
                        refine wl (ro_move rfl) ?_
                        refine wl (ro_fieldAddr (k := 2) rfl fo_70_2) ?_
                        refine wl (ro_loadB rfl sc_3 (h3) (rfl)) ?_
                        refine wl_call rfl en_61 (Raw61 hO.bx) ?_
                        rintro _ u0 ⟨rfl, hw0⟩
                        rw [hw0]
                        clear hw0 u0
                        obtain ⟨SL, xs, ys, hM⟩ := hO.my
                        refine wl (ro_assign rfl) ?_
                        refine wl_nil (x_then (hK58 _ _ ?_))
                        clear hK58 K58
                        refine forget [(3, _), (9, _), (27, _)] ⟨rfl, rfl, rfl, trivial⟩ (fun e => ?_)
                        refine c_seq (fun K59 hK59 => ?_)
                        refine c_reg ?_ -- region 50 law.go:183
                        refine wl (ro_move rfl) ?_
                        refine wl (ro_fieldAddr (k := 2) rfl fo_70_2) ?_
                        refine wl (ro_loadB rfl sc_3 (h3) (rfl)) ?_
                        refine wl_call rfl en_62 (Raw62 hM.hK hM.hv) ?_
                        rintro _ u0 ⟨rfl, hw0⟩
                        rw [hw0]
                        clear hw0 u0
                        refine wl (ro_assign rfl) ?_
                        refine wl_nil (x_then (hK59 _ _ ?_))
                        clear hK59 K59
                        refine forget [(27, _), (28, _)] ⟨rfl, rfl, trivial⟩ (fun e => ?_)
                        refine c_seq (fun K60 hK60 => ?_)
                        refine c_reg ?_ -- region 51 law.go:184
                        refine wl (ro_move rfl) ?_
                        refine wl (ro_move rfl) ?_
                        refine wl (ro_eqS (l := getS E.T b) (m := getS E.T b) (r := true) rfl rfl (congrArg some (by simp))) ?_
                        refine wl (ro_assign rfl) ?_
                        refine wl_nil (x_then (hK60 _ _ ?_))
                        clear hK60 K60
                        refine c_ret (x_blkR (x_thenR ?_))
                        refine bp_ret Tryz.results55 rfl ?_
                        exact ⟨rfl, _, _, _, _, _, _, h, by omega⟩
                      · try simp only [decide_eq_true_eq, decide_eq_false_iff_not, Bool.not_eq_true', Bool.not_eq_false', Bool.not_eq_eq_eq_not, Bool.not_true, Bool.not_false, beq_iff_eq, bne_iff_ne, ne_eq, beq_eq_false_iff_ne, bne_eq_false_iff_eq, gt_iff_lt, ge_iff_le, Int.not_lt, Int.not_le] at hc223
                        refine c_seq (fun K61 hK61 => ?_)
                        refine c_reg ?_ -- region 52 law.go:185
                        refine wl (ro_cmp rfl rfl rfl) ?_
                        refine wl (ro_assign rfl) ?_
                        refine wl_nil (x_then (hK61 _ _ ?_))
                        clear hK61 K61
                        refine wc_cond rfl (fun hc236 => ?_) (fun hc236 => ?_)
                        · try simp only [decide_eq_true_eq, decide_eq_false_iff_not, Bool.not_eq_true', Bool.not_eq_false', Bool.not_eq_eq_eq_not, Bool.not_true, Bool.not_false, beq_iff_eq, bne_iff_ne, ne_eq, beq_eq_false_iff_ne, bne_eq_false_iff_eq, gt_iff_lt, ge_iff_le, Int.not_lt, Int.not_le] at hc236
                          refine c_seq (fun K62 hK62 => ?_)
                          refine c_reg ?_ -- region 53 law.go:186
                          refine wl (ro_move rfl) ?_
                          refine wl (ro_fieldAddr (k := 2) rfl fo_70_2) ?_
                          refine wl (ro_loadB rfl sc_3 (h3) (rfl)) ?_
                          refine wl_call rfl en_63 (Value63 hO.hx hO.bx) ?_
                          rintro _ u3 ⟨⟨SL1, L1, hl1, hsh1, rfl⟩, G3⟩
                          replace hB := G3.blkF hB (by intro h; simp only [none'] at h <;> omega)
                          replace h3 := G3.blkF h3 (by intro h; simp only [none'] at h <;> omega)
                          obtain ⟨SL, xs, ys, hM⟩ := hO.my
                          obtain ⟨M9, hM9⟩ := hM.hv.mv.sh
                          have hFv : Fram none' { w1 with drawn := w1.drawn + 1 } u3 := G3
                          refine wl_new (ze_104) (fun b29 w5 hbb29 h29 F5 => ?_)
                          have hnewbb29 : wb < b29 := Nat.lt_of_lt_of_le hB.lt hbb29
                          have hneb3b29 : b3 < b29 := Nat.lt_of_lt_of_le h3.lt hbb29
                          have hbsb29 := Nat.le_trans hFv.size hbb29
                          replace hB := F5.blkN hB
                          replace h3 := F5.blkN h3
                          replace hFv := hFv.thenDrew.thenN F5
                          refine wl_puta rfl rfl ((vlc_cells _)) sz_104 (rfl) h29 ((by simp)) ((show _ = vlc (getV SL1 b) from rfl)) (fun w6 h29 F6 => ?_)
                          replace hB := F6.blkO hB (by omega)
                          replace h3 := F6.blkO h3 (by omega)
                          replace hFv := hFv.thenDrew.thenO F6 (by first | exact .inr (by omega) | exact .inl rfl | exact .inl (by assumption))
                          refine wl_nil (x_then (hK62 _ _ ?_))
                          clear hK62 K62
                          refine forget [(3, _), (9, _), (29, _)] ⟨rfl, rfl, rfl, trivial⟩ (fun e => ?_)
                          refine c_seq (fun K63 hK63 => ?_)
                          refine c_reg ?_ -- region 54 law.go:187
                          refine wl (ro_move rfl) ?_
                          refine wl (ro_fieldAddr (k := 2) rfl fo_70_2) ?_
                          refine wl (ro_loadB rfl sc_3 (h3) (rfl)) ?_
                          refine wl_call rfl en_64 (Value64 hO.hb.nb (hM.farN hO.hb hFv).hK (hM.farN hO.hb hFv).hv) ?_
                          rintro _ u4 ⟨rfl, G4⟩
                          replace hB := G4.blkF hB (by intro h; simp only [none'] at h <;> omega)
                          replace h3 := G4.blkF h3 (by intro h; simp only [none'] at h <;> omega)
                          replace hFv := hFv.transG G4 (by intro k hk h; simp only [none'] at h ⊢ <;> omega)
                          replace h29 := G4.blkF h29 (by intro h; simp only [none'] at h <;> omega)
                          refine wl_new (ze_104) (fun b30 w7 hbb30 h30 F7 => ?_)
                          have hnewbb30 : wb < b30 := Nat.lt_of_lt_of_le hB.lt hbb30
                          have hneb3b30 : b3 < b30 := Nat.lt_of_lt_of_le h3.lt hbb30
                          have hbsb30 := Nat.le_trans hFv.size hbb30
                          have hneb29b30 : b29 < b30 := Nat.lt_of_lt_of_le h29.lt hbb30
                          replace hB := F7.blkN hB
                          replace h3 := F7.blkN h3
                          replace hFv := hFv.thenDrew.thenN F7
                          replace h29 := F7.blkN h29
                          refine wl_puta rfl rfl ((vlc_cells _)) sz_104 (rfl) h30 ((by simp)) ((show _ = vlc (getV SL b) from rfl)) (fun w8 h30 F8 => ?_)
                          replace hB := F8.blkO hB (by omega)
                          replace h3 := F8.blkO h3 (by omega)
                          replace hFv := hFv.thenDrew.thenO F8 (by first | exact .inr (by omega) | exact .inl rfl | exact .inl (by assumption))
                          replace h29 := F8.blkO h29 (by omega)
                          refine wl_nil (x_then (hK63 _ _ ?_))
                          clear hK63 K63
                          refine forget [(29, _), (30, _)] ⟨rfl, rfl, trivial⟩ (fun e => ?_)
                          refine c_seq (fun K64 hK64 => ?_)
                          refine c_reg ?_ -- region 55 law.go:188
                          refine wl (ro_loadAggB rfl ag_104 (h29) (rfl) (rfl)) ?_
                          refine wl (ro_loadAggB rfl ag_104 (h30) (rfl) (rfl)) ?_
                          refine wl (ro_eqSt3 (r := true) rfl rfl st3_104 in_3 in_3 st_9 eg_104 (congrArg some (decide_eq_true (by rw [show getV SL1 b = getV SL b by (unfold getV; split; exact sh_uniq hsh1 hM9 _ (by omega); rfl)]; exact ⟨rfl, rfl, rfl⟩)))) ?_
                          refine wl (ro_assign rfl) ?_
                          refine wl_nil (x_then (hK64 _ _ ?_))
                          clear hK64 K64
                          refine c_ret (x_blkR (x_thenR ?_))
                          refine bp_ret Tryz.results55 rfl ?_
                          exact ⟨rfl, _, _, _, _, _, _, h.farN hFv, by omega⟩
                        · try simp only [decide_eq_true_eq, decide_eq_false_iff_not, Bool.not_eq_true', Bool.not_eq_false', Bool.not_eq_eq_eq_not, Bool.not_true, Bool.not_false, beq_iff_eq, bne_iff_ne, ne_eq, beq_eq_false_iff_ne, bne_eq_false_iff_eq, gt_iff_lt, ge_iff_le, Int.not_lt, Int.not_le] at hc236
                          refine c_seq (fun K65 hK65 => ?_)
                          refine c_reg ?_ -- region 56 law.go:189
                          refine wl (ro_cmp rfl rfl rfl) ?_
                          refine wl (ro_assign rfl) ?_
                          refine wl_nil (x_then (hK65 _ _ ?_))
                          clear hK65 K65
                          refine wc_cond rfl (fun hc249 => ?_) (fun hc249 => ?_)
                          · try simp only [decide_eq_true_eq, decide_eq_false_iff_not, Bool.not_eq_true', Bool.not_eq_false', Bool.not_eq_eq_eq_not, Bool.not_true, Bool.not_false, beq_iff_eq, bne_iff_ne, ne_eq, beq_eq_false_iff_ne, bne_eq_false_iff_eq, gt_iff_lt, ge_iff_le, Int.not_lt, Int.not_le] at hc249
                            refine c_seq (fun K66 hK66 => ?_)
                            refine c_reg ?_ -- region 57 law.go:190
                            refine wl (ro_move rfl) ?_
                            refine wl_call rfl en_38 (Undos38 hO.bx) ?_
                            rintro _ u0 ⟨rfl, hw0⟩
                            rw [hw0]
                            clear hw0 u0
                            obtain ⟨SL, xs, ys, hM⟩ := hO.my
                            obtain ⟨av, cv, ev⟩ := hM.o1.form
                            have hKM := hM.hK
                            rw [ev] at hKM
                            refine wl (ro_assign rfl) ?_
                            refine wl_nil (x_then (hK66 _ _ ?_))
                            clear hK66 K66
                            refine forget [(9, _), (31, _)] ⟨rfl, rfl, trivial⟩ (fun e => ?_)
                            refine c_seq (fun K67 hK67 => ?_)
                            refine c_reg ?_ -- region 58 law.go:191
                            refine wl (ro_move rfl) ?_
                            refine wl_call rfl en_39 (Undos39 hKM) ?_
                            rintro _ u0 ⟨rfl, hw0⟩
                            rw [hw0]
                            clear hw0 u0
                            refine wl (ro_assign rfl) ?_
                            refine wl_nil (x_then (hK67 _ _ ?_))
                            clear hK67 K67
                            refine forget [(31, _), (32, _)] ⟨rfl, rfl, trivial⟩ (fun e => ?_)
                            refine c_seq (fun K68 hK68 => ?_)
                            refine c_reg ?_ -- region 59 law.go:192
                            refine wl (ro_move rfl) ?_
                            refine wl (ro_move rfl) ?_
                            refine wl (ro_cmp (r := true) rfl rfl (congrArg some (by rw [hM.s1.1]; simp))) ?_
                            refine wl (ro_assign rfl) ?_
                            refine wl_nil (x_then (hK68 _ _ ?_))
                            clear hK68 K68
                            refine c_ret (x_blkR (x_thenR ?_))
                            refine bp_ret Tryz.results55 rfl ?_
                            exact ⟨rfl, _, _, _, _, _, _, h, by omega⟩
                          · try simp only [decide_eq_true_eq, decide_eq_false_iff_not, Bool.not_eq_true', Bool.not_eq_false', Bool.not_eq_eq_eq_not, Bool.not_true, Bool.not_false, beq_iff_eq, bne_iff_ne, ne_eq, beq_eq_false_iff_ne, bne_eq_false_iff_eq, gt_iff_lt, ge_iff_le, Int.not_lt, Int.not_le] at hc249
                            refine c_seq (fun K69 hK69 => ?_)
                            refine c_reg ?_ -- region 60 law.go:193
                            refine wl (ro_cmp rfl rfl rfl) ?_
                            refine wl (ro_assign rfl) ?_
                            refine wl_nil (x_then (hK69 _ _ ?_))
                            clear hK69 K69
                            refine wc_cond rfl (fun hc258 => ?_) (fun hc258 => ?_)
                            · try simp only [decide_eq_true_eq, decide_eq_false_iff_not, Bool.not_eq_true', Bool.not_eq_false', Bool.not_eq_eq_eq_not, Bool.not_true, Bool.not_false, beq_iff_eq, bne_iff_ne, ne_eq, beq_eq_false_iff_ne, bne_eq_false_iff_eq, gt_iff_lt, ge_iff_le, Int.not_lt, Int.not_le] at hc258
                              refine c_seq (fun K70 hK70 => ?_)
                              refine c_reg ?_ -- region 61 law.go:194
                              refine wl (ro_move rfl) ?_
                              refine wl_call rfl en_40 (Redos40 hO.bx) ?_
                              rintro _ u0 ⟨rfl, hw0⟩
                              rw [hw0]
                              clear hw0 u0
                              obtain ⟨SL, xs, ys, hM⟩ := hO.my
                              obtain ⟨av, cv, ev⟩ := hM.o2.form
                              have hKM := hM.hK
                              rw [ev] at hKM
                              refine wl (ro_assign rfl) ?_
                              refine wl_nil (x_then (hK70 _ _ ?_))
                              clear hK70 K70
                              refine forget [(9, _), (33, _)] ⟨rfl, rfl, trivial⟩ (fun e => ?_)
                              refine c_seq (fun K71 hK71 => ?_)
                              refine c_reg ?_ -- region 62 law.go:195
                              refine wl (ro_move rfl) ?_
                              refine wl_call rfl en_41 (Redos41 hKM) ?_
                              rintro _ u0 ⟨rfl, hw0⟩
                              rw [hw0]
                              clear hw0 u0
                              refine wl (ro_assign rfl) ?_
                              refine wl_nil (x_then (hK71 _ _ ?_))
                              clear hK71 K71
                              refine forget [(33, _), (34, _)] ⟨rfl, rfl, trivial⟩ (fun e => ?_)
                              refine c_seq (fun K72 hK72 => ?_)
                              refine c_reg ?_ -- region 63 law.go:196
                              refine wl (ro_move rfl) ?_
                              refine wl (ro_move rfl) ?_
                              refine wl (ro_cmp (r := true) rfl rfl (congrArg some (by rw [hM.s2.1]; simp))) ?_
                              refine wl (ro_assign rfl) ?_
                              refine wl_nil (x_then (hK72 _ _ ?_))
                              clear hK72 K72
                              refine c_ret (x_blkR (x_thenR ?_))
                              refine bp_ret Tryz.results55 rfl ?_
                              exact ⟨rfl, _, _, _, _, _, _, h, by omega⟩
                            · try simp only [decide_eq_true_eq, decide_eq_false_iff_not, Bool.not_eq_true', Bool.not_eq_false', Bool.not_eq_eq_eq_not, Bool.not_true, Bool.not_false, beq_iff_eq, bne_iff_ne, ne_eq, beq_eq_false_iff_ne, bne_eq_false_iff_eq, gt_iff_lt, ge_iff_le, Int.not_lt, Int.not_le] at hc258
                              refine c_seq (fun K73 hK73 => ?_)
                              refine c_reg ?_ -- region 64 law.go:197
                              refine wl (ro_cmp rfl rfl rfl) ?_
                              refine wl (ro_assign rfl) ?_
                              refine wl_nil (x_then (hK73 _ _ ?_))
                              clear hK73 K73
                              refine wc_cond rfl (fun hc267 => ?_) (fun hc267 => ?_)
                              · try simp only [decide_eq_true_eq, decide_eq_false_iff_not, Bool.not_eq_true', Bool.not_eq_false', Bool.not_eq_eq_eq_not, Bool.not_true, Bool.not_false, beq_iff_eq, bne_iff_ne, ne_eq, beq_eq_false_iff_ne, bne_eq_false_iff_eq, gt_iff_lt, ge_iff_le, Int.not_lt, Int.not_le] at hc267
                                refine c_seq (fun K74 hK74 => ?_)
                                refine c_reg ?_ -- region 65 law.go:198
                                refine wl (ro_move rfl) ?_
                                refine wl_call rfl en_85 (Check85 hO.hx hzx hO.bx) ?_
                                rintro _ u3 ⟨rfl, G3⟩
                                refine wl (ro_assign rfl) ?_
                                refine wl_nil (x_then (hK74 _ _ ?_))
                                clear hK74 K74
                                refine c_ret (x_blkR (x_thenR ?_))
                                refine bp_ret Tryz.results55 rfl ?_
                                exact ⟨rfl, _, _, _, _, _, _, h.farN G3, by omega⟩
                              · try simp only [decide_eq_true_eq, decide_eq_false_iff_not, Bool.not_eq_true', Bool.not_eq_false', Bool.not_eq_eq_eq_not, Bool.not_true, Bool.not_false, beq_iff_eq, bne_iff_ne, ne_eq, beq_eq_false_iff_ne, bne_eq_false_iff_eq, gt_iff_lt, ge_iff_le, Int.not_lt, Int.not_le] at hc267
                                refine c_skip (x_blk (x_then (hK15 _ _ ?_)))
                                clear hK15 K15
                                refine forget [] trivial (fun e => ?_)
                                refine c_seq (fun K75 hK75 => ?_)
                                refine c_reg ?_ -- region 66 law.go:200
                                refine wl (ro_assign rfl) ?_
                                refine wl_nil (x_then (hK75 _ _ ?_))
                                clear hK75 K75
                                refine c_ret ?_
                                refine bp_ret Tryz.results55 rfl ?_
                                exact ⟨rfl, _, _, _, _, _, _, h, by omega⟩

end Go.Proofs.Qxb6500570aGreat
