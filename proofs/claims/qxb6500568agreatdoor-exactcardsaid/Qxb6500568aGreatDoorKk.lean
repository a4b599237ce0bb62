import Derived.Test.Qxb6500568aGreatDoorKj
/- The image read. -/
namespace Go.Proofs.Qxb6500568aGreatDoor
open Ieee
set_option linter.unusedVariables false
set_option linter.unusedSimpArgs false
set_option linter.unusedSectionVars false

section
variable {E : VE} {w : World} {ow : Nat → Nat} {L : VL}
set_option maxHeartbeats 8000000 in
theorem decode85 (h : VMV E w ow L) {F : Fns} (hF1 : 1 ≤ F.length) (hF13 : F.length ≤ 13) (hFO : ∀ k, FOK (fsAt F k)) (hsz : (img F).length ≤ 32768) (h00 : (fsAt F 0).np = 0 ∧ (fsAt F 0).ups = []) (h2 : L.A 2 = (0, [])) (h3 : (L.A 3).1 = 0) (h4 : (L.A 4).1 = 0) (h5 : (L.A 5).1 = 0) :
    Ret Tryz.prog 85 [ptr E.mb, S (img F)] w (fun r w' => r = .bool true ∧ VQ E w ow (L.protos F) w') := by
  have hil : (img F).length = 1 + (F.flatMap fby).length := by unfold img; rw [List.length_cons]; omega
  have hb8 : (by8 F.length).toNat = F.length := by rw [by8_nat]; omega
  have hB0 : Bts (img F) 0 (by8 F.length :: F.flatMap fby) := fun k x hk => by rw [Nat.zero_add]; exact hk
  obtain ⟨hb0, hb1⟩ := hB0.cons
  have hdf : ∀ b, w.heap.size ≤ b → ow b = 66 := by obtain ⟨V, U, op⟩ := h; exact op.df
  have hF : Fram none' w w := Fram.refl _ _
  refine ret_of Tryz.func85 rfl Tryz.ntmps85 rfl ?_
  refine c_seq (fun K1 hK1 => ?_)
  refine c_reg ?_ -- region 0 vm.go:214
  refine wl (ro_assign rfl) ?_
  refine wl_nil (x_then (hK1 _ _ ?_))
  clear hK1 K1
  refine forget [(0, _), (1, _)] ⟨rfl, rfl, trivial⟩ (fun e => ?_)
  refine c_seq (fun K2 hK2 => ?_)
  refine c_reg ?_ -- region 1 vm.go:215
  refine wl (ro_move rfl) ?_
  refine wl_toB (et := 5) rfl st_9 se_70 (by kernel_rfl) ?_
  intro gb w1 l cap hgb hcap hg hgl F1
  replace hF := hF.thenDrew.thenN F1
  have hgl2 := hg.lt
  refine wl (ro_build rfl bld_254_0) ?_
  refine wl_box rfl rfl (fun rb w1 hbrb hR F1 => ?_)
  have hbsrb := Nat.le_trans hF.size hbrb
  replace hF := hF.thenDrew.thenN F1
  replace hg := F1.fzN hg
  refine wl (ro_assign rfl) ?_
  refine wl_nil (x_then (hK2 _ _ ?_))
  clear hK2 K2
  refine forget [(0, _), (5, _)] ⟨rfl, rfl, trivial⟩ (fun e => ?_)
  refine c_seq (fun K3 hK3 => ?_)
  have hrd : RdV _ rb gb cap l (img F) 0 := ⟨hR, hg, hcap, hgl, by omega, by omega⟩
  have h1 := h.thruN hF
  have trb := hdf rb (by omega)
  have tgb := hdf gb (by omega)
  refine c_reg ?_ -- region 2 vm.go:216
  refine wl (ro_move rfl) ?_
  refine wl_call rfl en_140 (u8140 hrd hb0) ?_
  rintro v1 u1 ⟨rfl, hr1, f1⟩
  have h2' := h1.hbput f1 trb
  have hrl : RdL E u1 ow (L.protos (F.take 0)) rb gb cap l (img F) (0 + 1 + ((F.take 0).flatMap fby).length) rb u1 := ⟨ow, Xt.refl _ _, h2', hr1, Fram.refl _ _, trb, hr1.r.lt⟩
  have hf0 : Fram (fun b => b = rb ∨ b = gb ∨ w.heap.size ≤ b) w u1 := (hF.mono (fun _ _ z => z.elim)).trans' f1 (fun b _ z => .inl z)
  have hrb := hr1.r.lt
  have hgb1 := hr1.g.lt
  have hmbl : E.mb < w.heap.size := by obtain ⟨V, U, op⟩ := h; exact op.m.lt
  have hrbw : w.heap.size ≤ rb := by omega
  refine wl (ro_assign rfl) ?_
  refine wl_nil (x_then (hK3 _ _ ?_))
  clear hK3 K3
  refine c_seq (fun K4 hK4 => ?_)
  refine c_seq (fun K5 hK5 => ?_)
  refine c_reg ?_ -- region 3 vm.go:217
  refine wl (ro_move rfl) ?_
  refine wl (ro_cmp rfl rfl rfl) ?_
  refine wl_fork rfl (fun hg16 => ?_) (fun hg16 => ?_)
  · try simp only [decide_eq_true_eq, decide_eq_false_iff_not, Bool.not_eq_true', Bool.not_eq_false', Bool.not_eq_eq_eq_not, Bool.not_true, Bool.not_false, beq_iff_eq, bne_iff_ne, ne_eq, beq_eq_false_iff_ne, bne_eq_false_iff_eq, gt_iff_lt, ge_iff_le, Int.not_lt, Int.not_le] at hg16
    exfalso; rw [hb8] at hg16; omega
  · try simp only [decide_eq_true_eq, decide_eq_false_iff_not, Bool.not_eq_true', Bool.not_eq_false', Bool.not_eq_eq_eq_not, Bool.not_true, Bool.not_false, beq_iff_eq, bne_iff_ne, ne_eq, beq_eq_false_iff_ne, bne_eq_false_iff_eq, gt_iff_lt, ge_iff_le, Int.not_lt, Int.not_le] at hg16
    refine wlg_yes rfl (ro_move rfl) ?_
    refine wlg_yes rfl (ro_cmp rfl rfl rfl) ?_
    refine wl (ro_pick rfl rfl rfl) ?_
    refine wl_nil (x_then (hK5 _ _ ?_))
    clear hK5 K5
    refine wc_cond rfl (fun hc19 => ?_) (fun hc19 => ?_)
    · try simp only [decide_eq_true_eq, decide_eq_false_iff_not, Bool.not_eq_true', Bool.not_eq_false', Bool.not_eq_eq_eq_not, Bool.not_true, Bool.not_false, beq_iff_eq, bne_iff_ne, ne_eq, beq_eq_false_iff_ne, bne_eq_false_iff_eq, gt_iff_lt, ge_iff_le, Int.not_lt, Int.not_le] at hc19
      exfalso; rw [hb8] at hc19; omega
    · try simp only [decide_eq_true_eq, decide_eq_false_iff_not, Bool.not_eq_true', Bool.not_eq_false', Bool.not_eq_eq_eq_not, Bool.not_true, Bool.not_false, beq_iff_eq, bne_iff_ne, ne_eq, beq_eq_false_iff_ne, bne_eq_false_iff_eq, gt_iff_lt, ge_iff_le, Int.not_lt, Int.not_le] at hc19
      refine c_skip (x_then (hK4 _ _ ?_))
      clear hK4 K4
      refine c_seq (fun K6 hK6 => ?_)
      refine c_seq (fun K7 hK7 => ?_)
      refine c_reg ?_ -- region 5 vm.go:220
      refine wl (ro_assign rfl) ?_
      refine wl_nil (x_then (hK7 _ _ ?_))
      clear hK7 K7
      refine c_block ?_
      -- loop@r6: live slots [0, 5, 6, 7]
      refine c_loopG (fun m a u => ∃ k, m = F.length - k ∧ k ≤ F.length ∧ RdL E u1 ow (L.protos (F.take k)) rb gb cap l (img F) (0 + 1 + ((F.take k).flatMap fby).length) rb u ∧ ∃ e, a = Fr 70 (upds e [(0, ptr E.mb), (5, ptr rb), (6, u8c (by8 F.length)), (7, i64c k)]) []) _ ⟨0, rfl, by omega, hrl, kp _ ⟨rfl, rfl, rfl, rfl, trivial⟩⟩ ?_
      clear hrl hr1 f1 h1 h2' hrd
      rintro m a u ⟨k, rfl, hkl, hrl, e, rfl⟩
      obtain ⟨ow1, x1, hm1, hr1, f1, t4b, q4b⟩ := hrl.ex
      have hR1 := hr1.r
      have tg1 : ow1 gb = 66 := by rw [x1 _ hgb1]; exact tgb
      refine c_seq (fun K8 hK8 => ?_)
      refine c_seq (fun K9 hK9 => ?_)
      refine c_reg ?_ -- region 6 vm.go:220
      refine wl (ro_move rfl) ?_
      refine wl (ro_move rfl) ?_
      refine wl (ro_conv rfl sc_5 in_3 (Go.IntWalk.i64_in _ (by omega))) ?_
      refine wl (ro_cmp rfl rfl rfl) ?_
      refine wl_fork rfl (fun hg24 => ?_) (fun hg24 => ?_)
      · try simp only [decide_eq_true_eq, decide_eq_false_iff_not, Bool.not_eq_true', Bool.not_eq_false', Bool.not_eq_eq_eq_not, Bool.not_true, Bool.not_false, beq_iff_eq, bne_iff_ne, ne_eq, beq_eq_false_iff_ne, bne_eq_false_iff_eq, gt_iff_lt, ge_iff_le, Int.not_lt, Int.not_le] at hg24
        refine wlg_yes rfl (ro_move rfl) ?_
        refine wlg_yes rfl (ro_nilCheck rfl) ?_
        refine wlg_yes rfl (ro_fieldAddr (k := 2) rfl fo_254_2) ?_
        refine wlg_yes rfl (ro_loadB rfl sc_4 (hR1) rfl) ?_
        refine wlg_yes rfl (ro_not rfl) ?_
        refine wl (ro_pick rfl rfl rfl) ?_
        refine wl_nil (x_then (hK9 _ _ ?_))
        clear hK9 K9
        refine wc_cond rfl (fun hc30 => ?_) (fun hc30 => ?_)
        · try simp only [decide_eq_true_eq, decide_eq_false_iff_not, Bool.not_eq_true', Bool.not_eq_false', Bool.not_eq_eq_eq_not, Bool.not_true, Bool.not_false, beq_iff_eq, bne_iff_ne, ne_eq, beq_eq_false_iff_ne, bne_eq_false_iff_eq, gt_iff_lt, ge_iff_le, Int.not_lt, Int.not_le] at hc30
          refine c_skip (x_then (hK8 _ _ ?_))
          clear hK8 K8
          refine forget [(0, _), (5, _), (6, _), (7, _), (25, _), (26, _), (27, _), (28, _), (29, _)] ⟨rfl, rfl, rfl, rfl, rfl, rfl, rfl, rfl, rfl, trivial⟩ (fun e => ?_)
          refine c_seq (fun K10 hK10 => ?_)
          refine c_block ?_
          rw [hb8] at hg24
          have hk' : k < F.length := by omega
          have hx : F[k]? = some (fsAt F k) := by unfold fsAt; rw [List.getD_eq_getElem?_getD, List.getElem?_eq_getElem hk']; rfl
          have hbx := hb1.flatV hx
          have hfl := flat_le fby F (k + 1)
          rw [take_flat hx, List.length_append] at hfl
          obtain ⟨n2, n3, n4, n5⟩ := VL.protos_bd (F.take k) L
          rw [h2, List.length_take] at n2
          rw [h3] at n3
          rw [h4] at n4
          rw [h5] at n5
          simp only at n2
          refine c_reg ?_ -- region 8 vm.go:221
          refine wl (ro_move rfl) ?_
          refine wl (ro_move rfl) ?_
          refine wl_call rfl en_141 (proto141 hm1 hr1 t4b tg1 (hFO k) hbx (by omega) (by omega) (by omega) (by omega) (by omega)) ?_
          rintro v2 u2 ⟨rfl, hk2⟩
          rw [← VL.protos_tk L hx, Nat.add_assoc, ← List.length_append, ← take_flat hx] at hk2
          have hrl2 := RdL.go x1 f1 t4b q4b hk2
          refine wl_nil (x_blk (x_then (hK10 _ _ ?_)))
          clear hK10 K10
          refine c_reg ?_ -- region 7 vm.go:220
          refine wl (ro_move rfl) ?_
          refine wl (ro_arith rfl rfl rfl (Go.IntWalk.i64_in _ (by omega))) ?_
          refine wl (ro_assign rfl) ?_
          refine wl_nil (x_then ?_)
          exact ⟨_, by omega, k + 1, rfl, by omega, hrl2, kp _ ⟨rfl, rfl, rfl, rfl, trivial⟩⟩
        · try simp only [decide_eq_true_eq, decide_eq_false_iff_not, Bool.not_eq_true', Bool.not_eq_false', Bool.not_eq_eq_eq_not, Bool.not_true, Bool.not_false, beq_iff_eq, bne_iff_ne, ne_eq, beq_eq_false_iff_ne, bne_eq_false_iff_eq, gt_iff_lt, ge_iff_le, Int.not_lt, Int.not_le] at hc30
          simp at hc30
      · try simp only [decide_eq_true_eq, decide_eq_false_iff_not, Bool.not_eq_true', Bool.not_eq_false', Bool.not_eq_eq_eq_not, Bool.not_true, Bool.not_false, beq_iff_eq, bne_iff_ne, ne_eq, beq_eq_false_iff_ne, bne_eq_false_iff_eq, gt_iff_lt, ge_iff_le, Int.not_lt, Int.not_le] at hg24
        refine wlg_no rfl ?_
        refine wlg_no rfl ?_
        refine wlg_no rfl ?_
        refine wlg_no rfl ?_
        refine wlg_no rfl ?_
        refine wl (ro_pick rfl rfl rfl) ?_
        refine wl_nil (x_then (hK9 _ _ ?_))
        clear hK9 K9
        refine wc_condF rfl ?_
        refine c_exit (x_thenX (x_thenX (x_blkX (x_then (hK6 _ _ ?_)))))
        clear hK8 K8 hK6 K6
        refine c_seq (fun K11 hK11 => ?_)
        refine c_seq (fun K12 hK12 => ?_)
        rw [hb8] at hg24
        obtain rfl : k = F.length := by omega
        rw [List.take_length] at hm1 hr1
        have hR9 := hr1.r
        obtain ⟨V1, U1, op1⟩ := hm1
        have hM2 := op1.m
        unfold mbc at hM2
        have a2 := op1.a 2 (.inl (by decide))
        obtain ⟨n2, -, -, -⟩ := VL.protos_bd F L
        rw [h2] at n2
        simp only at n2
        obtain ⟨ga, ca, la, ea, hBa, q1, q2, q3, q4⟩ := a2.o.pos (by omega)
        obtain ⟨f0, F0, rfl⟩ : ∃ f0 F0, F = f0 :: F0 := by
          cases F with
          | nil => exact absurd hF1 (by decide)
          | cons f0 F0 => exact ⟨f0, F0, rfl⟩
        obtain ⟨t9, ht9⟩ := VL.protos_hd F0 (L.proto f0)
        rw [VL.proto_2, h2] at ht9
        have ht9 : ((L.protos (f0 :: F0)).A 2).2 = vpc f0 (L.A 3).1 (L.A 4).1 (L.A 5).1 ++ t9 := ht9
        have hrow : ∀ k, k < 8 → la[k]? = (vpc f0 (L.A 3).1 (L.A 4).1 (L.A 5).1)[k]? := fun k hk => by
          have h1 : (la.take (((L.protos (f0 :: F0)).A 2).1 * 8))[k]? = (vpc f0 (L.A 3).1 (L.A 4).1 (L.A 5).1)[k]? := by
            have q4 : la.take (((L.protos (f0 :: F0)).A 2).1 * 8) = ((L.protos (f0 :: F0)).A 2).2 := q4
            rw [q4, ht9, List.getElem?_append_left hk]
          rwa [List.getElem?_take_of_lt (by omega)] at h1
        have h0a : f0.np = 0 := h00.1
        have h0b : f0.ups = [] := h00.2
        rw [ea] at hM2
        refine c_pi [(0, false), (1, false), (2, false), (3, false), (4, false), (5, false), (6, false), (7, false), (8, false), (9, false), (10, false), (11, false), (12, false), (13, false), (14, false), (15, false)] (fun u => Blk u.heap rb [.slice (some ⟨gb, 0, none⟩) (img (f0 :: F0)).length cap, i64c (0 + 1 + ((f0 :: F0).flatMap fby).length), .bool false] 254) mixed (by kernel_rfl) rfl (by kernel_rfl) (po_then (po_then (po_bp))) (hR9) ?_ -- region 9 vm.go:223
        refine pi_ro rfl (fun w hS => ro_move rfl) ?_
        refine pi_ro rfl (fun w hS => ro_nilCheck rfl) ?_
        refine pi_ro rfl (fun w hS => ro_fieldAddr (k := 2) rfl fo_254_2) ?_
        refine pi_ro rfl (fun w hS => ro_loadB rfl sc_4 (hS) rfl) ?_
        refine pi_ro rfl (fun w hS => ro_move rfl) ?_
        refine pi_gyes rfl rfl (fun w hS => ro_move rfl) ?_
        refine pi_gyes rfl rfl (fun w hS => ro_nilCheck rfl) ?_
        refine pi_gyes rfl rfl (fun w hS => ro_fieldAddr (k := 1) rfl fo_254_1) ?_
        refine pi_gyes rfl rfl (fun w hS => ro_loadB rfl sc_3 (hS) rfl) ?_
        refine pi_gyes rfl rfl (fun w hS => ro_move rfl) ?_
        refine pi_gyes rfl rfl (fun w hS => ro_nilCheck rfl) ?_
        refine pi_gyes rfl rfl (fun w hS => ro_fieldAddr (k := 0) rfl fo_254_0) ?_
        refine pi_gyes rfl rfl (fun w hS => ro_loadB rfl sc_70 (hS) rfl) ?_
        refine pi_gyes rfl rfl (fun w hS => ro_lenL rfl se_70) ?_
        refine pi_gyes rfl rfl (fun w hS => ro_cmp rfl rfl rfl) ?_
        refine pi_ro rfl (fun w hS => ro_pick rfl rfl rfl) ?_
        refine pi_nil (x_then (hK12 _ _ ?_))
        clear hK12 K12
        refine wc_cond rfl (fun hc51 => ?_) (fun hc51 => ?_)
        · try simp only [decide_eq_true_eq, decide_eq_false_iff_not, Bool.not_eq_true', Bool.not_eq_false', Bool.not_eq_eq_eq_not, Bool.not_true, Bool.not_false, beq_iff_eq, bne_iff_ne, ne_eq, beq_eq_false_iff_ne, bne_eq_false_iff_eq, gt_iff_lt, ge_iff_le, Int.not_lt, Int.not_le] at hc51
          exfalso; omega
        · try simp only [decide_eq_true_eq, decide_eq_false_iff_not, Bool.not_eq_true', Bool.not_eq_false', Bool.not_eq_eq_eq_not, Bool.not_true, Bool.not_false, beq_iff_eq, bne_iff_ne, ne_eq, beq_eq_false_iff_ne, bne_eq_false_iff_eq, gt_iff_lt, ge_iff_le, Int.not_lt, Int.not_le] at hc51
          refine c_skip (x_then (hK11 _ _ ?_))
          clear hK11 K11
          refine forget [(0, _)] ⟨rfl, trivial⟩ (fun e => ?_)
          refine c_seq (fun K13 hK13 => ?_)
          refine c_reg ?_ -- region 11 vm.go:226
          refine wl (ro_move rfl) ?_
          refine wl (ro_nilCheck rfl) ?_
          refine wl (ro_fieldAddr (k := 2) rfl fo_89_2) ?_
          refine wl (ro_loadB rfl sc_81 (hM2) rfl) ?_
          refine wl (ro_indexAddr (et := 258) (k := 8) rfl rfl se_81 (rfl) ((by show 0 < _; omega))) ?_
          refine wl (ro_fieldAddr (k := 0) rfl fo_258_0) ?_
          refine wl (ro_loadB rfl sc_3 (hBa) ((show _ = some (i64c 0) by rw [hrow 0 (by decide)]; show some (i64c f0.np) = _; rw [h0a]))) ?_
          refine wl (ro_cmp rfl rfl rfl) ?_
          refine wl_fork rfl (fun hg60 => ?_) (fun hg60 => ?_)
          · try simp only [decide_eq_true_eq, decide_eq_false_iff_not, Bool.not_eq_true', Bool.not_eq_false', Bool.not_eq_eq_eq_not, Bool.not_true, Bool.not_false, beq_iff_eq, bne_iff_ne, ne_eq, beq_eq_false_iff_ne, bne_eq_false_iff_eq, gt_iff_lt, ge_iff_le, Int.not_lt, Int.not_le] at hg60
            refine wlg_yes rfl (ro_move rfl) ?_
            refine wlg_yes rfl (ro_nilCheck rfl) ?_
            refine wlg_yes rfl (ro_fieldAddr (k := 2) rfl fo_89_2) ?_
            refine wlg_yes rfl (ro_loadB rfl sc_81 (hM2) rfl) ?_
            refine wlg_yes rfl (ro_indexAddr (et := 258) (k := 8) rfl rfl se_81 (rfl) ((by show 0 < _; omega))) ?_
            refine wlg_yes rfl (ro_fieldAddr (k := 3) rfl fo_258_3) ?_
            refine wlg_yes rfl (ro_loadB rfl sc_3 (hBa) ((show _ = some (i64c 0) by rw [hrow 3 (by decide)]; show some (i64c f0.ups.length) = _; rw [h0b]; rfl))) ?_
            refine wlg_yes rfl (ro_cmp rfl rfl rfl) ?_
            refine wl (ro_pick rfl rfl rfl) ?_
            refine wl (ro_assign rfl) ?_
            refine wl_nil (x_then (hK13 _ _ ?_))
            clear hK13 K13
            refine c_ret ?_
            refine bp_ret Tryz.results85 rfl ?_
            refine ⟨rfl, ow1, ?_, ?_, ⟨V1, U1, op1.dr⟩⟩
            · exact fun b hb ↦ x1 b (by have := hf0.size; omega)
            · exact ((hf0.mono (G := tg ow vmT) (fun b hb z ↦ by exfalso; rcases z with z | z | z <;> omega)).trans' f1 (fun b hb z ↦ z.elim (fun z ↦ z) (fun z ↦ by exfalso; omega))).thenDrew
          · try simp only [decide_eq_true_eq, decide_eq_false_iff_not, Bool.not_eq_true', Bool.not_eq_false', Bool.not_eq_eq_eq_not, Bool.not_true, Bool.not_false, beq_iff_eq, bne_iff_ne, ne_eq, beq_eq_false_iff_ne, bne_eq_false_iff_eq, gt_iff_lt, ge_iff_le, Int.not_lt, Int.not_le] at hg60
            exfalso; first | exact hg60 rfl | (simp at hg60; done) | omega
end
end Go.Proofs.Qxb6500568aGreatDoor
