import Derived.Test.Qxb6500568aGreatDoorKg
/- A function read. -/
namespace Go.Proofs.Qxb6500568aGreatDoor
open Ieee
set_option linter.unusedVariables false
set_option linter.unusedSimpArgs false
set_option linter.unusedSectionVars false

theorem Bts.flat {α : Type} {g : α → Str} {c : Nat} (hg : ∀ x, (g x).length = c) {s : Str} {l : List α} {p k : Nat} {x : α} (h : Bts s p (l.flatMap g)) (hx : l[k]? = some x) : Bts s (p + c * k) (g x) := by
  have e : l = l.take k ++ x :: l.drop (k + 1) := by
    have hk := (List.getElem?_eq_some_iff.1 hx).1
    rw [List.getElem?_eq_getElem hk, Option.some.injEq] at hx
    rw [← hx, ← List.drop_eq_getElem_cons hk, List.take_append_drop]
  rw [e, List.flatMap_append, List.flatMap_cons] at h
  have h1 := h.r.l
  rw [flat_len hg, List.length_take, Nat.min_eq_left (by have := (List.getElem?_eq_some_iff.1 hx).1; omega)] at h1
  exact h1
theorem Bts.flatV {α : Type} {g : α → Str} {s : Str} {l : List α} {p k : Nat} {x : α} (h : Bts s p (l.flatMap g)) (hx : l[k]? = some x) : Bts s (p + ((l.take k).flatMap g).length) (g x) := by
  have e : l = l.take k ++ x :: l.drop (k + 1) := by
    have hk := (List.getElem?_eq_some_iff.1 hx).1
    rw [List.getElem?_eq_getElem hk, Option.some.injEq] at hx
    rw [← hx, ← List.drop_eq_getElem_cons hk, List.take_append_drop]
  rw [e, List.flatMap_append, List.flatMap_cons] at h
  exact h.r.l
theorem Bts.at' {s bs : Str} {i j : Nat} (h : Bts s i bs) (e : i = j) : Bts s j bs := e ▸ h
theorem by16_val {n : Nat} (h : n < 65536) : (by8 n).toNat + 256 * (by8 (n / 256)).toNat = n := by
  rw [by8_nat, by8_nat]
  omega
theorem RdL.go {E : VE} {w u u' : World} {ow ow1 : Nat → Nat} {L' : VL} {rb gb cap i' b4 : Nat} {l : List Value} {s : Str} (x1 : Xt w ow ow1) (f1 : Fram (fun b => vmT (ow b) ∨ b = rb) w u) (t1 : ow1 b4 = 66) (q1 : b4 < u.heap.size) (h : RdK E u ow1 L' rb gb cap l s i' u') : RdL E w ow L' rb gb cap l s i' b4 u' := by
  obtain ⟨ow2, x2, h2, r2, f2⟩ := h.ex
  exact ⟨ow2, x1.trans f1.size x2, h2, r2, f1.trans' f2 (fun b hb z => z.elim (fun z => .inl (by have z : vmT (ow1 b) := z; rw [x1 b hb] at z; exact z)) .inr), by rw [x2 b4 q1]; exact t1, by have := f2.size; omega⟩
theorem RdL.put4 {E : VE} {w u u' : World} {ow : Nat → Nat} {L : VL} {rb gb cap i b4 : Nat} {l : List Value} {s : Str} (h : RdL E w ow L rb gb cap l s i b4 u) (f : Fram (one b4) u u') (hw : w.heap.size ≤ b4) (h1 : rb ≠ b4) (h2 : gb ≠ b4) : RdL E w ow L rb gb cap l s i b4 u' := by
  obtain ⟨ow1, x1, hm, hr, f1, t1, q1⟩ := h.ex
  exact ⟨ow1, x1, hm.hbput f t1, hr.far f h1 h2, f1.trans' f (fun b hb z => by have z : b = b4 := z; omega), t1, by have := f.size; omega⟩
theorem rws_tk1 {α : Type} {enc : α → List Value} {l : List α} {k : Nat} {x : α} (hx : l[k]? = some x) : rws enc (l.take (k + 1)) = rws enc (l.take k) ++ enc x := by
  rw [List.take_add_one, hx, Option.toList_some, rws_app, rws_one]
section
variable {E : VE} {w : World} {ow : Nat → Nat} {L : VL} {rb gb cap i : Nat} {l : List Value} {s : Str}
set_option maxHeartbeats 16000000 in
theorem proto141 (h : VMV E w ow L) (hr : RdV w rb gb cap l s i) (trb : ow rb = 66) (tgb : ow gb = 66) {f : FS} (hf : FOK f) (hb : Bts s i (fby f)) (hl : (fby f).length ≤ 40000) (h2 : (L.A 2).1 ≤ 100) (h3 : (L.A 3).1 ≤ 50000) (h4 : (L.A 4).1 ≤ 50000) (h5 : (L.A 5).1 ≤ 50000) :
    Ret Tryz.prog 141 [ptr E.mb, ptr rb] w (fun r w' => r = .tuple #[] ∧ RdK E w ow (L.proto f) rb gb cap l s (i + (fby f).length) w') := by
  obtain ⟨hns12, hnp3, hnpns, hKOK, hOps, dd, hdd, hUOK⟩ := hf
  have hul := hUOK.len
  have hle := hb.le (by unfold fby; simp)
  rw [fby_len] at hl hle
  unfold fb at hl hle
  have hkks := ks_sum f.ks
  have hc6 := hb
  unfold fby at hc6
  have hbc := hc6.r
  have hb5 := hc6.l.r
  have hb4 := hc6.l.l.r
  have hb3 := hc6.l.l.l.r
  have hb2 := hc6.l.l.l.l.r
  have hb1 := hc6.l.l.l.l.l
  simp only [List.length_append, flat_len (f := uby) (c := 2) (fun _ => rfl), kflat_len, List.length_cons, List.length_nil, by16] at hb2 hb3 hb4 hb5 hbc
  obtain ⟨V, U, op⟩ := h
  have hM := op.m
  have hRl := hr.r.lt
  have hGl := hr.g.lt
  have hml := op.m.lt
  unfold mbc at hM
  obtain ⟨g3, c3, e3⟩ := (op.a 3 (.inl (by decide))).form
  obtain ⟨g4, c4, e4⟩ := (op.a 4 (.inl (by decide))).form
  obtain ⟨g5, c5, e5⟩ := (op.a 5 (.inl (by decide))).form
  rw [e3, e4, e5] at hM
  have hF : Fram (one rb) w w := Fram.refl _ _
  have hR := hr.r
  have hg := hr.g
  have hmr : E.mb ≠ rb := fun e => by have := op.tm; rw [e, trb] at this; omega
  have hgr := hr.ne
  refine ret_of Tryz.func141 rfl Tryz.ntmps141 rfl ?_
  refine c_seq (fun K1 hK1 => ?_)
  refine c_piL 17 [(0, false), (1, false), (2, false), (3, false), (4, false), (5, false), (6, false), (7, false), (8, false), (9, false), (10, false), (11, false), (12, false), (13, false), (14, false), (15, false), (16, true)] (fun u => Blk u.heap E.mb [E.np, E.tp, V 2, .slice g3 (L.A 3).1 c3, .slice g4 (L.A 4).1 c4, .slice g5 (L.A 5).1 c5, V 6, V 7, V 8, .slice (some ⟨E.tb, 0, none⟩) L.nt 5, L.fu, V 11, L.en] 89) mixed (by kernel_rfl) rfl (by kernel_rfl) (po_then (po_bp)) (hM) ?_ -- region 0 vm.go:179
  refine ql_ro rfl (fun w hS => ro_move rfl) ?_
  refine ql_ro rfl (fun w hS => ro_nilCheck rfl) ?_
  refine ql_ro rfl (fun w hS => ro_fieldAddr (k := 3) rfl fo_89_3) ?_
  refine ql_ro rfl (fun w hS => ro_loadB rfl sc_82 (hS) rfl) ?_
  refine ql_ro rfl (fun w hS => ro_lenL rfl se_82) ?_
  refine ql_ro rfl (fun w hS => ro_move rfl) ?_
  refine ql_ro rfl (fun w hS => ro_nilCheck rfl) ?_
  refine ql_ro rfl (fun w hS => ro_fieldAddr (k := 4) rfl fo_89_4) ?_
  refine ql_ro rfl (fun w hS => ro_loadB rfl sc_83 (hS) rfl) ?_
  refine ql_ro rfl (fun w hS => ro_lenL rfl se_83) ?_
  refine ql_ro rfl (fun w hS => ro_move rfl) ?_
  refine ql_ro rfl (fun w hS => ro_nilCheck rfl) ?_
  refine ql_ro rfl (fun w hS => ro_fieldAddr (k := 5) rfl fo_89_5) ?_
  refine ql_ro rfl (fun w hS => ro_loadB rfl sc_84 (hS) rfl) ?_
  refine ql_ro rfl (fun w hS => ro_lenL rfl se_84) ?_
  refine ql_ro rfl (fun w hS => ro_build rfl bld_258_2_4_6) ?_
  refine ql_new rfl ze_258 (fun w1 F ↦ F.blkN hM) ?_
  intro b4 w1 hbb4 h4b F1
  have hneE.mbb4 : E.mb < b4 := Nat.lt_of_lt_of_le hM.lt hbb4
  have hnerbb4 : rb < b4 := Nat.lt_of_lt_of_le hR.lt hbb4
  have hbsb4 := Nat.le_trans hF.size hbb4
  replace hM := F1.blkN hM
  replace hR := F1.blkN hR
  replace hg := F1.fzN hg
  replace hF := hF.thenDrew.thenN F1
  refine ql_puta rfl rfl rfl ((by simp [Value.oneCell', i64c])) sz_258 (rfl) h4b ((by simp)) (rfl) (fun w2 h4b F2 => ?_)
  replace hM := F2.blkO hM (by omega)
  replace hR := F2.blkO hR (by omega)
  replace hg := F2.fzO hg (by omega)
  replace hF := hF.thenDrew.thenO F2 (by first | exact .inr (by omega) | exact .inl rfl | exact .inl (by assumption) | assumption)
  refine x_then (hK1 _ _ ?_)
  clear hK1 K1
  refine forget [(0, _), (1, _), (4, _)] ⟨rfl, rfl, rfl, trivial⟩ (fun e => ?_)
  refine c_seq (fun K2 hK2 => ?_)
  have hr' : RdV _ rb gb cap l s i := ⟨hR, hg, hr.c, hr.l, hr.n, hr.ne⟩
  refine c_reg ?_ -- region 1 vm.go:180
  refine wl (ro_move rfl) ?_
  refine wl_call rfl en_196 (take196 hr' (n := 3) (by omega) (by omega)) ?_
  rintro v1 u1 ⟨rfl, hr1, f1⟩
  have hF0 := hF
  replace hF := hF.trans' f1 (fun _ _ z => z)
  replace h4b := f1.blkO h4b (by omega)
  replace hM := f1.blkO hM (by omega)
  replace hg := hr1.g
  replace hR := hr1.r
  refine wl (ro_assign rfl) ?_
  refine wl_nil (x_then (hK2 _ _ ?_))
  clear hK2 K2
  refine c_seq (fun K3 hK3 => ?_)
  refine c_seq (fun K4 hK4 => ?_)
  refine c_reg ?_ -- region 2 vm.go:181
  refine wl (ro_move rfl) ?_
  refine wl (ro_nilCheck rfl) ?_
  refine wl (ro_fieldAddr (k := 2) rfl fo_254_2) ?_
  refine wl (ro_loadB rfl sc_4 (hR) rfl) ?_
  refine wl_nil (x_then (hK4 _ _ ?_))
  clear hK4 K4
  refine wc_cond rfl (fun hc34 => ?_) (fun hc34 => ?_)
  · try simp only [decide_eq_true_eq, decide_eq_false_iff_not, Bool.not_eq_true', Bool.not_eq_false', Bool.not_eq_eq_eq_not, Bool.not_true, Bool.not_false, beq_iff_eq, bne_iff_ne, ne_eq, beq_eq_false_iff_ne, bne_eq_false_iff_eq, gt_iff_lt, ge_iff_le, Int.not_lt, Int.not_le] at hc34
    cases hc34
  · try simp only [decide_eq_true_eq, decide_eq_false_iff_not, Bool.not_eq_true', Bool.not_eq_false', Bool.not_eq_eq_eq_not, Bool.not_true, Bool.not_false, beq_iff_eq, bne_iff_ne, ne_eq, beq_eq_false_iff_ne, bne_eq_false_iff_eq, gt_iff_lt, ge_iff_le, Int.not_lt, Int.not_le] at hc34
    refine c_skip (x_then (hK3 _ _ ?_))
    clear hK3 K3
    refine forget [(0, _), (1, _), (4, _), (5, _)] ⟨rfl, rfl, rfl, rfl, trivial⟩ (fun e => ?_)
    refine c_seq (fun K5 hK5 => ?_)
    refine c_piL 17 [(0, false), (1, false), (2, false), (3, false), (4, false), (5, false), (6, false), (7, false), (8, false), (9, false), (10, false), (11, false), (12, false), (13, true), (14, false), (15, true), (16, false)] (fun u => FzB u.heap gb l 5) mixed (by kernel_rfl) rfl (by kernel_rfl) (po_then (po_bp)) (hg) ?_ -- region 3 vm.go:184
    refine ql_ro rfl (fun w hS => ro_move rfl) ?_
    refine ql_ro rfl (fun w hS => ro_indexAddr (et := 5) (k := 1) rfl rfl se_70 (rfl) ((by decide))) ?_
    refine ql_ro rfl (fun w hS => ro_loadZ rfl sc_5 (hS) ((show _ = some (u8n f.np) by rw [u8_by8 (by omega)]; exact hr1.at (hb1 0 _ rfl)))) ?_
    refine ql_ro rfl (fun w hS => ro_conv rfl sc_5 in_3 (Go.IntWalk.i64_in _ (by omega))) ?_
    refine ql_ro rfl (fun w hS => ro_move rfl) ?_
    refine ql_ro rfl (fun w hS => ro_indexAddr (et := 5) (k := 1) rfl rfl se_70 (rfl) ((by decide))) ?_
    refine ql_ro rfl (fun w hS => ro_loadZ rfl sc_5 (hS) ((show _ = some (u8n f.ns) by rw [u8_by8 (by omega)]; exact hr1.at (hb1 1 _ rfl)))) ?_
    refine ql_ro rfl (fun w hS => ro_conv rfl sc_5 in_3 (Go.IntWalk.i64_in _ (by omega))) ?_
    refine ql_ro rfl (fun w hS => ro_move rfl) ?_
    refine ql_ro rfl (fun w hS => ro_indexAddr (et := 5) (k := 1) rfl rfl se_70 (rfl) ((by decide))) ?_
    refine ql_ro rfl (fun w hS => ro_loadZ rfl sc_5 (hS) ((show _ = some (u8n f.ups.length) by rw [u8_by8 (by omega)]; exact hr1.at (hb1 2 _ rfl)))) ?_
    refine ql_ro rfl (fun w hS => ro_conv rfl sc_5 in_3 (Go.IntWalk.i64_in _ (by omega))) ?_
    refine ql_ro rfl (fun w hS => ro_fieldAddr (k := 0) rfl fo_258_0) ?_
    refine ql_putm rfl rfl rfl rfl sz_3 h4b ((by simp)) (rfl) (fun w1 hB1 F ↦ (F.fzO hg (by omega))) (fun w3 h4b F3 => ?_)
    replace hM := F3.blkO hM (by omega)
    replace hR := F3.blkO hR (by omega)
    replace hg := F3.fzO hg (by omega)
    replace hF := hF.thenDrew.thenO F3 (by first | exact .inr (by omega) | exact .inl rfl | exact .inl (by assumption) | assumption)
    refine ql_ro rfl (fun w hS => ro_fieldAddr (k := 1) rfl fo_258_1) ?_
    refine ql_putm rfl rfl rfl rfl sz_3 h4b ((by simp)) (rfl) (fun w1 hB1 F ↦ (F.fzO hg (by omega))) (fun w4 h4b F4 => ?_)
    replace hM := F4.blkO hM (by omega)
    replace hR := F4.blkO hR (by omega)
    replace hg := F4.fzO hg (by omega)
    replace hF := hF.thenDrew.thenO F4 (by first | exact .inr (by omega) | exact .inl rfl | exact .inl (by assumption) | assumption)
    refine ql_ro rfl (fun w hS => ro_fieldAddr (k := 3) rfl fo_258_3) ?_
    refine ql_put rfl rfl rfl rfl sz_3 h4b (by simp) (rfl) (fun w5 h4b F5 => ?_)
    replace hM := F5.blkO hM (by omega)
    replace hR := F5.blkO hR (by omega)
    replace hg := F5.fzO hg (by omega)
    replace hF := hF.thenDrew.thenO F5 (by first | exact .inr (by omega) | exact .inl rfl | exact .inl (by assumption) | assumption)
    refine x_then (hK5 _ _ ?_)
    clear hK5 K5
    refine c_seq (fun K6 hK6 => ?_)
    refine c_seq (fun K7 hK7 => ?_)
    have h4b : Blk w5.heap b4 [i64c f.np, i64c f.ns, i64c (L.A 3).1, i64c f.ups.length, i64c (L.A 4).1, i64c 0, i64c (L.A 5).1, i64c 0] 258 := h4b
    have h1 := (show VMV E w ow L from ⟨V, U, op⟩).hbput hF trb
    have hr2 : RdV _ rb gb cap l s (i + 3) := ⟨hR, hg, hr.c, hr.l, hr.n, hr.ne⟩
    have hrl : RdL E w ow (L.appA 3 0 (rws upc (f.ups.take 0))) rb gb cap l s (i + 3 + 2 * 0) b4 _ := ⟨ow, Xt.refl _ _, (by rw [List.take_zero]; show VMV E _ ow (L.appA 3 0 []); rw [VL.appA_zero]; exact h1), hr2, hF.mono (fun b _ z => .inr z), op.df _ (by omega), h4b.lt⟩
    refine c_reg ?_ -- region 4 vm.go:185
    refine wl (ro_fieldAddr (k := 0) rfl fo_258_0) ?_
    refine wl (ro_loadB rfl sc_3 (h4b) rfl) ?_
    refine wl (ro_cmp rfl rfl rfl) ?_
    refine wl_fork rfl (fun hg53 => ?_) (fun hg53 => ?_)
    · try simp only [decide_eq_true_eq, decide_eq_false_iff_not, Bool.not_eq_true', Bool.not_eq_false', Bool.not_eq_eq_eq_not, Bool.not_true, Bool.not_false, beq_iff_eq, bne_iff_ne, ne_eq, beq_eq_false_iff_ne, bne_eq_false_iff_eq, gt_iff_lt, ge_iff_le, Int.not_lt, Int.not_le] at hg53
      exfalso; omega
    · try simp only [decide_eq_true_eq, decide_eq_false_iff_not, Bool.not_eq_true', Bool.not_eq_false', Bool.not_eq_eq_eq_not, Bool.not_true, Bool.not_false, beq_iff_eq, bne_iff_ne, ne_eq, beq_eq_false_iff_ne, bne_eq_false_iff_eq, gt_iff_lt, ge_iff_le, Int.not_lt, Int.not_le] at hg53
      refine wlg_yes rfl (ro_fieldAddr (k := 0) rfl fo_258_0) ?_
      refine wlg_yes rfl (ro_loadB rfl sc_3 (h4b) rfl) ?_
      refine wlg_yes rfl (ro_fieldAddr (k := 1) rfl fo_258_1) ?_
      refine wlg_yes rfl (ro_loadB rfl sc_3 (h4b) rfl) ?_
      refine wlg_yes rfl (ro_cmp rfl rfl rfl) ?_
      refine wl (ro_pick rfl rfl rfl) ?_
      refine wl_fork rfl (fun hg60 => ?_) (fun hg60 => ?_)
      · try simp only [decide_eq_true_eq, decide_eq_false_iff_not, Bool.not_eq_true', Bool.not_eq_false', Bool.not_eq_eq_eq_not, Bool.not_true, Bool.not_false, beq_iff_eq, bne_iff_ne, ne_eq, beq_eq_false_iff_ne, bne_eq_false_iff_eq, gt_iff_lt, ge_iff_le, Int.not_lt, Int.not_le] at hg60
        exfalso; omega
      · try simp only [decide_eq_true_eq, decide_eq_false_iff_not, Bool.not_eq_true', Bool.not_eq_false', Bool.not_eq_eq_eq_not, Bool.not_true, Bool.not_false, beq_iff_eq, bne_iff_ne, ne_eq, beq_eq_false_iff_ne, bne_eq_false_iff_eq, gt_iff_lt, ge_iff_le, Int.not_lt, Int.not_le] at hg60
        refine wlg_yes rfl (ro_fieldAddr (k := 1) rfl fo_258_1) ?_
        refine wlg_yes rfl (ro_loadB rfl sc_3 (h4b) rfl) ?_
        refine wlg_yes rfl (ro_cmp rfl rfl rfl) ?_
        refine wl (ro_pick rfl rfl rfl) ?_
        refine wl_nil (x_then (hK7 _ _ ?_))
        clear hK7 K7
        refine wc_cond rfl (fun hc64 => ?_) (fun hc64 => ?_)
        · try simp only [decide_eq_true_eq, decide_eq_false_iff_not, Bool.not_eq_true', Bool.not_eq_false', Bool.not_eq_eq_eq_not, Bool.not_true, Bool.not_false, beq_iff_eq, bne_iff_ne, ne_eq, beq_eq_false_iff_ne, bne_eq_false_iff_eq, gt_iff_lt, ge_iff_le, Int.not_lt, Int.not_le] at hc64
          exfalso; omega
        · try simp only [decide_eq_true_eq, decide_eq_false_iff_not, Bool.not_eq_true', Bool.not_eq_false', Bool.not_eq_eq_eq_not, Bool.not_true, Bool.not_false, beq_iff_eq, bne_iff_ne, ne_eq, beq_eq_false_iff_ne, bne_eq_false_iff_eq, gt_iff_lt, ge_iff_le, Int.not_lt, Int.not_le] at hc64
          refine c_skip (x_then (hK6 _ _ ?_))
          clear hK6 K6
          refine c_seq (fun K8 hK8 => ?_)
          refine c_seq (fun K9 hK9 => ?_)
          refine c_reg ?_ -- region 6 vm.go:188
          refine wl (ro_assign rfl) ?_
          refine wl_nil (x_then (hK9 _ _ ?_))
          clear hK9 K9
          refine c_block ?_
          -- loop@r7: live slots [0, 1, 4, 6]
          refine c_loopG (fun m a u => ∃ k, m = f.ups.length - k ∧ k ≤ f.ups.length ∧ RdL E w ow (L.appA 3 k (rws upc (f.ups.take k))) rb gb cap l s (i + 3 + 2 * k) b4 u ∧ Blk u.heap b4 [i64c f.np, i64c f.ns, i64c (L.A 3).1, i64c f.ups.length, i64c (L.A 4).1, i64c 0, i64c (L.A 5).1, i64c 0] 258 ∧ ∃ e, a = Fr 190 (upds e [(0, ptr E.mb), (1, ptr rb), (4, ptr b4), (6, i64c k)]) []) _ ⟨0, rfl, by omega, hrl, h4b, kp _ ⟨rfl, rfl, rfl, rfl, trivial⟩⟩ ?_
          clear hrl h4b hM hR hg hF hF0 h1 hr2 hr1 f1 F3 F4 F5
          rintro m a u ⟨k, rfl, hkl, hrl, h4b, e, rfl⟩
          have hrl0 := hrl
          obtain ⟨ow1, x1, hm1, hr1, f1, t4b, q4b⟩ := hrl.ex
          have hR1 := hr1.r
          have tr1 : ow1 rb = 66 := by rw [x1 _ hRl]; exact trb
          have tg1 : ow1 gb = 66 := by rw [x1 _ hGl]; exact tgb
          refine c_seq (fun K10 hK10 => ?_)
          refine c_seq (fun K11 hK11 => ?_)
          refine c_reg ?_ -- region 7 vm.go:188
          refine wl (ro_move rfl) ?_
          refine wl (ro_fieldAddr (k := 3) rfl fo_258_3) ?_
          refine wl (ro_loadB rfl sc_3 (h4b) rfl) ?_
          refine wl (ro_cmp rfl rfl rfl) ?_
          refine wl_fork rfl (fun hg72 => ?_) (fun hg72 => ?_)
          · try simp only [decide_eq_true_eq, decide_eq_false_iff_not, Bool.not_eq_true', Bool.not_eq_false', Bool.not_eq_eq_eq_not, Bool.not_true, Bool.not_false, beq_iff_eq, bne_iff_ne, ne_eq, beq_eq_false_iff_ne, bne_eq_false_iff_eq, gt_iff_lt, ge_iff_le, Int.not_lt, Int.not_le] at hg72
            refine wlg_yes rfl (ro_move rfl) ?_
            refine wlg_yes rfl (ro_nilCheck rfl) ?_
            refine wlg_yes rfl (ro_fieldAddr (k := 2) rfl fo_254_2) ?_
            refine wlg_yes rfl (ro_loadB rfl sc_4 (hR1) rfl) ?_
            refine wlg_yes rfl (ro_not rfl) ?_
            refine wl (ro_pick rfl rfl rfl) ?_
            refine wl_nil (x_then (hK11 _ _ ?_))
            clear hK11 K11
            refine wc_cond rfl (fun hc78 => ?_) (fun hc78 => ?_)
            · try simp only [decide_eq_true_eq, decide_eq_false_iff_not, Bool.not_eq_true', Bool.not_eq_false', Bool.not_eq_eq_eq_not, Bool.not_true, Bool.not_false, beq_iff_eq, bne_iff_ne, ne_eq, beq_eq_false_iff_ne, bne_eq_false_iff_eq, gt_iff_lt, ge_iff_le, Int.not_lt, Int.not_le] at hc78
              refine c_skip (x_then (hK10 _ _ ?_))
              clear hK10 K10
              refine forget [(0, _), (1, _), (4, _), (6, _), (73, _), (74, _), (75, _), (76, _), (77, _)] ⟨rfl, rfl, rfl, rfl, rfl, rfl, rfl, rfl, rfl, trivial⟩ (fun e => ?_)
              refine c_seq (fun K12 hK12 => ?_)
              refine c_block ?_
              refine c_seq (fun K13 hK13 => ?_)
              have hk' : k < f.ups.length := by omega
              obtain ⟨x, hx⟩ : ∃ x, f.ups[k]? = some x := ⟨_, List.getElem?_eq_getElem hk'⟩
              have hbx := hb2.flat (c := 2) (fun _ => rfl) hx
              have hxu : x.1 ≤ 1 ∧ x.2 < 256 := by
                rcases hUOK.2 x (List.mem_of_getElem? hx) with ⟨z1, z2, z3⟩ | ⟨z1, z2⟩ <;> omega
              refine c_reg ?_ -- region 9 vm.go:189
              refine wl (ro_move rfl) ?_
              refine wl_call rfl en_196 (take196 hr1 (n := 2) (by omega) (by omega)) ?_
              rintro v2 u2 ⟨rfl, hr2, f2⟩
              obtain ⟨V1, U1, op1⟩ := hm1.hbput f2 tr1
              have hR2 := hr2.r
              have hg2 := hr2.g
              have hM2 := op1.m
              unfold mbc at hM2
              have a3 := op1.a 3 (.inl (by decide))
              have hn3 : ((L.appA 3 k (rws upc (f.ups.take k))).A 3).1 = (L.A 3).1 + k := by rw [VL.appA_self]
              obtain ⟨ga, ca, ea⟩ := a3.form
              rw [ea] at hM2
              have hM3 : ¬ own1 (V1 3) E.mb := fun y => by have := a3.t _ y; rw [op1.tm] at this; omega
              have hg3 : ¬ own1 (V1 3) gb := fun y => by have := a3.t _ y; rw [tg1] at this; omega
              refine wl (ro_assign rfl) ?_
              refine wl_nil (x_then (hK13 _ _ ?_))
              clear hK13 K13
              refine c_seq (fun K14 hK14 => ?_)
              refine c_seq (fun K15 hK15 => ?_)
              refine c_reg ?_ -- region 10 vm.go:190
              refine wl (ro_move rfl) ?_
              refine wl (ro_nilCheck rfl) ?_
              refine wl (ro_fieldAddr (k := 2) rfl fo_254_2) ?_
              refine wl (ro_loadB rfl sc_4 (hR2) rfl) ?_
              refine wl_fork rfl (fun hg87 => ?_) (fun hg87 => ?_)
              · try simp only [decide_eq_true_eq, decide_eq_false_iff_not, Bool.not_eq_true', Bool.not_eq_false', Bool.not_eq_eq_eq_not, Bool.not_true, Bool.not_false, beq_iff_eq, bne_iff_ne, ne_eq, beq_eq_false_iff_ne, bne_eq_false_iff_eq, gt_iff_lt, ge_iff_le, Int.not_lt, Int.not_le] at hg87
                cases hg87
              · try simp only [decide_eq_true_eq, decide_eq_false_iff_not, Bool.not_eq_true', Bool.not_eq_false', Bool.not_eq_eq_eq_not, Bool.not_true, Bool.not_false, beq_iff_eq, bne_iff_ne, ne_eq, beq_eq_false_iff_ne, bne_eq_false_iff_eq, gt_iff_lt, ge_iff_le, Int.not_lt, Int.not_le] at hg87
                refine wlg_yes rfl (ro_move rfl) ?_
                refine wlg_yes rfl (ro_indexAddr (et := 5) (k := 1) rfl rfl se_70 (rfl) ((by decide))) ?_
                refine wlg_yes rfl (ro_loadZ rfl sc_5 (hg2) ((show _ = some (u8n x.1) by rw [u8_by8 (by omega)]; exact hr2.at (hbx 0 _ rfl)))) ?_
                refine wlg_yes rfl (ro_cmp rfl rfl rfl) ?_
                refine wl (ro_pick rfl rfl rfl) ?_
                refine wl_nil (x_then (hK15 _ _ ?_))
                clear hK15 K15
                refine wc_cond rfl (fun hc92 => ?_) (fun hc92 => ?_)
                · try simp only [decide_eq_true_eq, decide_eq_false_iff_not, Bool.not_eq_true', Bool.not_eq_false', Bool.not_eq_eq_eq_not, Bool.not_true, Bool.not_false, beq_iff_eq, bne_iff_ne, ne_eq, beq_eq_false_iff_ne, bne_eq_false_iff_eq, gt_iff_lt, ge_iff_le, Int.not_lt, Int.not_le] at hc92
                  exfalso; omega
                · try simp only [decide_eq_true_eq, decide_eq_false_iff_not, Bool.not_eq_true', Bool.not_eq_false', Bool.not_eq_eq_eq_not, Bool.not_true, Bool.not_false, beq_iff_eq, bne_iff_ne, ne_eq, beq_eq_false_iff_ne, bne_eq_false_iff_eq, gt_iff_lt, ge_iff_le, Int.not_lt, Int.not_le] at hc92
                  refine c_skip (x_then (hK14 _ _ ?_))
                  clear hK14 K14
                  refine c_piL 16 [(0, false), (1, false), (2, false), (3, false), (4, false), (5, false), (6, false), (7, false), (8, false), (9, false), (10, false), (11, false), (12, true), (13, true), (14, false), (15, false)] (fun u => Blk u.heap E.mb [E.np, E.tp, V1 2, .slice ga ((L.appA 3 k (rws upc (f.ups.take k))).A 3).1 ca, V1 4, V1 5, V1 6, V1 7, V1 8, .slice (some ⟨E.tb, 0, none⟩) L.nt 5, L.fu, V1 11, L.en] 89 ∧ FzB u.heap gb l 5) mixed (by kernel_rfl) rfl (by kernel_rfl) (po_blk (po_then (po_then (po_blk (po_then (po_bp)))))) (⟨hM2, hg2⟩) ?_ -- region 12 vm.go:194
                  refine ql_ro rfl (fun w hS => ro_move rfl) ?_
                  refine ql_ro rfl (fun w hS => ro_move rfl) ?_
                  refine ql_ro rfl (fun w hS => ro_nilCheck rfl) ?_
                  refine ql_ro rfl (fun w hS => ro_fieldAddr (k := 3) rfl fo_89_3) ?_
                  refine ql_ro rfl (fun w hS => ro_loadB rfl sc_82 (hS.1) rfl) ?_
                  refine ql_ro rfl (fun w hS => ro_move rfl) ?_
                  refine ql_ro rfl (fun w hS => ro_indexAddr (et := 5) (k := 1) rfl rfl se_70 (rfl) ((by decide))) ?_
                  refine ql_ro rfl (fun w hS => ro_loadZ rfl sc_5 (hS.2) ((show _ = some (u8n x.1) by rw [u8_by8 (by omega)]; exact hr2.at (hbx 0 _ rfl)))) ?_
                  refine ql_ro rfl (fun w hS => ro_move rfl) ?_
                  refine ql_ro rfl (fun w hS => ro_indexAddr (et := 5) (k := 1) rfl rfl se_70 (rfl) ((by decide))) ?_
                  refine ql_ro rfl (fun w hS => ro_loadZ rfl sc_5 (hS.2) ((show _ = some (u8n x.2) by rw [u8_by8 (by omega)]; exact hr2.at (hbx 1 _ rfl)))) ?_
                  refine ql_ro rfl (fun w hS => ro_build rfl bld_319_0_1) ?_
                  refine ql_bsapp (t := 82) (et := 319) (k := 2) (m := ((L.appA 3 k (rws upc (f.ups.take k))).A 3).1) (cs := upc x) rfl rfl rfl rfl (by rw [← ea]; rfl) rfl se_82 zx_319 by_319 rfl rfl rfl (upc_one _) (a3.o.fram (Fram.refl none' _).thenDrew (fun _ _ h => h)) (by omega) (by omega) (fun w1 F ↦ ⟨F.blkN hM2, F.fzN hg2⟩) (fun w1 F ↦ ⟨F.blkF hM2 hM3, F.fzF hg2 hg3⟩) ?_
                  intro v' u6 hon G1 hnb
                  obtain ⟨va, vc, rfl⟩ := hon.form
                  replace hM2 := G1.blkF hM2 hM3
                  skip
                  refine ql_ro rfl (fun w hS => ro_nilCheck rfl) ?_
                  refine ql_ro rfl (fun w hS => ro_fieldAddr (k := 3) rfl fo_89_3) ?_
                  refine ql_put rfl rfl rfl rfl sz_82 hM2 (by simp) (rfl) (fun w6 hM2 F6 => ?_)
                  have hF9 := (F6)
                  obtain ⟨ow6, x6, f6, op6⟩ := op1.growA (i := 3) (.inl (by decide)) hon ((Fram.refl (own1 (V1 3)) _).thenDrew.trans' G1 (fun _ _ h ↦ h)) hnb hF9 hM2
                  have z2 := f2.size
                  have f26 : Fram (fun b => vmT (ow1 b) ∨ b = rb) u w6 := (f2.mono (fun b _ z => Or.inr z)).trans' f6 (fun b _ z => Or.inl z)
                  have hrl2 : RdL E w ow (L.appA 3 (k + 1) (rws upc (f.ups.take (k + 1)))) rb gb cap l s (i + 3 + 2 * (k + 1)) b4 w6 := by
                    have hv6 : VMV E w6 ow6 (L.appA 3 (k + 1) (rws upc (f.ups.take (k + 1)))) := by
                      rw [rws_tk1 hx, ← VL.app_add]
                      exact ⟨_, _, op6⟩
                    exact RdL.go x1 f1 t4b q4b ⟨ow6, fun b hb ↦ x6 b (by omega), hv6, hr2.far f6 (fun z ↦ by have z : vmT (ow1 rb) := z; rw [tr1] at z; unfold vmT at z; omega) (fun z ↦ by have z : vmT (ow1 gb) := z; rw [tg1] at z; unfold vmT at z; omega), f26⟩
                  have h4c := f26.blkF h4b (fun z ↦ by
                    rcases z with z | z
                    · have z : vmT (ow1 b4) := z
                      rw [t4b] at z; unfold vmT at z; omega
                    · omega)
                  refine x_blk (x_then (hK12 _ _ ?_))
                  clear hK12 K12
                  refine c_reg ?_ -- region 8 vm.go:188
                  refine wl (ro_move rfl) ?_
                  refine wl (ro_arith rfl rfl rfl (Go.IntWalk.i64_in _ (by omega))) ?_
                  refine wl (ro_assign rfl) ?_
                  refine wl_nil (x_then ?_)
                  exact ⟨_, by omega, k + 1, rfl, by omega, hrl2, h4c, kp _ ⟨rfl, rfl, rfl, rfl, trivial⟩⟩
            · try simp only [decide_eq_true_eq, decide_eq_false_iff_not, Bool.not_eq_true', Bool.not_eq_false', Bool.not_eq_eq_eq_not, Bool.not_true, Bool.not_false, beq_iff_eq, bne_iff_ne, ne_eq, beq_eq_false_iff_ne, bne_eq_false_iff_eq, gt_iff_lt, ge_iff_le, Int.not_lt, Int.not_le] at hc78
              simp at hc78
          · try simp only [decide_eq_true_eq, decide_eq_false_iff_not, Bool.not_eq_true', Bool.not_eq_false', Bool.not_eq_eq_eq_not, Bool.not_true, Bool.not_false, beq_iff_eq, bne_iff_ne, ne_eq, beq_eq_false_iff_ne, bne_eq_false_iff_eq, gt_iff_lt, ge_iff_le, Int.not_lt, Int.not_le] at hg72
            refine wlg_no rfl ?_
            refine wlg_no rfl ?_
            refine wlg_no rfl ?_
            refine wlg_no rfl ?_
            refine wlg_no rfl ?_
            refine wl (ro_pick rfl rfl rfl) ?_
            refine wl_nil (x_then (hK11 _ _ ?_))
            clear hK11 K11
            refine wc_condF rfl ?_
            refine c_exit (x_thenX (x_thenX (x_blkX (x_then (hK8 _ _ ?_)))))
            clear hK10 K10 hK8 K8
            refine forget [(0, _), (1, _), (4, _)] ⟨rfl, rfl, rfl, trivial⟩ (fun e => ?_)
            refine c_seq (fun K16 hK16 => ?_)
            obtain rfl : k = f.ups.length := by omega
            rw [List.take_length] at hrl0 hm1
            have hb3' := hb3.at' (show _ = i + 3 + 2 * f.ups.length by omega)
            refine c_reg ?_ -- region 13 vm.go:196
            refine wl (ro_move rfl) ?_
            refine wl_call rfl en_197 (u16197 hr1 (hb3' 0 _ rfl) (hb3' 1 _ rfl)) ?_
            rintro v2 u2 ⟨rfl, hr2, f2⟩
            rw [by16_val (by omega)]
            have hrl3 : RdL E w ow (L.appA 3 f.ups.length (rws upc f.ups)) rb gb cap l s (i + 3 + 2 * f.ups.length + 2) b4 u2 := RdL.go x1 f1 t4b q4b ⟨ow1, Xt.refl _ _, hm1.hbput f2 tr1, hr2, f2.mono (fun b _ z => .inr z)⟩
            replace h4b := f2.blkO h4b (by omega)
            refine wl (ro_assign rfl) ?_
            refine wl_nil (x_then (hK16 _ _ ?_))
            clear hK16 K16
            refine forget [(0, _), (1, _), (4, _), (8, _)] ⟨rfl, rfl, rfl, rfl, trivial⟩ (fun e => ?_)
            refine c_seq (fun K17 hK17 => ?_)
            refine c_reg ?_ -- region 14 vm.go:197
            refine wl (ro_move rfl) ?_
            refine wl (ro_conv rfl sc_201 in_3 (Go.IntWalk.i64_in _ (by omega))) ?_
            refine wl (ro_fieldAddr (k := 5) rfl fo_258_5) ?_
            refine wl_put rfl rfl rfl sz_3 h4b (by simp) (rfl) (fun w7 h4b F7 => ?_)
            have hrl4 := hrl3.put4 F7 (by omega) (by omega) (by omega)
            refine wl_nil (x_then (hK17 _ _ ?_))
            clear hK17 K17
            refine c_seq (fun K18 hK18 => ?_)
            refine c_seq (fun K19 hK19 => ?_)
            have h4b : Blk w7.heap b4 [i64c f.np, i64c f.ns, i64c (L.A 3).1, i64c f.ups.length, i64c (L.A 4).1, i64c f.ks.length, i64c (L.A 5).1, i64c 0] 258 := h4b
            obtain ⟨L3, hL3⟩ : ∃ L3, L3 = L.appA 3 f.ups.length (rws upc f.ups) := ⟨_, rfl⟩
            rw [← hL3] at hrl4
            obtain ⟨p4, hp4⟩ : ∃ p4, p4 = i + 3 + 2 * f.ups.length + 2 := ⟨_, rfl⟩
            rw [← hp4] at hrl4
            have hb4' := hb4.at' (show _ = p4 by omega)
            have hL34 : L3.A 4 = L.A 4 := by rw [hL3]; exact VL.appA_ne _ (by decide)
            refine c_reg ?_ -- region 15 vm.go:198
            refine wl (ro_assign rfl) ?_
            refine wl_nil (x_then (hK19 _ _ ?_))
            clear hK19 K19
            refine c_block ?_
            -- loop@r16: live slots [0, 1, 4, 9]
            refine c_loopG (fun m a u => ∃ k, m = f.ks.length - k ∧ k ≤ f.ks.length ∧ RdL E w ow (L3.appA 4 k (rws pvc (f.ks.take k))) rb gb cap l s (p4 + ((f.ks.take k).flatMap kby).length) b4 u ∧ Blk u.heap b4 [i64c f.np, i64c f.ns, i64c (L.A 3).1, i64c f.ups.length, i64c (L.A 4).1, i64c f.ks.length, i64c (L.A 5).1, i64c 0] 258 ∧ ∃ e, a = Fr 190 (upds e [(0, ptr E.mb), (1, ptr rb), (4, ptr b4), (9, i64c k)]) []) _ ⟨0, rfl, by omega, by rw [List.take_zero]; show RdL E w ow (L3.appA 4 0 []) _ _ _ _ _ (p4 + 0) _ _; rw [VL.appA_zero]; exact hrl4, h4b, kp _ ⟨rfl, rfl, rfl, rfl, trivial⟩⟩ ?_
            clear hrl4 hrl3 hrl hrl0 h4b hm1 hr1 f1 t4b q4b x1 tr1 tg1 hR1 hr2 f2
            rintro m a u ⟨k, rfl, hkl, hrl, h4b, e, rfl⟩
            obtain ⟨ow1, x1, hm1, hr1, f1, t4b, q4b⟩ := hrl.ex
            have hR1 := hr1.r
            have tr1 : ow1 rb = 66 := by rw [x1 _ hRl]; exact trb
            have tg1 : ow1 gb = 66 := by rw [x1 _ hGl]; exact tgb
            refine c_seq (fun K20 hK20 => ?_)
            refine c_seq (fun K21 hK21 => ?_)
            refine c_reg ?_ -- region 16 vm.go:198
            refine wl (ro_move rfl) ?_
            refine wl (ro_fieldAddr (k := 5) rfl fo_258_5) ?_
            refine wl (ro_loadB rfl sc_3 (h4b) rfl) ?_
            refine wl (ro_cmp rfl rfl rfl) ?_
            refine wl_fork rfl (fun hg121 => ?_) (fun hg121 => ?_)
            · try simp only [decide_eq_true_eq, decide_eq_false_iff_not, Bool.not_eq_true', Bool.not_eq_false', Bool.not_eq_eq_eq_not, Bool.not_true, Bool.not_false, beq_iff_eq, bne_iff_ne, ne_eq, beq_eq_false_iff_ne, bne_eq_false_iff_eq, gt_iff_lt, ge_iff_le, Int.not_lt, Int.not_le] at hg121
              refine wlg_yes rfl (ro_move rfl) ?_
              refine wlg_yes rfl (ro_nilCheck rfl) ?_
              refine wlg_yes rfl (ro_fieldAddr (k := 2) rfl fo_254_2) ?_
              refine wlg_yes rfl (ro_loadB rfl sc_4 (hR1) rfl) ?_
              refine wlg_yes rfl (ro_not rfl) ?_
              refine wl (ro_pick rfl rfl rfl) ?_
              refine wl_nil (x_then (hK21 _ _ ?_))
              clear hK21 K21
              refine wc_cond rfl (fun hc127 => ?_) (fun hc127 => ?_)
              · try simp only [decide_eq_true_eq, decide_eq_false_iff_not, Bool.not_eq_true', Bool.not_eq_false', Bool.not_eq_eq_eq_not, Bool.not_true, Bool.not_false, beq_iff_eq, bne_iff_ne, ne_eq, beq_eq_false_iff_ne, bne_eq_false_iff_eq, gt_iff_lt, ge_iff_le, Int.not_lt, Int.not_le] at hc127
                refine c_skip (x_then (hK20 _ _ ?_))
                clear hK20 K20
                refine forget [(0, _), (1, _), (4, _), (9, _), (122, _), (123, _), (124, _), (125, _), (126, _)] ⟨rfl, rfl, rfl, rfl, rfl, rfl, rfl, rfl, rfl, trivial⟩ (fun e => ?_)
                refine c_seq (fun K22 hK22 => ?_)
                refine c_block ?_
                have hk' : k < f.ks.length := by omega
                obtain ⟨x, hx⟩ : ∃ x, f.ks[k]? = some x := ⟨_, List.getElem?_eq_getElem hk'⟩
                have hbx := hb4'.flatV hx
                have hfl := flat_le kby f.ks (k + 1)
                rw [take_flat hx, List.length_append, kflat_len f.ks] at hfl
                have hn4 : ((L3.appA 4 k (rws pvc (f.ks.take k))).A 4).1 = (L.A 4).1 + k := by rw [VL.appA_self, hL34]
                refine c_reg ?_ -- region 18 vm.go:199
                refine wl (ro_move rfl) ?_
                refine wl (ro_move rfl) ?_
                refine wl_call rfl en_198 (const198 hm1 hr1 tr1 tg1 (hKOK x (List.mem_of_getElem? hx)) hbx (by omega) (by omega)) ?_
                rintro v2 u2 ⟨rfl, hk2⟩
                rw [VL.app_add, ← rws_tk1 hx, Nat.add_assoc, ← List.length_append, ← take_flat hx] at hk2
                have hrl2 := RdL.go x1 f1 t4b q4b hk2
                obtain ⟨ow6, x6, -, -, f26⟩ := hk2.ex
                have h4c := f26.blkF h4b (fun z ↦ by
                  rcases z with z | z
                  · have z : vmT (ow1 b4) := z
                    rw [t4b] at z; unfold vmT at z; omega
                  · omega)
                refine wl_nil (x_blk (x_then (hK22 _ _ ?_)))
                clear hK22 K22
                refine c_reg ?_ -- region 17 vm.go:198
                refine wl (ro_move rfl) ?_
                refine wl (ro_arith rfl rfl rfl (Go.IntWalk.i64_in _ (by omega))) ?_
                refine wl (ro_assign rfl) ?_
                refine wl_nil (x_then ?_)
                exact ⟨_, by omega, k + 1, rfl, by omega, hrl2, h4c, kp _ ⟨rfl, rfl, rfl, rfl, trivial⟩⟩
              · try simp only [decide_eq_true_eq, decide_eq_false_iff_not, Bool.not_eq_true', Bool.not_eq_false', Bool.not_eq_eq_eq_not, Bool.not_true, Bool.not_false, beq_iff_eq, bne_iff_ne, ne_eq, beq_eq_false_iff_ne, bne_eq_false_iff_eq, gt_iff_lt, ge_iff_le, Int.not_lt, Int.not_le] at hc127
                simp at hc127
            · try simp only [decide_eq_true_eq, decide_eq_false_iff_not, Bool.not_eq_true', Bool.not_eq_false', Bool.not_eq_eq_eq_not, Bool.not_true, Bool.not_false, beq_iff_eq, bne_iff_ne, ne_eq, beq_eq_false_iff_ne, bne_eq_false_iff_eq, gt_iff_lt, ge_iff_le, Int.not_lt, Int.not_le] at hg121
              refine wlg_no rfl ?_
              refine wlg_no rfl ?_
              refine wlg_no rfl ?_
              refine wlg_no rfl ?_
              refine wlg_no rfl ?_
              refine wl (ro_pick rfl rfl rfl) ?_
              refine wl_nil (x_then (hK21 _ _ ?_))
              clear hK21 K21
              refine wc_condF rfl ?_
              refine c_exit (x_thenX (x_thenX (x_blkX (x_then (hK18 _ _ ?_)))))
              clear hK20 K20 hK18 K18
              refine forget [(0, _), (1, _), (4, _)] ⟨rfl, rfl, rfl, trivial⟩ (fun e => ?_)
              refine c_seq (fun K23 hK23 => ?_)
              obtain rfl : k = f.ks.length := by omega
              rw [List.take_length] at hm1 hr1
              rw [kflat_len] at hr1
              have hb5' := hb5.at' (show _ = p4 + (f.ks.map kb).sum by omega)
              refine c_reg ?_ -- region 19 vm.go:201
              refine wl (ro_move rfl) ?_
              refine wl_call rfl en_197 (u16197 hr1 (hb5' 0 _ rfl) (hb5' 1 _ rfl)) ?_
              rintro v2 u2 ⟨rfl, hr2, f2⟩
              rw [by16_val (by omega)]
              have hrl3 : RdL E w ow (L3.appA 4 f.ks.length (rws pvc f.ks)) rb gb cap l s (p4 + (f.ks.map kb).sum + 2) b4 u2 := RdL.go x1 f1 t4b q4b ⟨ow1, Xt.refl _ _, hm1.hbput f2 tr1, hr2, f2.mono (fun b _ z => .inr z)⟩
              replace h4b := f2.blkO h4b (by omega)
              refine wl (ro_assign rfl) ?_
              refine wl_nil (x_then (hK23 _ _ ?_))
              clear hK23 K23
              refine forget [(0, _), (1, _), (4, _), (10, _)] ⟨rfl, rfl, rfl, rfl, trivial⟩ (fun e => ?_)
              refine c_seq (fun K24 hK24 => ?_)
              refine c_reg ?_ -- region 20 vm.go:202
              refine wl (ro_move rfl) ?_
              refine wl (ro_conv rfl sc_201 in_3 (Go.IntWalk.i64_in _ (by omega))) ?_
              refine wl (ro_fieldAddr (k := 7) rfl fo_258_7) ?_
              refine wl_put rfl rfl rfl sz_3 h4b (by simp) (rfl) (fun w8 h4b F8 => ?_)
              have hrl4 := hrl3.put4 F8 (by omega) (by omega) (by omega)
              refine wl_nil (x_then (hK24 _ _ ?_))
              clear hK24 K24
              refine c_seq (fun K25 hK25 => ?_)
              refine c_seq (fun K26 hK26 => ?_)
              have h4b : Blk w8.heap b4 (vpc f (L.A 3).1 (L.A 4).1 (L.A 5).1) 258 := h4b
              obtain ⟨L4, hL4⟩ : ∃ L4, L4 = L3.appA 4 f.ks.length (rws pvc f.ks) := ⟨_, rfl⟩
              rw [← hL4] at hrl4
              obtain ⟨p5, hp5⟩ : ∃ p5, p5 = p4 + (f.ks.map kb).sum + 2 := ⟨_, rfl⟩
              rw [← hp5] at hrl4
              have hbc' := hbc.at' (show _ = p5 by omega)
              have hL45 : L4.A 5 = L.A 5 := by rw [hL4, VL.appA_ne _ (by decide), hL3, VL.appA_ne _ (by decide)]
              have hL42 : L4.A 2 = L.A 2 := by rw [hL4, VL.appA_ne _ (by decide), hL3, VL.appA_ne _ (by decide)]
              have hL4n : L4.nt = L.nt ∧ L4.fu = L.fu ∧ L4.en = L.en := by rw [hL4, hL3]; exact ⟨rfl, rfl, rfl⟩
              refine c_reg ?_ -- region 21 vm.go:203
              refine wl (ro_assign rfl) ?_
              refine wl_nil (x_then (hK26 _ _ ?_))
              clear hK26 K26
              refine c_block ?_
              -- loop@r22: live slots [0, 1, 4, 11]
              refine c_loopG (fun m a u => ∃ k, m = f.code.length - k ∧ k ≤ f.code.length ∧ RdL E w ow (L4.appA 5 k (rws inc (f.code.take k))) rb gb cap l s (p5 + 3 * k) b4 u ∧ Blk u.heap b4 (vpc f (L.A 3).1 (L.A 4).1 (L.A 5).1) 258 ∧ ∃ e, a = Fr 190 (upds e [(0, ptr E.mb), (1, ptr rb), (4, ptr b4), (11, i64c k)]) []) _ ⟨0, rfl, by omega, by rw [List.take_zero]; show RdL E w ow (L4.appA 5 0 []) _ _ _ _ _ (p5 + 0) _ _; rw [VL.appA_zero]; exact hrl4, h4b, kp _ ⟨rfl, rfl, rfl, rfl, trivial⟩⟩ ?_
              clear hrl4 hrl3 hrl h4b hm1 hr1 f1 t4b q4b x1 tr1 tg1 hR1 hr2 f2
              rintro m a u ⟨k, rfl, hkl, hrl, h4b, e, rfl⟩
              obtain ⟨ow1, x1, hm1, hr1, f1, t4b, q4b⟩ := hrl.ex
              have hR1 := hr1.r
              have tr1 : ow1 rb = 66 := by rw [x1 _ hRl]; exact trb
              have tg1 : ow1 gb = 66 := by rw [x1 _ hGl]; exact tgb
              unfold vpc at h4b
              refine c_seq (fun K27 hK27 => ?_)
              refine c_seq (fun K28 hK28 => ?_)
              refine c_reg ?_ -- region 22 vm.go:203
              refine wl (ro_move rfl) ?_
              refine wl (ro_fieldAddr (k := 7) rfl fo_258_7) ?_
              refine wl (ro_loadB rfl sc_3 (h4b) rfl) ?_
              refine wl (ro_cmp rfl rfl rfl) ?_
              refine wl_fork rfl (fun hg142 => ?_) (fun hg142 => ?_)
              · try simp only [decide_eq_true_eq, decide_eq_false_iff_not, Bool.not_eq_true', Bool.not_eq_false', Bool.not_eq_eq_eq_not, Bool.not_true, Bool.not_false, beq_iff_eq, bne_iff_ne, ne_eq, beq_eq_false_iff_ne, bne_eq_false_iff_eq, gt_iff_lt, ge_iff_le, Int.not_lt, Int.not_le] at hg142
                refine wlg_yes rfl (ro_move rfl) ?_
                refine wlg_yes rfl (ro_nilCheck rfl) ?_
                refine wlg_yes rfl (ro_fieldAddr (k := 2) rfl fo_254_2) ?_
                refine wlg_yes rfl (ro_loadB rfl sc_4 (hR1) rfl) ?_
                refine wlg_yes rfl (ro_not rfl) ?_
                refine wl (ro_pick rfl rfl rfl) ?_
                refine wl_nil (x_then (hK28 _ _ ?_))
                clear hK28 K28
                refine wc_cond rfl (fun hc148 => ?_) (fun hc148 => ?_)
                · try simp only [decide_eq_true_eq, decide_eq_false_iff_not, Bool.not_eq_true', Bool.not_eq_false', Bool.not_eq_eq_eq_not, Bool.not_true, Bool.not_false, beq_iff_eq, bne_iff_ne, ne_eq, beq_eq_false_iff_ne, bne_eq_false_iff_eq, gt_iff_lt, ge_iff_le, Int.not_lt, Int.not_le] at hc148
                  refine c_skip (x_then (hK27 _ _ ?_))
                  clear hK27 K27
                  refine forget [(0, _), (1, _), (4, _), (11, _), (143, _), (144, _), (145, _), (146, _), (147, _)] ⟨rfl, rfl, rfl, rfl, rfl, rfl, rfl, rfl, rfl, trivial⟩ (fun e => ?_)
                  refine c_seq (fun K29 hK29 => ?_)
                  refine c_block ?_
                  refine c_seq (fun K30 hK30 => ?_)
                  have hk' : k < f.code.length := by omega
                  obtain ⟨x, hx⟩ : ∃ x, f.code[k]? = some x := ⟨_, List.getElem?_eq_getElem hk'⟩
                  have hbx := hbc'.flat (c := 3) (fun _ => rfl) hx
                  have hxu := hOps x (List.mem_of_getElem? hx)
                  refine c_reg ?_ -- region 24 vm.go:204
                  refine wl (ro_move rfl) ?_
                  refine wl_call rfl en_196 (take196 hr1 (n := 3) (by omega) (by omega)) ?_
                  rintro v2 u2 ⟨rfl, hr2, f2⟩
                  obtain ⟨V1, U1, op1⟩ := hm1.hbput f2 tr1
                  have hR2 := hr2.r
                  have hg2 := hr2.g
                  have hM2 := op1.m
                  unfold mbc at hM2
                  have a3 := op1.a 5 (.inl (by decide))
                  have hn3 : ((L4.appA 5 k (rws inc (f.code.take k))).A 5).1 = (L.A 5).1 + k := by rw [VL.appA_self, hL45]
                  obtain ⟨ga, ca, ea⟩ := a3.form
                  rw [ea] at hM2
                  have hM3 : ¬ own1 (V1 5) E.mb := fun y => by have := a3.t _ y; rw [op1.tm] at this; omega
                  have hg3 : ¬ own1 (V1 5) gb := fun y => by have := a3.t _ y; rw [tg1] at this; omega
                  have hxl : (by8 x.2).toNat < 256 := UInt8.toNat_lt _
                  have hyl : (by8 (x.2 / 256)).toNat < 256 := UInt8.toNat_lt _
                  refine wl (ro_assign rfl) ?_
                  refine wl_nil (x_then (hK30 _ _ ?_))
                  clear hK30 K30
                  refine c_seq (fun K31 hK31 => ?_)
                  refine c_seq (fun K32 hK32 => ?_)
                  refine c_reg ?_ -- region 25 vm.go:205
                  refine wl (ro_move rfl) ?_
                  refine wl (ro_nilCheck rfl) ?_
                  refine wl (ro_fieldAddr (k := 2) rfl fo_254_2) ?_
                  refine wl (ro_loadB rfl sc_4 (hR2) rfl) ?_
                  refine wl_nil (x_then (hK32 _ _ ?_))
                  clear hK32 K32
                  refine wc_cond rfl (fun hc156 => ?_) (fun hc156 => ?_)
                  · try simp only [decide_eq_true_eq, decide_eq_false_iff_not, Bool.not_eq_true', Bool.not_eq_false', Bool.not_eq_eq_eq_not, Bool.not_true, Bool.not_false, beq_iff_eq, bne_iff_ne, ne_eq, beq_eq_false_iff_ne, bne_eq_false_iff_eq, gt_iff_lt, ge_iff_le, Int.not_lt, Int.not_le] at hc156
                    cases hc156
                  · try simp only [decide_eq_true_eq, decide_eq_false_iff_not, Bool.not_eq_true', Bool.not_eq_false', Bool.not_eq_eq_eq_not, Bool.not_true, Bool.not_false, beq_iff_eq, bne_iff_ne, ne_eq, beq_eq_false_iff_ne, bne_eq_false_iff_eq, gt_iff_lt, ge_iff_le, Int.not_lt, Int.not_le] at hc156
                    refine c_skip (x_then (hK31 _ _ ?_))
                    clear hK31 K31
                    refine c_piL 23 [(0, false), (1, false), (2, false), (3, false), (4, false), (5, false), (6, false), (7, false), (8, false), (9, false), (10, false), (11, false), (12, false), (13, false), (14, false), (15, false), (16, false), (17, false), (18, false), (19, true), (20, true), (21, false), (22, false)] (fun u => Blk u.heap E.mb [E.np, E.tp, V1 2, V1 3, V1 4, .slice ga ((L4.appA 5 k (rws inc (f.code.take k))).A 5).1 ca, V1 6, V1 7, V1 8, .slice (some ⟨E.tb, 0, none⟩) L4.nt 5, L4.fu, V1 11, L4.en] 89 ∧ FzB u.heap gb l 5) mixed (by kernel_rfl) rfl (by kernel_rfl) (po_blk (po_then (po_then (po_blk (po_then (po_bp)))))) (⟨hM2, hg2⟩) ?_ -- region 26 vm.go:208
                    refine ql_ro rfl (fun w hS => ro_move rfl) ?_
                    refine ql_ro rfl (fun w hS => ro_move rfl) ?_
                    refine ql_ro rfl (fun w hS => ro_nilCheck rfl) ?_
                    refine ql_ro rfl (fun w hS => ro_fieldAddr (k := 5) rfl fo_89_5) ?_
                    refine ql_ro rfl (fun w hS => ro_loadB rfl sc_84 (hS.1) rfl) ?_
                    refine ql_ro rfl (fun w hS => ro_move rfl) ?_
                    refine ql_ro rfl (fun w hS => ro_indexAddr (et := 5) (k := 1) rfl rfl se_70 (rfl) ((by decide))) ?_
                    refine ql_ro rfl (fun w hS => ro_loadZ rfl sc_5 (hS.2) ((show _ = some (u8n x.1) by rw [u8_by8 (by omega)]; exact hr2.at (hbx 0 _ rfl)))) ?_
                    refine ql_ro rfl (fun w hS => ro_move rfl) ?_
                    refine ql_ro rfl (fun w hS => ro_indexAddr (et := 5) (k := 1) rfl rfl se_70 (rfl) ((by decide))) ?_
                    refine ql_ro rfl (fun w hS => ro_loadZ rfl sc_5 (hS.2) ((show _ = some (u8c (by8 x.2)) from hr2.at (hbx 1 _ rfl)))) ?_
                    refine ql_ro rfl (fun w hS => ro_conv rfl sc_5 in_201 (Go.IntWalk.u16_in _ (by omega))) ?_
                    refine ql_ro rfl (fun w hS => ro_move rfl) ?_
                    refine ql_ro rfl (fun w hS => ro_indexAddr (et := 5) (k := 1) rfl rfl se_70 (rfl) ((by decide))) ?_
                    refine ql_ro rfl (fun w hS => ro_loadZ rfl sc_5 (hS.2) ((show _ = some (u8c (by8 (x.2 / 256))) from hr2.at (hbx 2 _ rfl)))) ?_
                    refine ql_ro rfl (fun w hS => ro_conv rfl sc_5 in_201 (Go.IntWalk.u16_in _ (by omega))) ?_
                    refine ql_ro rfl (fun w hS => ro_shl16 rfl rfl) ?_
                    refine ql_ro rfl (fun w hS => ro_or16 rfl rfl hxl hyl) ?_
                    refine ql_ro rfl (fun w hS => ro_build rfl bld_322_0_1) ?_
                    refine ql_bsapp (t := 84) (et := 322) (k := 2) (m := ((L4.appA 5 k (rws inc (f.code.take k))).A 5).1) (cs := inc x) rfl rfl rfl (by rw [by16_val (by omega)]; rfl) (by rw [← ea]; rfl) rfl se_84 zx_322 by_322 rfl rfl rfl (inc_one _) (a3.o.fram (Fram.refl none' _).thenDrew (fun _ _ h => h)) (by omega) (by omega) (fun w1 F ↦ ⟨F.blkN hM2, F.fzN hg2⟩) (fun w1 F ↦ ⟨F.blkF hM2 hM3, F.fzF hg2 hg3⟩) ?_
                    intro v' u6 hon G1 hnb
                    obtain ⟨va, vc, rfl⟩ := hon.form
                    replace hM2 := G1.blkF hM2 hM3
                    skip
                    refine ql_ro rfl (fun w hS => ro_nilCheck rfl) ?_
                    refine ql_ro rfl (fun w hS => ro_fieldAddr (k := 5) rfl fo_89_5) ?_
                    refine ql_put rfl rfl rfl rfl sz_84 hM2 (by simp) (rfl) (fun w9 hM2 F9 => ?_)
                    have hF9 := (F9)
                    obtain ⟨ow6, x6, f6, op6⟩ := op1.growA (i := 5) (.inl (by decide)) hon ((Fram.refl (own1 (V1 5)) _).thenDrew.trans' G1 (fun _ _ h ↦ h)) hnb hF9 hM2
                    have z2 := f2.size
                    have f26 : Fram (fun b => vmT (ow1 b) ∨ b = rb) u w9 := (f2.mono (fun b _ z => Or.inr z)).trans' f6 (fun b _ z => Or.inl z)
                    have hrl2 : RdL E w ow (L4.appA 5 (k + 1) (rws inc (f.code.take (k + 1)))) rb gb cap l s (p5 + 3 * (k + 1)) b4 w9 := by
                      have hv6 : VMV E w9 ow6 (L4.appA 5 (k + 1) (rws inc (f.code.take (k + 1)))) := by
                        rw [rws_tk1 hx, ← VL.app_add]
                        exact ⟨_, _, op6⟩
                      exact RdL.go x1 f1 t4b q4b ⟨ow6, fun b hb ↦ x6 b (by omega), hv6, hr2.far f6 (fun z ↦ by have z : vmT (ow1 rb) := z; rw [tr1] at z; unfold vmT at z; omega) (fun z ↦ by have z : vmT (ow1 gb) := z; rw [tg1] at z; unfold vmT at z; omega), f26⟩
                    have h4c := f26.blkF h4b (fun z ↦ by
                      rcases z with z | z
                      · have z : vmT (ow1 b4) := z
                        rw [t4b] at z; unfold vmT at z; omega
                      · omega)
                    refine x_blk (x_then (hK29 _ _ ?_))
                    clear hK29 K29
                    refine c_reg ?_ -- region 23 vm.go:203
                    refine wl (ro_move rfl) ?_
                    refine wl (ro_arith rfl rfl rfl (Go.IntWalk.i64_in _ (by omega))) ?_
                    refine wl (ro_assign rfl) ?_
                    refine wl_nil (x_then ?_)
                    exact ⟨_, by omega, k + 1, rfl, by omega, hrl2, h4c, kp _ ⟨rfl, rfl, rfl, rfl, trivial⟩⟩
                · try simp only [decide_eq_true_eq, decide_eq_false_iff_not, Bool.not_eq_true', Bool.not_eq_false', Bool.not_eq_eq_eq_not, Bool.not_true, Bool.not_false, beq_iff_eq, bne_iff_ne, ne_eq, beq_eq_false_iff_ne, bne_eq_false_iff_eq, gt_iff_lt, ge_iff_le, Int.not_lt, Int.not_le] at hc148
                  simp at hc148
              · try simp only [decide_eq_true_eq, decide_eq_false_iff_not, Bool.not_eq_true', Bool.not_eq_false', Bool.not_eq_eq_eq_not, Bool.not_true, Bool.not_false, beq_iff_eq, bne_iff_ne, ne_eq, beq_eq_false_iff_ne, bne_eq_false_iff_eq, gt_iff_lt, ge_iff_le, Int.not_lt, Int.not_le] at hg142
                refine wlg_no rfl ?_
                refine wlg_no rfl ?_
                refine wlg_no rfl ?_
                refine wlg_no rfl ?_
                refine wlg_no rfl ?_
                refine wl (ro_pick rfl rfl rfl) ?_
                refine wl_nil (x_then (hK28 _ _ ?_))
                clear hK28 K28
                refine wc_condF rfl ?_
                refine c_exit (x_thenX (x_thenX (x_blkX (x_then (hK25 _ _ ?_)))))
                clear hK27 K27 hK25 K25
                obtain rfl : k = f.code.length := by omega
                rw [List.take_length] at hm1
                obtain ⟨V1, U1, op1⟩ := hm1
                have hM2 := op1.m
                unfold mbc at hM2
                have a3 := op1.a 2 (.inl (by decide))
                have hn3 : ((L4.appA 5 f.code.length (rws inc f.code)).A 2).1 = (L.A 2).1 := by rw [VL.appA_ne _ (by decide), hL42]
                obtain ⟨ga, ca, ea⟩ := a3.form
                rw [ea] at hM2
                have hM3 : ¬ own1 (V1 2) E.mb := fun y => by have := a3.t _ y; rw [op1.tm] at this; omega
                have hg3 : ¬ own1 (V1 2) b4 := fun y => by have := a3.t _ y; rw [t4b] at this; omega
                refine c_piL 10 [(0, false), (1, false), (2, false), (3, false), (4, false), (5, false), (6, true), (7, true), (8, false), (9, false)] (fun u => Blk u.heap E.mb [E.np, E.tp, .slice ga ((L4.appA 5 f.code.length (rws inc f.code)).A 2).1 ca, V1 3, V1 4, V1 5, V1 6, V1 7, V1 8, .slice (some ⟨E.tb, 0, none⟩) L4.nt 5, L4.fu, V1 11, L4.en] 89 ∧ Blk u.heap b4 (vpc f (L.A 3).1 (L.A 4).1 (L.A 5).1) 258) mixed (by kernel_rfl) rfl (by kernel_rfl) (po_bp) (⟨hM2, h4b⟩) ?_ -- region 27 vm.go:210
                refine ql_ro rfl (fun w hS => ro_move rfl) ?_
                refine ql_ro rfl (fun w hS => ro_move rfl) ?_
                refine ql_ro rfl (fun w hS => ro_nilCheck rfl) ?_
                refine ql_ro rfl (fun w hS => ro_fieldAddr (k := 2) rfl fo_89_2) ?_
                refine ql_ro rfl (fun w hS => ro_loadB rfl sc_81 (hS.1) rfl) ?_
                refine ql_ro rfl (fun w hS => ro_loadAggB rfl ag_258 (hS.2) (rfl) (rfl)) ?_
                refine ql_bsapp (t := 81) (et := 258) (k := 8) (m := ((L4.appA 5 f.code.length (rws inc f.code)).A 2).1) (cs := vpc f (L.A 3).1 (L.A 4).1 (L.A 5).1) rfl rfl rfl rfl (by rw [← ea]; rfl) rfl se_81 zx_258 by_258 rfl rfl rfl (by unfold vpc; simp [Value.oneCell', i64c]) (a3.o.fram (Fram.refl none' _).thenDrew (fun _ _ h => h)) (by omega) (by omega) (fun w1 F ↦ ⟨F.blkN hM2, F.blkN h4b⟩) (fun w1 F ↦ ⟨F.blkF hM2 hM3, F.blkF h4b hg3⟩) ?_
                intro v' u6 hon G1 hnb
                obtain ⟨va, vc, rfl⟩ := hon.form
                replace hM2 := G1.blkF hM2 hM3
                skip
                refine ql_ro rfl (fun w hS => ro_nilCheck rfl) ?_
                refine ql_ro rfl (fun w hS => ro_fieldAddr (k := 2) rfl fo_89_2) ?_
                refine ql_put rfl rfl rfl rfl sz_81 hM2 (by simp) (rfl) (fun w10 hM2 F10 => ?_)
                have hF9 := (F10)
                refine ?_
                refine bp_end Tryz.results141 rfl ?_
                refine ⟨rfl, ?_⟩
                obtain ⟨ow6, x6, f6, op6⟩ := op1.growA (i := 2) (.inl (by decide)) hon ((Fram.refl (own1 (V1 2)) _).thenDrew.trans' G1 (fun _ _ h ↦ h)) hnb hF9 hM2
                have e9 : p5 + 3 * f.code.length = i + (fby f).length := by rw [fby_len]; unfold fb; omega
                rw [e9] at hr1
                rw [hL4, hL3] at op6
                exact ⟨ow6, x1.trans f1.size x6, ⟨_, _, op6⟩, hr1.far f6 (fun z ↦ by have z : vmT (ow1 rb) := z; rw [tr1] at z; unfold vmT at z; omega) (fun z ↦ by have z : vmT (ow1 gb) := z; rw [tg1] at z; unfold vmT at z; omega), f1.trans' f6 (fun b hb z ↦ .inl (by have z : vmT (ow1 b) := z; rw [x1 b hb] at z; exact z))⟩
end
end Go.Proofs.Qxb6500568aGreatDoor
