import Derived.Test.Qxb6500569aGreatUd
/- The real reader: read. -/
namespace Go.Proofs.Qxb6500569aGreat
set_option linter.unusedVariables false
set_option linter.unusedSimpArgs false

set_option maxHeartbeats 1600000 in
theorem read90 {rb mb : Nat} {s : List UInt8} (hs : s.length ≤ 100) {w : World} (h : RD w.heap rb mb s 0 []) (query : Bool) :
    RetP Tryz.prog 90 [ptr rb, .bool query] w (ReadPost rb mb s query w) (fun pv w' => readS s query = none ∧ EPan rb mb w pv w') := by
  have hrb := h.blk.lt
  have hmb := h.map.lt
  have hRF : ∀ b, w.heap.size ≤ b → ¬ RF rb mb b := by
    intro b hb hx
    rcases hx with hx | hx <;> omega
  obtain ⟨D, hD⟩ : ∃ D, D = s.length + 1 := ⟨_, rfl⟩
  refine retp_of Tryz.func90 rfl Tryz.ntmps90 rfl ?_
  refine c_seq (fun K1 hK1 => ?_)
  refine c_reg ?_ -- region 0 reader.go:89
  refine wl (ro_assign rfl) ?_
  refine wl_nil (x_then (hK1 _ _ ?_))
  clear hK1 K1
  refine forget [(0, _), (1, _)] ⟨rfl, rfl, trivial⟩ (fun e => ?_)
  refine c_seq (fun K2 hK2 => ?_)
  refine c_reg ?_ -- region 1 reader.go:90
  refine wl (ro_build rfl bld_193_0) ?_
  refine wle (eo_box rfl rfl) ?_
  have hN := Blk.new w [u8c 63, .slice none 0 0] 193
  have h1 := h.none (Fram.alloc none' w (.cells [u8c 63, .slice none 0 0].toArray 193))
  have F01 := Fram.alloc (RF rb mb) w (.cells [u8c 63, .slice none 0 0].toArray 193)
  obtain ⟨rtb, hrt⟩ : ∃ rtb, rtb = w.heap.size := ⟨_, rfl⟩
  refine gen3 (A := fun w3 => RD w3.heap rb mb s 0 []) (B := fun w3 => Blk w3.heap w.heap.size [u8c 63, .slice none 0 0] 193) (D := fun w3 => Fram (RF rb mb) w w3) (C := fun w3 => WL _ _ _ _ _ w3) h1 hN F01 ?_
  rw [← hrt]
  clear h1 hN F01
  intro w1 h1 hN F01
  refine wl (ro_assign rfl) ?_
  refine wl_nil (x_then (hK2 _ _ ?_))
  clear hK2 K2
  refine c_seq (fun K3 hK3 => ?_)
  refine c_seq (fun K4 hK4 => ?_)
  refine c_reg ?_ -- region 2 reader.go:91
  refine wl (ro_move rfl) ?_
  refine wl (ro_not rfl) ?_
  refine wl_nil (x_then (hK4 _ _ ?_))
  clear hK4 K4
  refine wc_cond rfl (fun hc11 => ?_) (fun hc11 => ?_)
  · try simp only [decide_eq_true_eq, decide_eq_false_iff_not, Bool.not_eq_true', Bool.not_eq_false', Bool.not_eq_eq_eq_not, Bool.not_true, Bool.not_false, beq_iff_eq, bne_iff_ne, ne_eq, beq_eq_false_iff_ne, bne_eq_false_iff_eq, gt_iff_lt, ge_iff_le, Int.not_lt, Int.not_le] at hc11
    have hqq : query = false := by simpa using hc11
    subst hqq
    refine c_seq (fun K5 hK5 => ?_)
    refine c_reg ?_ -- region 3 reader.go:92
    refine wl (ro_move rfl) ?_
    refine wl (ro_nilCheck rfl) ?_
    refine wl (ro_fieldAddr (k := 0) rfl fo_193_0) ?_
    refine wls (so_storeB rfl rfl rfl sz_5 (hN) (by simp)) ?_
    have FS : Fram (fun b => b = rtb) w1 (w1.setRow rtb [u8c 58, .slice none 0 0].toArray) := Fram.set w1 rtb _ (.inl rfl)
    have hN2 := hN.set [u8c 58, .slice none 0 0]
    have h2 := h1.fram FS (by omega) (by omega)
    refine gen3 (A := fun w3 => RD w3.heap rb mb s 0 []) (B := fun w3 => Blk w3.heap rtb [u8c 58, .slice none 0 0] 193) (D := fun w3 => Fram (RF rb mb) w w3) (C := fun w3 => WL _ _ _ _ _ w3) h2 hN2 (F01.trans' FS (fun k hk hx => by omega)) ?_
    clear h2 hN2 FS h1 hN F01
    intro w2 h2 hN2 F02
    refine wl_nil (x_then (hK5 _ _ ?_))
    clear hK5 K5
    refine forget [(0, _), (5, _)] ⟨rfl, rfl, trivial⟩ (fun e => ?_)
    refine c_seq (fun K6 hK6 => ?_)
    have hcall := callAll hs 0 w2 [] h2 (by omega) (by simp)
    unfold RPost EPost at hcall
    rw [List.drop_zero] at hcall
    refine c_reg ?_ -- region 4 reader.go:93
    refine wl (ro_move rfl) ?_
    refine wl_callP rfl en_116 (hcall) (fun pv w9 hE => bpp_pan (P := Tryz.prog) (fn := Tryz.f90) (⟨by unfold readS; rw [if_neg (by decide), hE.1]; rfl, hE.2.after F02⟩)) ?_
    rintro hv w3 ⟨r0, i0, q0, hr0, hT0, hic0, hit0, hiv0, h3, hq0, hql0, hpq0, hvq0, hiB0, F3⟩
    obtain ⟨hb0, rfl⟩ : ∃ b, hv = ptr b := by
      rcases hT0 with ⟨c, n, hh, _⟩ | ⟨hh, _⟩ | ⟨cb', c, VA', ks', hh, _⟩
      · injection hh with hh _; exact absurd hh (by decide)
      · injection hh with hh _; exact absurd hh (by decide)
      · injection hh with _ hh; exact ⟨cb', hh⟩
    have hsz3 := F3.size
    have hsz2 := F02.size
    have hn2 := hN2.lt
    have hN3 := hN2.fram F3 (hRF rtb (by omega))
    have F03 := F02.trans F3
    have Z3 : KS w w3 D rtb 58 (.slice none 0 0) [] [rtb] := ⟨⟨hN3, Own.nil _ _ _, by simp, rfl⟩, by intro b hb; simp at hb; omega, by simp⟩
    have hO3 := Z3.cal.own
    refine wl (ro_assign rfl) ?_
    refine wl_nil (x_then (hK6 _ _ ?_))
    clear hK6 K6
    refine forget [(0, _), (5, _), (6, _)] ⟨rfl, rfl, rfl, trivial⟩ (fun e => ?_)
    refine c_seq (fun K7 hK7 => ?_)
    refine c_reg ?_ -- region 5 reader.go:94
    refine wl (ro_move rfl) ?_
    refine wl (ro_move rfl) ?_
    refine wl (ro_nilCheck rfl) ?_
    refine wl (ro_fieldAddr (k := 1) rfl fo_193_1) ?_
    refine wl (ro_loadB rfl sc_190 (hN3) rfl) ?_
    refine wl (ro_move rfl) ?_
    refine wl (ro_mkIface rfl (by kernel_rfl)) ?_
    refine wle (eo_bs1 rfl rfl se_190 zx_195 rfl rfl rfl) ?_
    have hN4 := Blk.new w3 [.iface 155 (ptr hb0)] 195
    have hO4 := hO3.alloc (.cells [.iface 155 (ptr hb0)].toArray 195)
    refine wl_app (news := [.iface 155 (ptr hb0)]) rfl rfl se_190 zx_195 by_195 rfl hO4 hN4 rfl rfl (by simp [Value.oneCell']) (by simp) (by simp) ?_
    intro V4 w4 hown hgr hloc
    obtain ⟨a4, cap4, rfl⟩ := hown.form
    obtain ⟨hB4, Z4, F4⟩ := Z3.push (lo := w2.heap.size) (hT0.mono (by omega)) (by intro b hb; simp at hb; omega) hiB0 (by omega) hown hgr hloc
    refine wl (ro_nilCheck rfl) ?_
    refine wl (ro_fieldAddr (k := 1) rfl fo_193_1) ?_
    refine wls (so_storeB rfl rfl rfl sz_190 (hB4) (by simp)) ?_
    have h5 := h3.fram F4 (by omega) (by omega)
    have F05 := F03.trans' F4 (fun k hk hx => by omega)
    rw [List.nil_append] at Z4
    refine gen3 (A := fun w3 => RD w3.heap rb mb s q0 r0.vs) (B := fun w3 => ∃ VA0 B0, KS w w3 D rtb 58 VA0 [(Value.iface 155 (ptr hb0), i0)] B0) (D := fun w3 => Fram (RF rb mb) w w3) (C := fun w3 => WL _ _ _ _ _ w3) h5 ⟨_, _, Z4⟩ F05 ?_
    clear h5 Z4 F05 F4 hB4 hown hgr hloc hO4 hN4 hO3 Z3 F03 hN3 h3 F3 hcall
    rintro w5 h5 ⟨VA0, B0, Z5⟩ F05
    have hBr5 := h5.blk
    refine wl_nil (x_then (hK7 _ _ ?_))
    clear hK7 K7
    refine c_seq (fun K8 hK8 => ?_)
    refine c_seq (fun K9 hK9 => ?_)
    refine c_pi [(0, false), (1, false), (2, false), (3, false), (4, false), (5, false), (6, false), (7, false), (8, false), (9, false)] (SameH _) mixed (by kernel_rfl) rfl (by kernel_rfl) (po_then (po_then (po_then (po_bpp)))) (sameH_now _ _) ?_ -- region 6 reader.go:95
    refine pi_ro rfl (fun w hS => ro_move rfl) ?_
    refine pi_ro rfl (fun w hS => ro_nilCheck rfl) ?_
    refine pi_ro rfl (fun w hS => ro_fieldAddr (k := 1) rfl fo_152_1) ?_
    refine pi_ro rfl (fun w hS => ro_loadB rfl sc_3 (Blk.of_heap hBr5 hS) rfl) ?_
    refine pi_ro rfl (fun w hS => ro_move rfl) ?_
    refine pi_ro rfl (fun w hS => ro_nilCheck rfl) ?_
    refine pi_ro rfl (fun w hS => ro_fieldAddr (k := 0) rfl fo_152_0) ?_
    refine pi_ro rfl (fun w hS => ro_loadB rfl sc_9 (Blk.of_heap hBr5 hS) rfl) ?_
    refine pi_ro rfl (fun w hS => ro_lenS rfl st_9) ?_
    refine pi_ro rfl (fun w hS => ro_cmp (r := decide (q0 = s.length)) rfl rfl (congrArg some (beqc q0 s.length))) ?_
    refine gen3 (A := fun w3 => RD w3.heap rb mb s q0 r0.vs) (B := fun w3 => KS w w3 D rtb 58 VA0 [(Value.iface 155 (ptr hb0), i0)] B0) (D := fun w3 => Fram (RF rb mb) w w3) (C := fun w3 => WP _ _ _ _ _ _ w3) h5 (Z5.keep (Fram.drew none' w5 (w5.drawn + 1)) (fun _ _ h => h)) (F05.trans (Fram.drew _ w5 (w5.drawn + 1))) ?_
    clear h5 Z5 F05 hBr5
    intro w5 h5 Z5 F05
    have hBr5 := h5.blk
    refine pi_nil (x_then (hK9 _ _ ?_))
    clear hK9 K9
    refine wc_cond rfl (fun hc37 => ?_) (fun hc37 => ?_)
    · try simp only [decide_eq_true_eq, decide_eq_false_iff_not, Bool.not_eq_true', Bool.not_eq_false', Bool.not_eq_eq_eq_not, Bool.not_true, Bool.not_false, beq_iff_eq, bne_iff_ne, ne_eq, beq_eq_false_iff_ne, bne_eq_false_iff_eq, gt_iff_lt, ge_iff_le, Int.not_lt, Int.not_le] at hc37
      have hqe : q0 = s.length := by simpa using hc37
      have hre : r0.rest = [] := by rw [← hq0, hqe, List.drop_length]
      have hrd : readS s false = some (1, i0.code, i0.m) := by unfold readS; rw [if_neg (by decide), hr0, Option.bind_some, if_pos hre, hic0, hiv0]; simp
      have htx : textR false [i0] = s := by simp only [textR, Bool.false_eq_true, if_false, if_true]; rw [hre] at hit0; rw [hit0]
      refine c_seq (fun K10 hK10 => ?_)
      refine c_reg ?_ -- region 7 reader.go:96
      refine wl (ro_move rfl) ?_
      refine wl (ro_build rfl bld_174_0) ?_
      refine wle (eo_box rfl rfl) ?_
      have hN6 := Blk.new w5 [ptr rtb] 174
      have Z6 := Z5.keep (Fram.alloc none' w5 (.cells [ptr rtb].toArray 174)) (fun _ _ h => h)
      have hsz5 := F05.size
      have F06 := F05.trans (Fram.alloc (RF rb mb) w5 (.cells [ptr rtb].toArray 174))
      refine wl (ro_assign rfl) ?_
      refine wl_nil (x_then (hK10 _ _ ?_))
      clear hK10 K10
      refine c_ret (x_thenR (x_thenR ?_))
      refine bpp_ret Tryz.results90 rfl ?_
      refine ⟨w5.heap.size, rtb, VA0, [(Value.iface 155 (ptr hb0), i0)], B0, rfl, hN6, hsz5, hD ▸ Z6, ?_, htx, fun _ => ⟨_, _, _, rfl⟩, by simp, F06⟩
      rw [hrd]
      simp [maxM]
    · try simp only [decide_eq_true_eq, decide_eq_false_iff_not, Bool.not_eq_true', Bool.not_eq_false', Bool.not_eq_eq_eq_not, Bool.not_true, Bool.not_false, beq_iff_eq, bne_iff_ne, ne_eq, beq_eq_false_iff_ne, bne_eq_false_iff_eq, gt_iff_lt, ge_iff_le, Int.not_lt, Int.not_le] at hc37
      have hqe : q0 ≠ s.length := by simpa using hc37
      have hre : r0.rest ≠ [] := by rw [← hq0]; intro hx; have := congrArg List.length hx; simp at this; omega
      have hrs : readS s false = if pk r0.rest = 58 ∧ pk r0.rest.tail = 45 then (PG r0.rest.tail.tail r0.vs).bind (fun r => if r.rest = [] then some (r.n + 1, r0.code ++ r.code, r.vs.length) else none) else none := by unfold readS; rw [if_neg (by decide), hr0, Option.bind_some, if_neg hre]
      refine c_skip (x_then (hK8 _ _ ?_))
      clear hK8 K8
      refine forget [(0, _), (5, _)] ⟨rfl, rfl, trivial⟩ (fun e => ?_)
      refine c_seq (fun K11 hK11 => ?_)
      refine c_reg ?_ -- region 8 reader.go:98
      refine wl (ro_move rfl) ?_
      refine wl_callP rfl en_117 (expect117 h5 (by omega) (by omega) 58 _) (fun pv w9 hE => bpp_pan (P := Tryz.prog) (fn := Tryz.f90) (⟨by rw [hrs, if_neg (by rw [← hq0]; exact fun hx ↦ hE.1 hx.1)], hE.2.after F05⟩)) ?_
      rintro _ w6 ⟨h58, h6, F6⟩
      have Z6 := Z5.keep F6 hRF
      have F06 := F05.trans F6
      obtain ⟨hq1, hd1⟩ := pk_drop h58 (by decide)
      refine wl_nil (x_then (hK11 _ _ ?_))
      clear hK11 K11
      refine c_reg ?_ -- region 9 reader.go:99
      refine wl (ro_move rfl) ?_
      refine wl_callP rfl en_117 (expect117 h6 (by omega) (by omega) 45 _) (fun pv w9 hE => bpp_pan (P := Tryz.prog) (fn := Tryz.f90) (⟨by rw [hrs, if_neg (by rw [← hq0, drop1]; exact fun hx ↦ hE.1 hx.2)], hE.2.after F06⟩)) ?_
      rintro _ w7 ⟨h45, h7, F7⟩
      have Z7 := Z6.keep F7 hRF
      have F07 := F06.trans F7
      obtain ⟨hq2, hd2⟩ := pk_drop h45 (by decide)
      rw [← hq0, drop1, drop1, if_pos ⟨h58, h45⟩] at hrs
      obtain ⟨ks0, hks0⟩ : ∃ ks0, ks0 = [((Value.iface 155 (ptr hb0), i0) : Value × TI)] := ⟨_, rfl⟩
      obtain ⟨p0, hp0⟩ : ∃ p0, p0 = q0 + 1 + 1 := ⟨_, rfl⟩
      obtain ⟨vs0, hvs0⟩ : ∃ vs0, vs0 = r0.vs := ⟨_, rfl⟩
      have hnone : PG (s.drop p0) vs0 = none → readS s false = none := by intro hx; rw [hrs, ← hp0, ← hvs0, hx]; rfl
      have hend : ∀ r, PG (s.drop p0) vs0 = some r → readS s false = if r.rest = [] then some (ks0.length + r.n, ks0.flatMap (·.2.code) ++ r.code, r.vs.length) else none := by
        intro r hx
        rw [hrs, ← hp0, ← hvs0, hx, Option.bind_some, hks0]
        simp [hic0, Nat.add_comm]
      have htext : ∀ gs : List TI, gs ≠ [] → s.drop p0 = joinT gs → textR false (ks0.map (·.2) ++ gs) = s := by
        intro gs hg hj
        rw [hks0]
        simp only [textR, Bool.false_eq_true, if_false, List.map_cons, List.map_nil, List.singleton_append]
        rw [if_neg hg, ← hj, hp0]
        rw [← hq0, hd1, hd2] at hit0
        exact hit0.symm
      have hv0 : vs0.length = maxM (ks0.map (·.2)) := by rw [hks0, hvs0, hiv0]; simp [maxM]
      have hk0 : (false = false) → ∃ cb i ks', ks0 = ((Value.iface 155 (ptr cb), i) : Value × TI) :: ks' := by intro _; exact ⟨_, _, _, hks0⟩
      have hp0l : p0 ≤ s.length := by omega
      have hvp0 : vs0.length ≤ p0 := by rw [hvs0]; omega
      rw [← hks0] at Z7
      rw [← hp0, ← hvs0] at h7
      have hkl0 : ks0.length ≤ 1 := by rw [hks0]; simp
      refine wl_nil (x_then (hK3 _ _ ?_))
      clear hK3 K3
      refine forget [(0, _), (5, _)] ⟨rfl, rfl, trivial⟩ (fun e => ?_)
      refine c_seq (fun K12 hK12 => ?_)
      refine c_block ?_
      -- loop@r10: live slots [0, 5]
      refine c_loopG (fun m a' w' => ∃ (gs : List (Value × TI)) (p1 : Nat) (vs1 : List UInt8) (VA : Value) (B : List Nat), m = s.length - p1 ∧ p0 ≤ p1 ∧ p1 ≤ s.length ∧ PG (s.drop p0) vs0 = (PG (s.drop p1) vs1).map (fun q => ⟨gs.flatMap (·.2.code) ++ q.code, gs.length + q.n, q.rest, q.vs⟩) ∧ s.drop p0 = preT (gs.map (·.2)) ++ s.drop p1 ∧ vs1.length = maxM ((ks0 ++ gs).map (·.2)) ∧ vs1.length ≤ p1 ∧ gs.length ≤ p1 ∧ KS w w' D rtb 58 VA (ks0 ++ gs) B ∧ RD w'.heap rb mb s p1 vs1 ∧ Fram (RF rb mb) w w' ∧ ∃ e, a' = Fr 82 (upds e [(0, ptr rb), (5, ptr rtb)]) []) (s.length - p0) ⟨[], p0, vs0, VA0, B0, rfl, by omega, by omega, ?_, by simp [preT], by rw [List.append_nil]; exact hv0, hvp0, by simp, by rw [List.append_nil]; exact Z7, h7, F07, kp _ ⟨rfl, rfl, trivial⟩⟩ ?_
      · show _ = (PG (s.drop p0) vs0).map _
        cases PG (s.drop p0) vs0 <;> simp
      clear h7 Z7 F07
      obtain ⟨FF, hFF⟩ : ∃ FF : UInt8, FF = 58 := ⟨_, rfl⟩
      rintro m a' w8 ⟨gs, p1, vs1, VA, B, rfl, hp1, hp1l, hPG, htx, hv1, hv1l, hgl, Z8, h8, F08, e, rfl⟩
      rw [← hFF] at Z8
      refine c_block ?_
      refine c_seq (fun K13 hK13 => ?_)
      refine c_reg ?_ -- region 10 reader.go:102
      refine wl (ro_move rfl) ?_
      refine wl_callP rfl en_118 (goal118 hs h8 hp1l hv1l) (fun pv w9 hE => bpp_pan (P := Tryz.prog) (fn := Tryz.f90) (⟨hnone (by rw [hPG, PG_eq, hE.1]; rfl), hE.2.after F08⟩)) ?_
      rintro tv w9 ⟨r, i, q, hr, hT, hic, hit, hiv, h9, hq, hql, hpq, hvq, hiB, F9⟩
      have Z9 := Z8.keep F9 hRF
      have F09 := F08.trans F9
      have hT9 : TAt D w9.heap tv i := hT.mono (by omega)
      have hB9 := Z9.cal.blk
      have hO9 := Z9.cal.own
      obtain ⟨aV, cV, rfl⟩ := hO9.form
      have hsz8 := F08.size
      refine wl (ro_assign rfl) ?_
      refine wl_nil (x_then (hK13 _ _ ?_))
      clear hK13 K13
      refine forget [(0, _), (5, _), (7, _)] ⟨rfl, rfl, rfl, trivial⟩ (fun e => ?_)
      refine c_seq (fun K14 hK14 => ?_)
      refine c_reg ?_ -- region 11 reader.go:103
      refine wl (ro_move rfl) ?_
      refine wl (ro_move rfl) ?_
      refine wl (ro_nilCheck rfl) ?_
      refine wl (ro_fieldAddr (k := 1) rfl fo_193_1) ?_
      refine wl (ro_loadB rfl sc_190 (hB9) rfl) ?_
      refine wl (ro_move rfl) ?_
      refine wle (eo_bs1 (cs := [tv]) rfl hT9.cells.1 se_190 zx_195 rfl rfl rfl) ?_
      have hN10 := Blk.new w9 [tv] 195
      have hO10 := hO9.alloc (.cells [tv].toArray 195)
      refine wl_app (news := [tv]) rfl rfl se_190 zx_195 by_195 rfl hO10 hN10 rfl rfl (by simpa using hT9.cells.2) (by simp; omega) (by simp; omega) ?_
      intro V10 w10 hown hgr hloc
      obtain ⟨a10, cap10, rfl⟩ := hown.form
      obtain ⟨hB10, Z10, F10⟩ := Z9.push (lo := w8.heap.size) hT9 Z8.lt hiB hsz8 hown hgr hloc
      refine wl (ro_nilCheck rfl) ?_
      refine wl (ro_fieldAddr (k := 1) rfl fo_193_1) ?_
      refine wls (so_storeB rfl rfl rfl sz_190 (hB10) (by simp)) ?_
      have h11 := h9.fram F10 (by omega) (by omega)
      have F011 := F09.trans' F10 (fun k hk hx => by omega)
      refine gen3 (A := fun w3 => RD w3.heap rb mb s q r.vs) (B := fun w3 => ∃ VX BX, KS w w3 D rtb FF VX (ks0 ++ gs ++ [(tv, i)]) BX) (D := fun w3 => Fram (RF rb mb) w w3) (C := fun w3 => WL _ _ _ _ _ w3) h11 ⟨_, _, Z10⟩ F011 ?_
      clear h11 Z10 F011 F10 hB10 hown hgr hloc hO10 hN10 hO9 hB9 hT9 hT Z9 F09 h9 F9 Z8 h8 F08
      rintro w11 h11 ⟨VX, BX, Z11⟩ F011
      rw [List.append_assoc] at Z11
      rw [PG_eq (s.drop p1) vs1, hr, Option.bind_some] at hPG
      refine wl_nil (x_then (hK14 _ _ ?_))
      clear hK14 K14
      refine c_seq (fun K15 hK15 => ?_)
      refine c_seq (fun K16 hK16 => ?_)
      refine c_reg ?_ -- region 12 reader.go:104
      refine wl (ro_move rfl) ?_
      refine wl_call rfl en_119 (peek119 h11 (by omega) (by omega)) ?_
      rintro _ w12 ⟨rfl, F12⟩
      have h12 := h11.none F12
      have Z12 := Z11.keep F12 (fun _ _ h => h)
      have F012 := F011.trans' F12 (fun _ _ h => h.elim)
      have hB12 := h12.blk
      have htx2 : s.drop p0 = joinT ((gs ++ [(tv, i)]).map (·.2)) ++ s.drop q := by
        rw [List.map_append, List.map_singleton, joinT_snoc, htx, hit, hq, List.append_assoc]
      have hv2 : r.vs.length = maxM ((ks0 ++ (gs ++ [(tv, i)])).map (·.2)) := by
        rw [← List.append_assoc, List.map_append, List.map_singleton, maxM_snoc, hiv, hv1]
      refine wl (ro_cmp (r := !decide (pk (s.drop q) = 44)) rfl rfl (congrArg some (congrArg not (beqb _ 44)))) ?_
      refine wl_nil (x_then (hK16 _ _ ?_))
      clear hK16 K16
      refine wc_cond rfl (fun hc59 => ?_) (fun hc59 => ?_)
      · try simp only [decide_eq_true_eq, decide_eq_false_iff_not, Bool.not_eq_true', Bool.not_eq_false', Bool.not_eq_eq_eq_not, Bool.not_true, Bool.not_false, beq_iff_eq, bne_iff_ne, ne_eq, beq_eq_false_iff_ne, bne_eq_false_iff_eq, gt_iff_lt, ge_iff_le, Int.not_lt, Int.not_le] at hc59
        have h44 : pk (s.drop q) ≠ 44 := by simpa using hc59
        rw [← hq, if_neg h44] at hPG
        simp only [Option.map_some] at hPG
        have hrd := hend _ hPG
        simp only at hrd
        refine c_exit (x_thenX (x_blkY rfl (x_thenX (x_blkX (x_then (hK12 _ _ ?_))))))
        clear hK15 K15 hK12 K12
        refine c_seq (fun K17 hK17 => ?_)
        refine c_seq (fun K18 hK18 => ?_)
        refine c_pi [(0, false), (1, false), (2, false), (3, false), (4, false), (5, false), (6, false), (7, false), (8, false), (9, false)] (SameH _) mixed (by kernel_rfl) rfl (by kernel_rfl) (po_then (po_then (po_bpp))) (sameH_now _ _) ?_ -- region 14 reader.go:109
        refine pi_ro rfl (fun w hS => ro_move rfl) ?_
        refine pi_ro rfl (fun w hS => ro_nilCheck rfl) ?_
        refine pi_ro rfl (fun w hS => ro_fieldAddr (k := 1) rfl fo_152_1) ?_
        refine pi_ro rfl (fun w hS => ro_loadB rfl sc_3 (Blk.of_heap hB12 hS) rfl) ?_
        refine pi_ro rfl (fun w hS => ro_move rfl) ?_
        refine pi_ro rfl (fun w hS => ro_nilCheck rfl) ?_
        refine pi_ro rfl (fun w hS => ro_fieldAddr (k := 0) rfl fo_152_0) ?_
        refine pi_ro rfl (fun w hS => ro_loadB rfl sc_9 (Blk.of_heap hB12 hS) rfl) ?_
        refine pi_ro rfl (fun w hS => ro_lenS rfl st_9) ?_
        refine pi_ro rfl (fun w hS => ro_cmp (r := !decide (q = s.length)) rfl rfl (congrArg some (congrArg not (beqc q s.length)))) ?_
        refine gen3 (A := fun w3 => RD w3.heap rb mb s q r.vs) (B := fun w3 => KS w w3 D rtb FF VX (ks0 ++ (gs ++ [(tv, i)])) BX) (D := fun w3 => Fram (RF rb mb) w w3) (C := fun w3 => WP _ _ _ _ _ _ w3) h12 (Z12.keep (Fram.drew none' w12 (w12.drawn + 1)) (fun _ _ h => h)) (F012.trans (Fram.drew _ w12 (w12.drawn + 1))) ?_
        clear h12 Z12 F012 hB12
        intro w12 h12 Z12 F012
        refine pi_nil (x_then (hK18 _ _ ?_))
        clear hK18 K18
        refine wc_cond rfl (fun hc76 => ?_) (fun hc76 => ?_)
        · try simp only [decide_eq_true_eq, decide_eq_false_iff_not, Bool.not_eq_true', Bool.not_eq_false', Bool.not_eq_eq_eq_not, Bool.not_true, Bool.not_false, beq_iff_eq, bne_iff_ne, ne_eq, beq_eq_false_iff_ne, bne_eq_false_iff_eq, gt_iff_lt, ge_iff_le, Int.not_lt, Int.not_le] at hc76
          have hqe : q ≠ s.length := by simpa using hc76
          have hre : s.drop q ≠ [] := by intro hx; have := congrArg List.length hx; simp at this; omega
          refine c_reg ?_ -- region 15 reader.go:110
          refine wl (ro_move rfl) ?_
          refine wl_callP rfl en_120 (fail120 h12 _) (fun pv w9 hE => bpp_pan (P := Tryz.prog) (fn := Tryz.f90) (⟨by rw [hrd, if_neg hre], hE.after F012⟩)) ?_
          rintro _ _ ⟨⟩
        · try simp only [decide_eq_true_eq, decide_eq_false_iff_not, Bool.not_eq_true', Bool.not_eq_false', Bool.not_eq_eq_eq_not, Bool.not_true, Bool.not_false, beq_iff_eq, bne_iff_ne, ne_eq, beq_eq_false_iff_ne, bne_eq_false_iff_eq, gt_iff_lt, ge_iff_le, Int.not_lt, Int.not_le] at hc76
          have hqe : q = s.length := by simpa using hc76
          have hre : s.drop q = [] := by rw [hqe, List.drop_length]
          rw [if_pos hre] at hrd
          refine c_skip (x_then (hK17 _ _ ?_))
          clear hK17 K17
          refine forget [(5, _)] ⟨rfl, trivial⟩ (fun e => ?_)
          refine c_seq (fun K19 hK19 => ?_)
          refine c_reg ?_ -- region 16 reader.go:112
          refine wl (ro_move rfl) ?_
          refine wl (ro_build rfl bld_174_0) ?_
          refine wle (eo_box rfl rfl) ?_
          have hN13 := Blk.new w12 [ptr rtb] 174
          have Z13 := Z12.keep (Fram.alloc none' w12 (.cells [ptr rtb].toArray 174)) (fun _ _ h => h)
          have hsz12 := F012.size
          have F013 := F012.trans (Fram.alloc (RF rb mb) w12 (.cells [ptr rtb].toArray 174))
          refine wl (ro_assign rfl) ?_
          refine wl_nil (x_then (hK19 _ _ ?_))
          clear hK19 K19
          refine c_ret ?_
          refine bpp_ret Tryz.results90 rfl ?_
          refine ⟨w12.heap.size, rtb, VX, ks0 ++ (gs ++ [(tv, i)]), BX, rfl, hN13, hsz12, by rw [← hD]; subst hFF; exact Z13, ?_, ?_, fun hx => by (obtain ⟨cb, i', ks', hh⟩ := hk0 hx); exact ⟨cb, i', ks' ++ (gs ++ [(tv, i)]), by rw [hh]; rfl⟩, by simp; omega, F013⟩
          · rw [hrd, hv2, ← hic]
            simp
          · rw [List.map_append]
            exact htext _ (by simp) (by rw [htx2, hre, List.append_nil])
      · try simp only [decide_eq_true_eq, decide_eq_false_iff_not, Bool.not_eq_true', Bool.not_eq_false', Bool.not_eq_eq_eq_not, Bool.not_true, Bool.not_false, beq_iff_eq, bne_iff_ne, ne_eq, beq_eq_false_iff_ne, bne_eq_false_iff_eq, gt_iff_lt, ge_iff_le, Int.not_lt, Int.not_le] at hc59
        have h44 : pk (s.drop q) = 44 := by simpa using hc59
        rw [← hq, if_pos h44, drop1] at hPG
        obtain ⟨hqq, hdq⟩ := pk_drop h44 (by decide)
        refine c_skip (x_then (hK15 _ _ ?_))
        clear hK15 K15
        refine c_reg ?_ -- region 13 reader.go:107
        refine wl (ro_move rfl) ?_
        refine wl (ro_nilCheck rfl) ?_
        refine wl (ro_fieldAddr (k := 1) rfl fo_152_1) ?_
        refine wl (ro_loadB rfl sc_3 (by assumption) rfl) ?_
        refine wl (ro_arith rfl rfl rfl (Go.IntWalk.i64_in _ (by omega))) ?_
        refine wl (ro_nilCheck rfl) ?_
        refine wl (ro_fieldAddr (k := 1) rfl fo_152_1) ?_
        refine wls (so_storeB rfl rfl rfl sz_3 (hB12) (by simp)) ?_
        obtain ⟨h13, F13⟩ := h12.move (q + 1)
        have Z13 := Z12.keep F13 hRF
        refine wl_nil (x_blk (x_then ?_))
        refine ⟨s.length - (q + 1), by omega, gs ++ [(tv, i)], q + 1, r.vs, VX, BX, rfl, by omega, by omega, ?_, ?_, hv2, by omega, by simp; omega, hFF ▸ Z13, h13, F012.trans F13, kp _ ⟨rfl, rfl, trivial⟩⟩
        · rw [hPG]
          cases PG (s.drop (q + 1)) r.vs with
          | none => rfl
          | some z => simp [hic]; omega
        · rw [htx2, hdq]
          simp [preT]
  · try simp only [decide_eq_true_eq, decide_eq_false_iff_not, Bool.not_eq_true', Bool.not_eq_false', Bool.not_eq_eq_eq_not, Bool.not_true, Bool.not_false, beq_iff_eq, bne_iff_ne, ne_eq, beq_eq_false_iff_ne, bne_eq_false_iff_eq, gt_iff_lt, ge_iff_le, Int.not_lt, Int.not_le] at hc11
    have hqq : query = true := by simpa using hc11
    subst hqq
    have h7 := h1
    have F07 := F01
    obtain ⟨VA0, hVA0⟩ : ∃ V, V = Value.slice none 0 0 := ⟨_, rfl⟩
    obtain ⟨ks0, hks0⟩ : ∃ ks0 : List (Value × TI), ks0 = [] := ⟨_, rfl⟩
    obtain ⟨p0, hp0⟩ : ∃ p0, p0 = 0 := ⟨_, rfl⟩
    obtain ⟨vs0, hvs0⟩ : ∃ vs0 : List UInt8, vs0 = [] := ⟨_, rfl⟩
    obtain ⟨B0, hB0⟩ : ∃ B, B = [rtb] := ⟨_, rfl⟩
    have Z7 : KS w w1 D rtb 63 VA0 ks0 B0 := by
      rw [hVA0, hks0, hB0]
      exact ⟨⟨hN, Own.nil _ _ _, by simp, rfl⟩, by intro b hb; simp at hb; omega, by simp⟩
    have hnone : PG (s.drop p0) vs0 = none → readS s true = none := by intro hx; rw [hp0, hvs0, List.drop_zero] at hx; unfold readS; rw [if_pos rfl, hx]; rfl
    have hend : ∀ r, PG (s.drop p0) vs0 = some r → readS s true = if r.rest = [] then some (ks0.length + r.n, ks0.flatMap (·.2.code) ++ r.code, r.vs.length) else none := by
      intro r hx
      rw [hp0, hvs0, List.drop_zero] at hx
      unfold readS
      rw [if_pos rfl, hx, Option.bind_some, hks0]
      simp
    have htext : ∀ gs : List TI, gs ≠ [] → s.drop p0 = joinT gs → textR true (ks0.map (·.2) ++ gs) = s := by
      intro gs hg hj
      rw [hks0]
      simp only [textR, if_true, List.map_nil, List.nil_append]
      rw [← hj, hp0, List.drop_zero]
    have hv0 : vs0.length = maxM (ks0.map (·.2)) := by rw [hks0, hvs0]; simp [maxM]
    have hk0 : (true = false) → ∃ cb i ks', ks0 = ((Value.iface 155 (ptr cb), i) : Value × TI) :: ks' := by intro hx; cases hx
    have hp0l : p0 ≤ s.length := by omega
    have hvp0 : vs0.length ≤ p0 := by rw [hvs0]; simp
    rw [← hp0, ← hvs0] at h7
    have hkl0 : ks0.length ≤ 1 := by rw [hks0]; simp
    refine c_skip (x_then (hK3 _ _ ?_))
    clear hK3 K3
    refine forget [(0, _), (5, _)] ⟨rfl, rfl, trivial⟩ (fun e => ?_)
    refine c_seq (fun K20 hK20 => ?_)
    refine c_block ?_
    -- loop@r10: live slots [0, 5]
    refine c_loopG (fun m a' w' => ∃ (gs : List (Value × TI)) (p1 : Nat) (vs1 : List UInt8) (VA : Value) (B : List Nat), m = s.length - p1 ∧ p0 ≤ p1 ∧ p1 ≤ s.length ∧ PG (s.drop p0) vs0 = (PG (s.drop p1) vs1).map (fun q => ⟨gs.flatMap (·.2.code) ++ q.code, gs.length + q.n, q.rest, q.vs⟩) ∧ s.drop p0 = preT (gs.map (·.2)) ++ s.drop p1 ∧ vs1.length = maxM ((ks0 ++ gs).map (·.2)) ∧ vs1.length ≤ p1 ∧ gs.length ≤ p1 ∧ KS w w' D rtb 63 VA (ks0 ++ gs) B ∧ RD w'.heap rb mb s p1 vs1 ∧ Fram (RF rb mb) w w' ∧ ∃ e, a' = Fr 82 (upds e [(0, ptr rb), (5, ptr rtb)]) []) (s.length - p0) ⟨[], p0, vs0, VA0, B0, rfl, by omega, by omega, ?_, by simp [preT], by rw [List.append_nil]; exact hv0, hvp0, by simp, by rw [List.append_nil]; exact Z7, h7, F07, kp _ ⟨rfl, rfl, trivial⟩⟩ ?_
    · show _ = (PG (s.drop p0) vs0).map _
      cases PG (s.drop p0) vs0 <;> simp
    clear h7 Z7 F07
    obtain ⟨FF, hFF⟩ : ∃ FF : UInt8, FF = 63 := ⟨_, rfl⟩
    rintro m a' w8 ⟨gs, p1, vs1, VA, B, rfl, hp1, hp1l, hPG, htx, hv1, hv1l, hgl, Z8, h8, F08, e, rfl⟩
    rw [← hFF] at Z8
    refine c_block ?_
    refine c_seq (fun K21 hK21 => ?_)
    refine c_reg ?_ -- region 10 reader.go:102
    refine wl (ro_move rfl) ?_
    refine wl_callP rfl en_118 (goal118 hs h8 hp1l hv1l) (fun pv w9 hE => bpp_pan (P := Tryz.prog) (fn := Tryz.f90) (⟨hnone (by rw [hPG, PG_eq, hE.1]; rfl), hE.2.after F08⟩)) ?_
    rintro tv w9 ⟨r, i, q, hr, hT, hic, hit, hiv, h9, hq, hql, hpq, hvq, hiB, F9⟩
    have Z9 := Z8.keep F9 hRF
    have F09 := F08.trans F9
    have hT9 : TAt D w9.heap tv i := hT.mono (by omega)
    have hB9 := Z9.cal.blk
    have hO9 := Z9.cal.own
    obtain ⟨aV, cV, rfl⟩ := hO9.form
    have hsz8 := F08.size
    refine wl (ro_assign rfl) ?_
    refine wl_nil (x_then (hK21 _ _ ?_))
    clear hK21 K21
    refine forget [(0, _), (5, _), (7, _)] ⟨rfl, rfl, rfl, trivial⟩ (fun e => ?_)
    refine c_seq (fun K22 hK22 => ?_)
    refine c_reg ?_ -- region 11 reader.go:103
    refine wl (ro_move rfl) ?_
    refine wl (ro_move rfl) ?_
    refine wl (ro_nilCheck rfl) ?_
    refine wl (ro_fieldAddr (k := 1) rfl fo_193_1) ?_
    refine wl (ro_loadB rfl sc_190 (hB9) rfl) ?_
    refine wl (ro_move rfl) ?_
    refine wle (eo_bs1 (cs := [tv]) rfl hT9.cells.1 se_190 zx_195 rfl rfl rfl) ?_
    have hN10 := Blk.new w9 [tv] 195
    have hO10 := hO9.alloc (.cells [tv].toArray 195)
    refine wl_app (news := [tv]) rfl rfl se_190 zx_195 by_195 rfl hO10 hN10 rfl rfl (by simpa using hT9.cells.2) (by simp; omega) (by simp; omega) ?_
    intro V10 w10 hown hgr hloc
    obtain ⟨a10, cap10, rfl⟩ := hown.form
    obtain ⟨hB10, Z10, F10⟩ := Z9.push (lo := w8.heap.size) hT9 Z8.lt hiB hsz8 hown hgr hloc
    refine wl (ro_nilCheck rfl) ?_
    refine wl (ro_fieldAddr (k := 1) rfl fo_193_1) ?_
    refine wls (so_storeB rfl rfl rfl sz_190 (hB10) (by simp)) ?_
    have h11 := h9.fram F10 (by omega) (by omega)
    have F011 := F09.trans' F10 (fun k hk hx => by omega)
    refine gen3 (A := fun w3 => RD w3.heap rb mb s q r.vs) (B := fun w3 => ∃ VX BX, KS w w3 D rtb FF VX (ks0 ++ gs ++ [(tv, i)]) BX) (D := fun w3 => Fram (RF rb mb) w w3) (C := fun w3 => WL _ _ _ _ _ w3) h11 ⟨_, _, Z10⟩ F011 ?_
    clear h11 Z10 F011 F10 hB10 hown hgr hloc hO10 hN10 hO9 hB9 hT9 hT Z9 F09 h9 F9 Z8 h8 F08
    rintro w11 h11 ⟨VX, BX, Z11⟩ F011
    rw [List.append_assoc] at Z11
    rw [PG_eq (s.drop p1) vs1, hr, Option.bind_some] at hPG
    refine wl_nil (x_then (hK22 _ _ ?_))
    clear hK22 K22
    refine c_seq (fun K23 hK23 => ?_)
    refine c_seq (fun K24 hK24 => ?_)
    refine c_reg ?_ -- region 12 reader.go:104
    refine wl (ro_move rfl) ?_
    refine wl_call rfl en_119 (peek119 h11 (by omega) (by omega)) ?_
    rintro _ w12 ⟨rfl, F12⟩
    have h12 := h11.none F12
    have Z12 := Z11.keep F12 (fun _ _ h => h)
    have F012 := F011.trans' F12 (fun _ _ h => h.elim)
    have hB12 := h12.blk
    have htx2 : s.drop p0 = joinT ((gs ++ [(tv, i)]).map (·.2)) ++ s.drop q := by
      rw [List.map_append, List.map_singleton, joinT_snoc, htx, hit, hq, List.append_assoc]
    have hv2 : r.vs.length = maxM ((ks0 ++ (gs ++ [(tv, i)])).map (·.2)) := by
      rw [← List.append_assoc, List.map_append, List.map_singleton, maxM_snoc, hiv, hv1]
    refine wl (ro_cmp (r := !decide (pk (s.drop q) = 44)) rfl rfl (congrArg some (congrArg not (beqb _ 44)))) ?_
    refine wl_nil (x_then (hK24 _ _ ?_))
    clear hK24 K24
    refine wc_cond rfl (fun hc59 => ?_) (fun hc59 => ?_)
    · try simp only [decide_eq_true_eq, decide_eq_false_iff_not, Bool.not_eq_true', Bool.not_eq_false', Bool.not_eq_eq_eq_not, Bool.not_true, Bool.not_false, beq_iff_eq, bne_iff_ne, ne_eq, beq_eq_false_iff_ne, bne_eq_false_iff_eq, gt_iff_lt, ge_iff_le, Int.not_lt, Int.not_le] at hc59
      have h44 : pk (s.drop q) ≠ 44 := by simpa using hc59
      rw [← hq, if_neg h44] at hPG
      simp only [Option.map_some] at hPG
      have hrd := hend _ hPG
      simp only at hrd
      refine c_exit (x_thenX (x_blkY rfl (x_thenX (x_blkX (x_then (hK20 _ _ ?_))))))
      clear hK23 K23 hK20 K20
      refine c_seq (fun K25 hK25 => ?_)
      refine c_seq (fun K26 hK26 => ?_)
      refine c_pi [(0, false), (1, false), (2, false), (3, false), (4, false), (5, false), (6, false), (7, false), (8, false), (9, false)] (SameH _) mixed (by kernel_rfl) rfl (by kernel_rfl) (po_then (po_then (po_bpp))) (sameH_now _ _) ?_ -- region 14 reader.go:109
      refine pi_ro rfl (fun w hS => ro_move rfl) ?_
      refine pi_ro rfl (fun w hS => ro_nilCheck rfl) ?_
      refine pi_ro rfl (fun w hS => ro_fieldAddr (k := 1) rfl fo_152_1) ?_
      refine pi_ro rfl (fun w hS => ro_loadB rfl sc_3 (Blk.of_heap hB12 hS) rfl) ?_
      refine pi_ro rfl (fun w hS => ro_move rfl) ?_
      refine pi_ro rfl (fun w hS => ro_nilCheck rfl) ?_
      refine pi_ro rfl (fun w hS => ro_fieldAddr (k := 0) rfl fo_152_0) ?_
      refine pi_ro rfl (fun w hS => ro_loadB rfl sc_9 (Blk.of_heap hB12 hS) rfl) ?_
      refine pi_ro rfl (fun w hS => ro_lenS rfl st_9) ?_
      refine pi_ro rfl (fun w hS => ro_cmp (r := !decide (q = s.length)) rfl rfl (congrArg some (congrArg not (beqc q s.length)))) ?_
      refine gen3 (A := fun w3 => RD w3.heap rb mb s q r.vs) (B := fun w3 => KS w w3 D rtb FF VX (ks0 ++ (gs ++ [(tv, i)])) BX) (D := fun w3 => Fram (RF rb mb) w w3) (C := fun w3 => WP _ _ _ _ _ _ w3) h12 (Z12.keep (Fram.drew none' w12 (w12.drawn + 1)) (fun _ _ h => h)) (F012.trans (Fram.drew _ w12 (w12.drawn + 1))) ?_
      clear h12 Z12 F012 hB12
      intro w12 h12 Z12 F012
      refine pi_nil (x_then (hK26 _ _ ?_))
      clear hK26 K26
      refine wc_cond rfl (fun hc76 => ?_) (fun hc76 => ?_)
      · try simp only [decide_eq_true_eq, decide_eq_false_iff_not, Bool.not_eq_true', Bool.not_eq_false', Bool.not_eq_eq_eq_not, Bool.not_true, Bool.not_false, beq_iff_eq, bne_iff_ne, ne_eq, beq_eq_false_iff_ne, bne_eq_false_iff_eq, gt_iff_lt, ge_iff_le, Int.not_lt, Int.not_le] at hc76
        have hqe : q ≠ s.length := by simpa using hc76
        have hre : s.drop q ≠ [] := by intro hx; have := congrArg List.length hx; simp at this; omega
        refine c_reg ?_ -- region 15 reader.go:110
        refine wl (ro_move rfl) ?_
        refine wl_callP rfl en_120 (fail120 h12 _) (fun pv w9 hE => bpp_pan (P := Tryz.prog) (fn := Tryz.f90) (⟨by rw [hrd, if_neg hre], hE.after F012⟩)) ?_
        rintro _ _ ⟨⟩
      · try simp only [decide_eq_true_eq, decide_eq_false_iff_not, Bool.not_eq_true', Bool.not_eq_false', Bool.not_eq_eq_eq_not, Bool.not_true, Bool.not_false, beq_iff_eq, bne_iff_ne, ne_eq, beq_eq_false_iff_ne, bne_eq_false_iff_eq, gt_iff_lt, ge_iff_le, Int.not_lt, Int.not_le] at hc76
        have hqe : q = s.length := by simpa using hc76
        have hre : s.drop q = [] := by rw [hqe, List.drop_length]
        rw [if_pos hre] at hrd
        refine c_skip (x_then (hK25 _ _ ?_))
        clear hK25 K25
        refine forget [(5, _)] ⟨rfl, trivial⟩ (fun e => ?_)
        refine c_seq (fun K27 hK27 => ?_)
        refine c_reg ?_ -- region 16 reader.go:112
        refine wl (ro_move rfl) ?_
        refine wl (ro_build rfl bld_174_0) ?_
        refine wle (eo_box rfl rfl) ?_
        have hN13 := Blk.new w12 [ptr rtb] 174
        have Z13 := Z12.keep (Fram.alloc none' w12 (.cells [ptr rtb].toArray 174)) (fun _ _ h => h)
        have hsz12 := F012.size
        have F013 := F012.trans (Fram.alloc (RF rb mb) w12 (.cells [ptr rtb].toArray 174))
        refine wl (ro_assign rfl) ?_
        refine wl_nil (x_then (hK27 _ _ ?_))
        clear hK27 K27
        refine c_ret ?_
        refine bpp_ret Tryz.results90 rfl ?_
        refine ⟨w12.heap.size, rtb, VX, ks0 ++ (gs ++ [(tv, i)]), BX, rfl, hN13, hsz12, by rw [← hD]; subst hFF; exact Z13, ?_, ?_, fun hx => by (obtain ⟨cb, i', ks', hh⟩ := hk0 hx); exact ⟨cb, i', ks' ++ (gs ++ [(tv, i)]), by rw [hh]; rfl⟩, by simp; omega, F013⟩
        · rw [hrd, hv2, ← hic]
          simp
        · rw [List.map_append]
          exact htext _ (by simp) (by rw [htx2, hre, List.append_nil])
    · try simp only [decide_eq_true_eq, decide_eq_false_iff_not, Bool.not_eq_true', Bool.not_eq_false', Bool.not_eq_eq_eq_not, Bool.not_true, Bool.not_false, beq_iff_eq, bne_iff_ne, ne_eq, beq_eq_false_iff_ne, bne_eq_false_iff_eq, gt_iff_lt, ge_iff_le, Int.not_lt, Int.not_le] at hc59
      have h44 : pk (s.drop q) = 44 := by simpa using hc59
      rw [← hq, if_pos h44, drop1] at hPG
      obtain ⟨hqq, hdq⟩ := pk_drop h44 (by decide)
      refine c_skip (x_then (hK23 _ _ ?_))
      clear hK23 K23
      refine c_reg ?_ -- region 13 reader.go:107
      refine wl (ro_move rfl) ?_
      refine wl (ro_nilCheck rfl) ?_
      refine wl (ro_fieldAddr (k := 1) rfl fo_152_1) ?_
      refine wl (ro_loadB rfl sc_3 (by assumption) rfl) ?_
      refine wl (ro_arith rfl rfl rfl (Go.IntWalk.i64_in _ (by omega))) ?_
      refine wl (ro_nilCheck rfl) ?_
      refine wl (ro_fieldAddr (k := 1) rfl fo_152_1) ?_
      refine wls (so_storeB rfl rfl rfl sz_3 (hB12) (by simp)) ?_
      obtain ⟨h13, F13⟩ := h12.move (q + 1)
      have Z13 := Z12.keep F13 hRF
      refine wl_nil (x_blk (x_then ?_))
      refine ⟨s.length - (q + 1), by omega, gs ++ [(tv, i)], q + 1, r.vs, VX, BX, rfl, by omega, by omega, ?_, ?_, hv2, by omega, by simp; omega, hFF ▸ Z13, h13, F012.trans F13, kp _ ⟨rfl, rfl, trivial⟩⟩
      · rw [hPG]
        cases PG (s.drop (q + 1)) r.vs with
        | none => rfl
        | some z => simp [hic]; omega
      · rw [htx2, hdq]
        simp [preT]

end Go.Proofs.Qxb6500569aGreat
