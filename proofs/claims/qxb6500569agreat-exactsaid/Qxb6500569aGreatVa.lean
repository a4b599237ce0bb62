import Derived.Test.Qxb6500569aGreatUh
/- The real program's printers. -/
namespace Go.Proofs.Qxb6500569aGreat
set_option linter.unusedVariables false
set_option linter.unusedSimpArgs false

theorem u8v {k : Nat} (h : k < 256) : Value.int .u8 (k : Int) = u8c (UInt8.ofNat k) := by
  unfold u8c
  rw [UInt8.toNat_ofNat', Nat.mod_eq_of_lt h]

/-- A text under the printer's hands. -/
structure Out (base : Nat) (w : World) (V : Value) (out : List UInt8) : Prop where
  own : Own w.heap V 5 1 out.length (out.map u8c)
  loc : ∀ b, V.ownBlock = some b → base ≤ b

theorem Out.none {base : Nat} {w w' : World} {V : Value} {out : List UInt8} (h : Out base w V out) (hf : Fram none' w w') : Out base w' V out := ⟨h.own.fram hf (fun _ _ h => h), h.loc⟩

theorem Out.grown {base : Nat} {w w0 w1 : World} {V V' : Value} {out xs : List UInt8} {n : Nat} (h : Out base w V out) (hb : base ≤ w0.heap.size) (hw : w0.heap.size ≤ w.heap.size) (hgr : w.grownBy w1 V.ownBlock) (hloc : V'.ownBlock = V.ownBlock ∨ V'.ownBlock = some w.heap.size)
    (hown : Own w1.heap V' 5 1 n (out.map u8c ++ xs.map u8c)) (hn : n = (out ++ xs).length) : Out base w1 V' (out ++ xs) ∧ Fram (fun b => base ≤ b) w w1 := by
  refine ⟨⟨?_, ?_⟩, (Fram.grown hgr (fun k hk => .inl hk) : Fram (fun b => V.ownBlock = some b) w w1).mono (fun k _ hx => h.loc k hx)⟩
  · rw [← hn, List.map_append]; exact hown
  · intro b hb'
    rcases hloc with h' | h'
    · rw [h'] at hb'; exact h.loc b hb'
    · rw [h'] at hb'; cases hb'; omega

def APost (base : Nat) (out x : List UInt8) (w : World) (r : Value) (w' : World) : Prop := Out base w' r (out ++ x) ∧ Fram (fun b => base ≤ b) w w'

def ASpec (d base : Nat) : Prop := ∀ (w : World) (V : Value) (out : List UInt8) (v : Value) (i : TI), TAt d w.heap v i → (∀ b ∈ i.B, b < base) → base ≤ w.heap.size → Out base w V out → out.length + i.code.length ≤ 1000000 → Ret Tryz.prog 98 [V, v] w (APost base out i.code w)

theorem code98c {d base : Nat} (IH : ASpec d base) {w : World} {V : Value} {out : List UInt8} {cb : Nat} {c : UInt8} {VA : Value} {ks : List (Value × TI)} {B : List Nat} (hC : CallB (TAt d w.heap) w.heap cb c VA ks B) (hB : ∀ b ∈ B, b < base) (hbw : base ≤ w.heap.size) (hO : Out base w V out) (hkl : ks.length ≤ 100)
    (hlen : out.length + (codeC c (ks.map (·.2))).length ≤ 1000000) : Ret Tryz.prog 98 [V, .iface 155 (ptr cb)] w (APost base out (codeC c (ks.map (·.2))) w) := by
  have hkB : ∀ k ∈ ks, ∀ b ∈ k.2.B, b < base := fun k hk b hb => hB b (by rw [hC.bs]; simp only [List.mem_cons, List.mem_append, List.mem_flatMap]; exact .inr (.inr ⟨k, hk, hb⟩))
  obtain ⟨aV, cV, rfl⟩ := hC.own.form
  obtain ⟨ao, co, rfl⟩ := hO.own.form
  have hBc := hC.blk
  have hu8 : Value.int .u8 (48 + (ks.length : Int)) = u8c (UInt8.ofNat (48 + ks.length)) := by rw [← u8v (by omega)]; congr 1
  have hlen' : out.length + (2 + (ks.flatMap (·.2.code)).length) ≤ 1000000 := by simp only [codeC, List.length_cons, List.flatMap_map] at hlen; omega
  refine ret_of Tryz.func98 rfl Tryz.ntmps98 rfl ?_
  refine c_seq (fun K1 hK1 => ?_)
  refine c_reg ?_ -- region 0 term.go:83
  refine wl (ro_assign rfl) ?_
  refine wl_nil (x_then (hK1 _ _ ?_))
  clear hK1 K1
  refine c_seq (fun K2 hK2 => ?_)
  refine c_seq (fun K3 hK3 => ?_)
  refine c_reg ?_ -- region 1 term.go:84
  refine wl (ro_move rfl) ?_
  refine wl_nil (x_then (hK3 _ _ ?_))
  clear hK3 K3
  refine c_block ?_
  refine forget [(0, _), (10, _)] ⟨rfl, rfl, trivial⟩ (fun e => ?_)
  refine c_seq (fun K4 hK4 => ?_)
  refine c_reg ?_ -- region 2 term.go:84
  refine wl (ro_taN rfl ni_214 rfl zr_214) ?_
  refine wl (ro_extract rfl rfl) ?_
  refine wl (ro_extract rfl rfl) ?_
  refine wl_nil (x_then (hK4 _ _ ?_))
  clear hK4 K4
  refine wc_condF rfl ?_
  refine c_seq (fun K5 hK5 => ?_)
  refine c_reg ?_ -- region 5 term.go:84
  refine wl (ro_taN rfl ni_220 rfl zr_220) ?_
  refine wl (ro_extract rfl rfl) ?_
  refine wl (ro_extract rfl rfl) ?_
  refine wl_nil (x_then (hK5 _ _ ?_))
  clear hK5 K5
  refine wc_condF rfl ?_
  refine c_seq (fun K6 hK6 => ?_)
  refine c_reg ?_ -- region 8 term.go:84
  refine wl (ro_taY rfl ni_155) ?_
  refine wl (ro_extract rfl rfl) ?_
  refine wl (ro_extract rfl rfl) ?_
  refine wl_nil (x_then (hK6 _ _ ?_))
  clear hK6 K6
  refine wc_condT rfl ?_
  refine c_seq (fun K7 hK7 => ?_)
  refine c_reg ?_ -- region 9 term.go:84
  refine wl (ro_assign rfl) ?_
  refine wl_nil (x_then (hK7 _ _ ?_))
  clear hK7 K7
  refine forget [(0, _), (7, _)] ⟨rfl, rfl, trivial⟩ (fun e => ?_)
  refine c_seq (fun K8 hK8 => ?_)
  refine c_pi [(0, false), (1, false), (2, false), (3, false), (4, false), (5, false), (6, false), (7, false), (8, false), (9, false), (10, false), (11, false), (12, true), (13, true), (14, false)] (fun w' => Blk w'.heap cb [u8c c, .slice aV ks.length cV] 193) mixed (by kernel_rfl) rfl (by kernel_rfl) (po_then (po_blk (po_then (po_bp)))) (hBc) ?_ -- region 10 term.go:90
  refine pi_ro rfl (fun w hS => ro_move rfl) ?_
  refine pi_ro rfl (fun w hS => ro_move rfl) ?_
  refine pi_ro rfl (fun w hS => ro_nilCheck rfl) ?_
  refine pi_ro rfl (fun w hS => ro_fieldAddr (k := 0) rfl fo_193_0) ?_
  refine pi_ro rfl (fun w hS => ro_loadB rfl sc_5 (hS) rfl) ?_
  refine pi_ro rfl (fun w hS => ro_move rfl) ?_
  refine pi_ro rfl (fun w hS => ro_nilCheck rfl) ?_
  refine pi_ro rfl (fun w hS => ro_fieldAddr (k := 1) rfl fo_193_1) ?_
  refine pi_ro rfl (fun w hS => ro_loadB rfl sc_190 (hS) rfl) ?_
  refine pi_ro rfl (fun w hS => ro_lenL rfl se_190) ?_
  refine pi_ro rfl (fun w hS => ro_conv rfl sc_3 in_5 (Go.IntWalk.u8_in _ (by omega))) ?_
  refine pi_ro rfl (fun w hS => (show RO _ _ _ _ _ (u8c (UInt8.ofNat (48 + ks.length))) from hu8 ▸ ro_arith rfl rfl rfl (Go.IntWalk.u8_in _ (by omega)))) ?_
  refine pi_eo rfl (eo_bs2 rfl rfl rfl rfl se_66 zx_5) (hBc.alloc _) ?_
  have hN := Blk.new { w with drawn := w.drawn + 1 } [u8c c, u8c (UInt8.ofNat (48 + ks.length))] 5
  have FD : Fram none' w (World.alloc { w with drawn := w.drawn + 1 } (.cells [u8c c, u8c (UInt8.ofNat (48 + ks.length))].toArray 5)) := (Fram.drew none' w (w.drawn + 1)).thenAlloc
  have hO1 := hO.none FD
  refine pi_app (news := [u8c c, u8c (UInt8.ofNat (48 + ks.length))]) rfl rfl rfl se_66 zx_5 by_5 rfl hO1.own hN rfl rfl (by simp [u8c, Value.oneCell']) (by omega) (by omega) ?_
  intro V2 w2 hown hgr hloc
  obtain ⟨hO2, F2⟩ := hO1.grown (w0 := w) (xs := [c, UInt8.ofNat (48 + ks.length)]) hbw FD.size hgr hloc hown (by simp)
  have F02 : Fram (fun b => base ≤ b) w w2 := (FD.mono (fun _ _ h => h.elim)).trans F2
  have hC2 := hC.fram F02 (fun b hb hx => by have := hB b hb; omega) (fun k hk hb h => h.fram F02 hb)
  refine ⟨hC2.blk, ?_⟩
  have hBc2 := hC2.blk
  refine pi_ro rfl (fun w hS => ro_assign rfl) ?_
  refine pi_nil (x_then (hK8 _ _ ?_))
  clear hK8 K8
  refine forget [(0, _), (7, _)] ⟨rfl, rfl, trivial⟩ (fun e => ?_)
  refine c_seq (fun K9 hK9 => ?_)
  refine c_reg ?_ -- region 11 term.go:91
  refine wl (ro_move rfl) ?_
  refine wl (ro_nilCheck rfl) ?_
  refine wl (ro_fieldAddr (k := 1) rfl fo_193_1) ?_
  refine wl (ro_loadB rfl sc_190 (hBc2) rfl) ?_
  refine wl (ro_lenL rfl se_190) ?_
  refine wl (ro_move rfl) ?_
  refine wl_nil (x_then (hK9 _ _ ?_))
  clear hK9 K9
  refine c_block ?_
  -- loop@r12: live slots [0, 47, 48, 49]
  refine c_loopG (fun m a' w' => ∃ j V', m = ks.length - j ∧ j ≤ ks.length ∧ Out base w' V' (out ++ ([c, UInt8.ofNat (48 + ks.length)] ++ (ks.take j).flatMap (·.2.code))) ∧ Fram (fun b => base ≤ b) w w' ∧ ∃ e, a' = Fr 58 (upds e [(0, V'), (47, .slice aV ks.length cV), (48, i64c ks.length), (49, i64c j)]) []) ks.length ⟨0, _, rfl, by omega, by simpa using hO2, F02, kp _ ⟨rfl, rfl, rfl, rfl, trivial⟩⟩ ?_
  clear hO2 F02 hC2 hBc2 F2 hown hgr hloc hO1 FD hN
  rintro m a' w3 ⟨j, V3, rfl, hj, hO3, F03, e, rfl⟩
  have hC3 := hC.fram F03 (fun b hb hx => by have := hB b hb; omega) (fun k hk hb h => h.fram F03 hb)
  have hsz3 := F03.size
  refine c_seq (fun K10 hK10 => ?_)
  refine c_reg ?_ -- region 12 term.go:91
  refine wl (ro_cmp rfl rfl rfl) ?_
  refine wl_nil (x_then (hK10 _ _ ?_))
  clear hK10 K10
  refine forget [(0, _), (47, _), (48, _), (49, _), (50, _)] ⟨rfl, rfl, rfl, rfl, rfl, trivial⟩ (fun e => ?_)
  refine c_seq (fun K11 hK11 => ?_)
  refine wc_cond rfl (fun hc50 => ?_) (fun hc50 => ?_)
  · try simp only [decide_eq_true_eq, decide_eq_false_iff_not, Bool.not_eq_true', Bool.not_eq_false', Bool.not_eq_eq_eq_not, Bool.not_true, Bool.not_false, beq_iff_eq, bne_iff_ne, ne_eq, beq_eq_false_iff_ne, bne_eq_false_iff_eq, gt_iff_lt, ge_iff_le, Int.not_lt, Int.not_le] at hc50
    have hjl : j < ks.length := by omega
    obtain ⟨k, hk⟩ : ∃ k, ks[j]? = some k := ⟨_, List.getElem?_eq_getElem hjl⟩
    have hkm := List.mem_of_getElem? hk
    obtain ⟨g, cap, l, hV, hBl, hc1, hc2, hl1, hl2⟩ := hC3.own.pos (by omega)
    cases hV
    have hcell := own_cell (i := j) hl2 (v := k.1) (by simp [hk])
    have htk : (ks.take (j + 1)).flatMap (·.2.code) = (ks.take j).flatMap (·.2.code) ++ k.2.code := by rw [List.take_add_one, hk]; simp
    have hle : ((ks.take j).flatMap (·.2.code)).length + k.2.code.length ≤ (ks.flatMap (·.2.code)).length := by
      have : (ks.flatMap (·.2.code)).length = ((ks.take (j + 1)).flatMap (·.2.code)).length + ((ks.drop (j + 1)).flatMap (·.2.code)).length := by
        rw [← List.length_append, ← List.flatMap_append, List.take_append_drop]
      rw [this, htk, List.length_append]; omega
    refine c_skip (x_then (hK11 _ _ ?_))
    clear hK11 K11
    refine forget [(0, _), (47, _), (48, _), (49, _)] ⟨rfl, rfl, rfl, rfl, trivial⟩ (fun e => ?_)
    refine c_seq (fun K12 hK12 => ?_)
    refine c_block ?_
    refine c_seq (fun K13 hK13 => ?_)
    refine c_reg ?_ -- region 13 term.go:91
    refine wl (ro_indexAddr (et := 195) (k := 1) rfl rfl se_190 rfl (hjl)) ?_
    refine wl (ro_loadB rfl sc_195 (hBl) ((by rw [Nat.zero_add, Nat.mul_one]; exact hcell))) ?_
    refine wl (ro_assign rfl) ?_
    refine wl_nil (x_then (hK13 _ _ ?_))
    clear hK13 K13
    refine c_reg ?_ -- region 14 term.go:92
    refine wl (ro_move rfl) ?_
    refine wl (ro_move rfl) ?_
    refine wl_call rfl en_98 (IH w3 V3 _ k.1 k.2 (hC3.kids k hkm) (hkB k hkm) (by omega) hO3 (by simp only [List.length_append, List.length_cons, List.length_nil]; omega)) ?_
    rintro V4 w4 ⟨hO4, F4⟩
    refine wl (ro_assign rfl) ?_
    refine wl_nil (x_blk (x_then (hK12 _ _ ?_)))
    clear hK12 K12
    refine c_reg ?_ -- region 15 term.go:91
    refine wl (ro_arith rfl rfl rfl (Go.IntWalk.i64_in _ (by omega))) ?_
    refine wl (ro_move rfl) ?_
    refine wl_nil (x_then ?_)
    refine ⟨ks.length - (j + 1), by omega, j + 1, V4, rfl, by omega, ?_, F03.trans F4, kp _ ⟨rfl, rfl, rfl, rfl, trivial⟩⟩
    rw [htk]
    simpa using hO4
  · try simp only [decide_eq_true_eq, decide_eq_false_iff_not, Bool.not_eq_true', Bool.not_eq_false', Bool.not_eq_eq_eq_not, Bool.not_true, Bool.not_false, beq_iff_eq, bne_iff_ne, ne_eq, beq_eq_false_iff_ne, bne_eq_false_iff_eq, gt_iff_lt, ge_iff_le, Int.not_lt, Int.not_le] at hc50
    have hje : j = ks.length := by omega
    refine c_exit (x_thenX (x_thenX (x_blkX (x_blk (x_then (hK2 _ _ ?_))))))
    clear hK11 K11 hK2 K2
    refine forget [(0, _)] ⟨rfl, trivial⟩ (fun e => ?_)
    refine c_seq (fun K14 hK14 => ?_)
    refine c_reg ?_ -- region 16 term.go:95
    refine wl (ro_move rfl) ?_
    refine wl (ro_assign rfl) ?_
    refine wl_nil (x_then (hK14 _ _ ?_))
    clear hK14 K14
    refine c_ret ?_
    refine bp_ret Tryz.results98 rfl ?_
    refine ⟨?_, F03⟩
    rw [hje, List.take_length] at hO3
    simp only [codeC, List.length_map, List.flatMap_map]
    simpa using hO3

theorem code98 : ∀ (d base : Nat), ASpec d base
  | 0, base => fun w V out v i h => h.elim
  | d + 1, base => fun w V out v i h hB hbw hO hlen => by
    rcases h with ⟨c, k, rfl, hk, rfl⟩ | ⟨rfl, rfl⟩ | ⟨cb, c, VA, ks, rfl, hC, hk3, hcd, _, _⟩
    · have hu8 : Value.int .u8 (65 + (k : Int)) = u8c (UInt8.ofNat (65 + k)) := by rw [← u8v (by omega)]; congr 1
      obtain ⟨ao, co, rfl⟩ := hO.own.form
      simp only [List.length_singleton] at hlen
      refine ret_of Tryz.func98 rfl Tryz.ntmps98 rfl ?_
      refine c_seq (fun K1 hK1 => ?_)
      refine c_reg ?_ -- region 0 term.go:83
      refine wl (ro_assign rfl) ?_
      refine wl_nil (x_then (hK1 _ _ ?_))
      clear hK1 K1
      refine c_seq (fun K2 hK2 => ?_)
      refine c_seq (fun K3 hK3 => ?_)
      refine c_reg ?_ -- region 1 term.go:84
      refine wl (ro_move rfl) ?_
      refine wl_nil (x_then (hK3 _ _ ?_))
      clear hK3 K3
      refine c_block ?_
      refine forget [(0, _), (10, _)] ⟨rfl, rfl, trivial⟩ (fun e => ?_)
      refine c_seq (fun K4 hK4 => ?_)
      refine c_reg ?_ -- region 2 term.go:84
      refine wl (ro_taY rfl ni_214) ?_
      refine wl (ro_extract rfl rfl) ?_
      refine wl (ro_extract rfl rfl) ?_
      refine wl_nil (x_then (hK4 _ _ ?_))
      clear hK4 K4
      refine wc_condT rfl ?_
      refine c_seq (fun K5 hK5 => ?_)
      refine c_reg ?_ -- region 3 term.go:84
      refine wle (eo_alloc ze_214) ?_
      have hN := Blk.new w [u8c 0, i64c 0] 214
      refine wls (so_storeAggB rfl rfl (by simp [Value.oneCell', i32c, u8c, i64c, i8c]) sz_214 rfl (hN) (by simp)) ?_
      have F2 : Fram none' w (World.setRow (w.alloc (.cells [u8c 0, i64c 0].toArray 214)) w.heap.size [u8c c, i64c k].toArray) := (Fram.alloc none' w _).trans' (Fram.set (F := fun b => b = w.heap.size) _ w.heap.size _ (.inl rfl)) (fun k hk hx => absurd hx (by omega))
      have hV := hN.set [u8c c, i64c k]
      refine gen2 (A := fun w2 => Fram none' w w2) (B := fun w2 => Blk w2.heap w.heap.size [u8c c, i64c k] 214) (C := fun w2 => WL _ _ _ _ _ w2) F2 hV ?_
      clear F2 hN hV
      intro w2 F2 hV
      have hO2 := hO.none F2
      refine wl_nil (x_then (hK5 _ _ ?_))
      clear hK5 K5
      refine c_reg ?_ -- region 4 term.go:86
      refine wl (ro_move rfl) ?_
      refine wl (ro_fieldAddr (k := 1) rfl fo_214_1) ?_
      refine wl (ro_loadB rfl sc_3 (hV) rfl) ?_
      refine wl (ro_conv rfl sc_3 in_5 (Go.IntWalk.u8_in _ (by omega))) ?_
      refine wl ((show RO _ _ _ _ _ (u8c (UInt8.ofNat (65 + k))) from hu8 ▸ ro_arith rfl rfl rfl (Go.IntWalk.u8_in _ (by omega)))) ?_
      refine wle (eo_bs1 rfl rfl se_66 zx_5 rfl rfl rfl) ?_
      have hN3 := Blk.new w2 [u8c (UInt8.ofNat (65 + k))] 5
      have FD := F2.thenAlloc (o := .cells [u8c (UInt8.ofNat (65 + k))].toArray 5)
      have hO3 := hO.none FD
      refine wl_app (news := [u8c (UInt8.ofNat (65 + k))]) rfl rfl se_66 zx_5 by_5 rfl hO3.own hN3 rfl rfl (by simp [u8c, Value.oneCell']) (by omega) (by omega) ?_
      intro V4 w4 hown hgr hloc
      obtain ⟨hO4, F4⟩ := hO3.grown (w0 := w) (xs := [UInt8.ofNat (65 + k)]) hbw FD.size hgr hloc hown (by simp)
      refine wl (ro_assign rfl) ?_
      refine wl_nil (x_blk (x_then (hK2 _ _ ?_)))
      clear hK2 K2
      refine forget [(0, _)] ⟨rfl, trivial⟩ (fun e => ?_)
      refine c_seq (fun K6 hK6 => ?_)
      refine c_reg ?_ -- region 16 term.go:95
      refine wl (ro_move rfl) ?_
      refine wl (ro_assign rfl) ?_
      refine wl_nil (x_then (hK6 _ _ ?_))
      clear hK6 K6
      refine c_ret ?_
      refine bp_ret Tryz.results98 rfl ?_
      exact ⟨hO4, (FD.mono (fun _ _ h => h.elim)).trans F4⟩
    · obtain ⟨ao, co, rfl⟩ := hO.own.form
      simp only [List.length_cons, List.length_nil] at hlen
      refine ret_of Tryz.func98 rfl Tryz.ntmps98 rfl ?_
      refine c_seq (fun K1 hK1 => ?_)
      refine c_reg ?_ -- region 0 term.go:83
      refine wl (ro_assign rfl) ?_
      refine wl_nil (x_then (hK1 _ _ ?_))
      clear hK1 K1
      refine c_seq (fun K2 hK2 => ?_)
      refine c_seq (fun K3 hK3 => ?_)
      refine c_reg ?_ -- region 1 term.go:84
      refine wl (ro_move rfl) ?_
      refine wl_nil (x_then (hK3 _ _ ?_))
      clear hK3 K3
      refine c_block ?_
      refine forget [(0, _), (10, _)] ⟨rfl, rfl, trivial⟩ (fun e => ?_)
      refine c_seq (fun K4 hK4 => ?_)
      refine c_reg ?_ -- region 2 term.go:84
      refine wl (ro_taN rfl ni_214 rfl zr_214) ?_
      refine wl (ro_extract rfl rfl) ?_
      refine wl (ro_extract rfl rfl) ?_
      refine wl_nil (x_then (hK4 _ _ ?_))
      clear hK4 K4
      refine wc_condF rfl ?_
      refine c_seq (fun K5 hK5 => ?_)
      refine c_reg ?_ -- region 5 term.go:84
      refine wl (ro_taY rfl ni_220) ?_
      refine wl (ro_extract rfl rfl) ?_
      refine wl (ro_extract rfl rfl) ?_
      refine wl_nil (x_then (hK5 _ _ ?_))
      clear hK5 K5
      refine wc_condT rfl ?_
      refine c_seq (fun K6 hK6 => ?_)
      refine c_reg ?_ -- region 6 term.go:84
      refine wle (eo_alloc ze_220) ?_
      have hN := Blk.new w [] 220
      refine wls (so_storeAggB rfl rfl ((by simp)) sz_220 rfl (hN) ((by simp))) ?_
      have F2 : Fram none' w (World.setRow (w.alloc (.cells [].toArray 220)) w.heap.size [].toArray) := (Fram.alloc none' w _).trans' (Fram.set (F := fun b => b = w.heap.size) _ w.heap.size _ (.inl rfl)) (fun k hk hx => absurd hx (by omega))
      refine gen2 (A := fun w2 => Fram none' w w2) (B := fun w2 => True) (C := fun w2 => WL _ _ _ _ _ w2) F2 trivial ?_
      clear F2 hN
      intro w2 F2 _
      have hO2 := hO.none F2
      refine wl_nil (x_then (hK6 _ _ ?_))
      clear hK6 K6
      refine c_reg ?_ -- region 7 term.go:88
      refine wl (ro_move rfl) ?_
      refine wle (eo_bs2 rfl rfl rfl rfl se_66 zx_5) ?_
      have hN3 := Blk.new w2 [u8c 33, u8c 48] 5
      have FD := F2.thenAlloc (o := .cells [u8c 33, u8c 48].toArray 5)
      have hO3 := hO.none FD
      refine wl_app (news := [u8c 33, u8c 48]) rfl rfl se_66 zx_5 by_5 rfl hO3.own hN3 rfl rfl (by simp [u8c, Value.oneCell']) (by omega) (by omega) ?_
      intro V4 w4 hown hgr hloc
      obtain ⟨hO4, F4⟩ := hO3.grown (w0 := w) (xs := [33, 48]) hbw FD.size hgr hloc hown (by simp)
      refine wl (ro_assign rfl) ?_
      refine wl_nil (x_blk (x_then (hK2 _ _ ?_)))
      clear hK2 K2
      refine forget [(0, _)] ⟨rfl, trivial⟩ (fun e => ?_)
      refine c_seq (fun K7 hK7 => ?_)
      refine c_reg ?_ -- region 16 term.go:95
      refine wl (ro_move rfl) ?_
      refine wl (ro_assign rfl) ?_
      refine wl_nil (x_then (hK7 _ _ ?_))
      clear hK7 K7
      refine c_ret ?_
      refine bp_ret Tryz.results98 rfl ?_
      exact ⟨hO4, (FD.mono (fun _ _ h => h.elim)).trans F4⟩
    · rw [hcd] at hlen ⊢
      exact code98c (code98 d base) hC hB hbw hO (by omega) hlen

end Go.Proofs.Qxb6500569aGreat
