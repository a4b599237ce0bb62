import Derived.Test.Qxb6500569aGreatVc
import Derived.Test.Qxb6500569aGreatFe
/- The real program: a clause's head, its functor, its own key; ids spelt. -/
namespace Go.Proofs.Qxb6500569aGreat
set_option linter.unusedVariables false
set_option linter.unusedSimpArgs false

def prd2 (c : List UInt8) : K2 := (c.getD 2 0, c.getD 3 0)
def own2 (c : List UInt8) : Option K2 := if c.getD 3 0 ≠ 48 ∧ 97 ≤ (c.getD 4 0).toNat then some (c.getD 4 0, c.getD 5 0) else none

theorem load_agg {P : Program} {w : World} {t t' k b : Nat} {cs : List Value} (ht : aggB P t k = true) (hB : Blk w.heap b cs t') (hl : cs.length = k) : (loadVar t ⟨b, 0, none⟩).run P w = .ok (.agg cs.toArray) w := by
  have h := run_loadCells_list (P := P) (w := w) (⟨b, 0, none⟩ : Addr) cs (by intro j v hj; rw [addr_add, hB.cell]; simpa using hj)
  subst hl
  simp [loadVar, run_isAgg_true ht, run_sizeOf (sizeB_of_aggB ht), h]

theorem results_cA {P : Program} {n : Nat} {e : Nat → Option Value} {ds : List Deferred} {w : World} {fn : Func} {a ta k ba : Nat} {cs : List Value} {t1 : TypeId} (hrs : fn.results = #[.cell a ta]) (ha : evO n e (.tmp a) = some (ptr ba)) (h1 : aggB P ta k = true) (hA : Blk w.heap ba cs t1) (hl : cs.length = k) :
    (results fn (Fr n e ds).tmps).run P w = .ok (.agg cs.toArray) w := by
  have g1 := getD_of_evO (ds := ds) ha
  have l1 := load_agg h1 hA hl
  simp at g1
  simp [results, hrs, g1, ptr, asAddr, l1]

theorem results_cAt {P : Program} {n : Nat} {e : Nat → Option Value} {ds : List Deferred} {w : World} {fn : Func} {a b ta k ba : Nat} {cs : List Value} {v : Value} {t1 : TypeId} (hrs : fn.results = #[.cell a ta, .tmp b]) (ha : evO n e (.tmp a) = some (ptr ba)) (hb : evO n e (.tmp b) = some v) (h1 : aggB P ta k = true) (hA : Blk w.heap ba cs t1) (hl : cs.length = k) :
    (results fn (Fr n e ds).tmps).run P w = .ok (.tuple #[.agg cs.toArray, v]) w := by
  have g1 := getD_of_evO (ds := ds) ha
  have g2 := getD_of_evO (ds := ds) hb
  have l1 := load_agg h1 hA hl
  simp at g1 g2
  simp [results, hrs, g1, g2, ptr, asAddr, l1]

theorem functor93 {w : World} {cb n cap : Nat} {c : UInt8} {a : Option Addr} (hB : Blk w.heap cb [u8c c, .slice a n cap] 193) (hn : n ≤ 100) :
    Ret Tryz.prog 93 [ptr cb] w (fun r w' => r = k2c (c, UInt8.ofNat (48 + n)) ∧ Fram none' w w') := by
  have hu8 : Value.int .u8 (48 + (n : Int)) = u8c (UInt8.ofNat (48 + n)) := by rw [← u8v (by omega)]; congr 1
  refine ret_of Tryz.func93 rfl Tryz.ntmps93 rfl ?_
  refine c_seq (fun K1 hK1 => ?_)
  refine c_reg ?_ -- region 0 term.go:49
  refine wle (eo_alloc ze_157) ?_
  have hN := Blk.new w [u8c 0, u8c 0] 157
  have hB1 := hB.alloc (.cells [u8c 0, u8c 0].toArray 157)
  have F1 := Fram.alloc none' w (.cells [u8c 0, u8c 0].toArray 157)
  refine gen3 (A := fun w1 => Blk w1.heap cb [u8c c, .slice a n cap] 193) (B := fun w1 => Blk w1.heap w.heap.size [u8c 0, u8c 0] 157) (D := fun w1 => Fram none' w w1) (C := fun w1 => WL _ _ _ _ _ w1) hB1 hN F1 ?_
  clear hB1 hN F1
  intro w1 hB1 hN F1
  refine wl_nil (x_then (hK1 _ _ ?_))
  clear hK1 K1
  refine forget [(0, _), (2, _)] ⟨rfl, rfl, trivial⟩ (fun e => ?_)
  refine c_seq (fun K2 hK2 => ?_)
  refine c_piL 12 [(0, false), (1, false), (2, false), (3, false), (4, false), (5, false), (6, false), (7, false), (8, false), (9, false), (10, false), (11, false)] (SameH w1.heap) mixed (by kernel_rfl) rfl (by kernel_rfl) (po_then (po_bp)) (rfl) ?_ -- region 1 term.go:50
  refine ql_ro rfl (fun w hS => ro_move rfl) ?_
  refine ql_ro rfl (fun w hS => ro_nilCheck rfl) ?_
  refine ql_ro rfl (fun w hS => ro_fieldAddr (k := 0) rfl fo_193_0) ?_
  refine ql_ro rfl (fun w hS => ro_loadB rfl sc_5 (Blk.of_heap hB1 hS) rfl) ?_
  refine ql_ro rfl (fun w hS => ro_move rfl) ?_
  refine ql_ro rfl (fun w hS => ro_nilCheck rfl) ?_
  refine ql_ro rfl (fun w hS => ro_fieldAddr (k := 1) rfl fo_193_1) ?_
  refine ql_ro rfl (fun w hS => ro_loadB rfl sc_190 (Blk.of_heap hB1 hS) rfl) ?_
  refine ql_ro rfl (fun w hS => ro_lenL rfl se_190) ?_
  refine ql_ro rfl (fun w hS => ro_conv rfl sc_3 in_5 (Go.IntWalk.u8_in _ (by omega))) ?_
  refine ql_ro rfl (fun w hS => (show RO _ _ _ _ _ (u8c (UInt8.ofNat (48 + n))) from hu8 ▸ ro_arith rfl rfl rfl (Go.IntWalk.u8_in _ (by omega)))) ?_
  refine ql_ro rfl (fun w hS => ro_build rfl bld_157_0_1) ?_
  refine ql_last rfl (so_storeAggB rfl rfl (by simp [Value.oneCell', i32c, u8c, i64c, i8c]) sz_157 rfl (hN) (by simp)) ?_
  have hN2 := Blk.set (w := { w1 with drawn := w1.drawn + 1 }) hN [u8c c, u8c (UInt8.ofNat (48 + n))]
  have F2 : Fram none' w (World.setRow { w1 with drawn := w1.drawn + 1 } w.heap.size [u8c c, u8c (UInt8.ofNat (48 + n))].toArray) := (F1.trans (Fram.drew none' w1 (w1.drawn + 1))).trans' (Fram.set (F := fun b => b = w.heap.size) _ w.heap.size _ (.inl rfl)) (fun k hk hx => absurd hx (by omega))
  refine x_then (hK2 _ _ ?_)
  clear hK2 K2
  refine c_ret ?_
  exact bodyPost_ret (results_cA Tryz.results93 rfl ag_157 hN2 rfl) rfl ⟨_, rfl, rfl, F2⟩

theorem head92 {w : World} {clb : Nat} {s code : List UInt8} {Bs : List Nat} (hcl : ClAt w.heap clb false s code Bs) :
    Ret Tryz.prog 92 [ptr clb] w (fun r w' => w' = w ∧ ∃ hcb c VH hks Bh, r = ptr hcb ∧ CallB (TAt 40 w.heap) w.heap hcb c VH hks Bh ∧ isLo c = true ∧ hks.length ≤ 3 ∧ (∀ k ∈ hks, k.2.m ≤ 6) ∧ prd2 code = (c, UInt8.ofNat (48 + hks.length)) ∧ code.drop 4 = hks.flatMap (·.2.code) ++ code.drop (4 + (hks.flatMap (·.2.code)).length) ∧ ∀ b ∈ Bh, b ∈ Bs) := by
  obtain ⟨rtb, VA, ks, B, h1, h2, h3, h4, h5, h6, h8, h7⟩ := hcl
  obtain ⟨hcb, i0, gs, rfl⟩ := h5 rfl
  obtain ⟨g, cap, l, rfl, hBl0, hc1, hc2, hl1, hl2⟩ := h2.own.pos (by simp)
  have hcell0 := own_cell (i := 0) hl2 (v := Value.iface 155 (ptr hcb)) (by simp)
  have hk0 := h2.kids (Value.iface 155 (ptr hcb), i0) (by simp)
  have hrt : Blk w.heap rtb [u8c 58, .slice (some ⟨g, 0, none⟩) (gs.length + 1) cap] 193 := h2.blk
  have hT : ∃ c VH hks, CallB (TAt 40 w.heap) w.heap hcb c VH hks i0.B ∧ hks.length ≤ 3 ∧ i0.code = codeC c (hks.map (·.2)) ∧ i0.m = maxM (hks.map (·.2)) ∧ isLo c = true := by
    rcases hk0 with ⟨c, n, hh, _⟩ | ⟨hh, _⟩ | ⟨cb', c, VA', ks', hh, a1, a2, a3, a4, a5, a6⟩
    · injection hh with hh _; exact absurd hh (by decide)
    · injection hh with hh _; exact absurd hh (by decide)
    · injection hh with _ hh
      injection hh with hh
      injection hh with hh
      injection hh with hh
      subst hh
      exact ⟨c, VA', ks', a1, a2, a3, a5, a6⟩
  obtain ⟨c, VH, hks, hC, hk3, hcd, hm, hlo⟩ := hT
  have hmx : ∀ (l : List (Value × TI)) (k : Value × TI), k ∈ l → k.2.m ≤ maxM (l.map (·.2)) := by
    intro l
    induction l with
    | nil => intro k hk; cases hk
    | cons a l ih =>
      intro k hk
      simp only [List.map_cons, maxM, List.foldr_cons]
      rcases List.mem_cons.1 hk with rfl | hk
      · omega
      · have := ih k hk; simp only [maxM] at this; omega
  have hmi : i0.m ≤ 6 := by have := hmx _ _ (List.mem_cons_self (a := ((Value.iface 155 (ptr hcb), i0) : Value × TI)) (l := gs)); simp only at this; omega
  have hcode : code = 58 :: UInt8.ofNat (48 + (gs.length + 1)) :: c :: UInt8.ofNat (48 + hks.length) :: (hks.flatMap (·.2.code) ++ gs.flatMap (·.2.code)) := by
    rw [h3]
    simp only [List.flatMap_cons, hcd, codeC, List.flatMap_map, List.length_map]
    rfl
  refine ret_of Tryz.func92 rfl Tryz.ntmps92 rfl ?_
  refine c_seq (fun K1 hK1 => ?_)
  refine c_reg ?_ -- region 0 term.go:38
  refine wl (ro_assign rfl) ?_
  refine wl_nil (x_then (hK1 _ _ ?_))
  clear hK1 K1
  refine forget [(0, _)] ⟨rfl, trivial⟩ (fun e => ?_)
  refine c_seq (fun K2 hK2 => ?_)
  refine c_reg ?_ -- region 1 term.go:38
  refine wl (ro_move rfl) ?_
  refine wl (ro_nilCheck rfl) ?_
  refine wl (ro_fieldAddr (k := 0) rfl fo_174_0) ?_
  refine wl (ro_loadB rfl sc_155 (h1) rfl) ?_
  refine wl (ro_nilCheck rfl) ?_
  refine wl (ro_fieldAddr (k := 1) rfl fo_193_1) ?_
  refine wl (ro_loadB rfl sc_190 (hrt) rfl) ?_
  refine wl (ro_indexAddr (et := 195) (k := 1) rfl rfl se_190 rfl (Nat.succ_pos _)) ?_
  refine wl (ro_loadB rfl sc_195 (hBl0) ((by simpa using hcell0))) ?_
  refine wl (ro_taY1 rfl ni_155) ?_
  refine wl (ro_assign rfl) ?_
  refine wl_nil (x_then (hK2 _ _ ?_))
  clear hK2 K2
  refine c_ret ?_
  refine bp_ret Tryz.results92 rfl ?_
  refine ⟨rfl, hcb, c, VH, hks, i0.B, rfl, hC, hlo, hk3, ?_, ?_, ?_, ?_⟩
  · intro k hk
    have := hmx _ _ hk
    omega
  · rw [hcode]; rfl
  · rw [hcode, Nat.add_comm 4]
    simp only [List.drop_succ_cons, List.drop_zero]
    rw [List.drop_left]
  · intro b hb
    rw [h7, h2.bs]
    simp only [List.mem_cons, List.mem_append, List.mem_flatMap]
    exact .inr (.inr (.inr ⟨(Value.iface 155 (ptr hcb), i0), by simp, hb⟩))

theorem ownKey94 {w : World} {cb : Nat} {c : UInt8} {VH : Value} {hks : List (Value × TI)} {B : List Nat} {code : List UInt8} (hC : CallB (TAt 40 w.heap) w.heap cb c VH hks B) (hk3 : hks.length ≤ 3) (hm : ∀ k ∈ hks, k.2.m ≤ 6) (h3 : code.getD 3 0 = UInt8.ofNat (48 + hks.length)) (h4 : code.drop 4 = hks.flatMap (·.2.code) ++ code.drop (4 + (hks.flatMap (·.2.code)).length)) :
    Ret Tryz.prog 94 [ptr cb] w (fun r w' => (match own2 code with | some k => r = .tuple #[k2c k, .bool true] | none => r = .tuple #[k2c (0, 0), .bool false]) ∧ Fram none' w w') := by
  have h48 : ∀ n : Nat, n ≤ 3 → (UInt8.ofNat (48 + n) ≠ 48 ↔ n ≠ 0) := by
    intro n hn
    match n, hn with
    | 0, _ | 1, _ | 2, _ | 3, _ => decide
  cases hks with
  | nil =>
    have ho : own2 code = none := by unfold own2; rw [h3]; simp
    rw [ho]
    obtain ⟨aV, cV, rfl⟩ := hC.own.form
    have hBc : Blk w.heap cb [u8c c, .slice aV 0 cV] 193 := hC.blk
    refine ret_of Tryz.func94 rfl Tryz.ntmps94 rfl ?_
    refine c_seq (fun K1 hK1 => ?_)
    refine c_reg ?_ -- region 0 term.go:54
    refine wle (eo_alloc ze_157) ?_
    have hN := Blk.new w [u8c 0, u8c 0] 157
    have hB1 := hBc.alloc (.cells [u8c 0, u8c 0].toArray 157)
    refine wl (ro_assign rfl) ?_
    refine wl_nil (x_then (hK1 _ _ ?_))
    clear hK1 K1
    refine c_seq (fun K2 hK2 => ?_)
    refine c_seq (fun K3 hK3 => ?_)
    refine c_reg ?_ -- region 1 term.go:55
    refine wl (ro_move rfl) ?_
    refine wl (ro_nilCheck rfl) ?_
    refine wl (ro_fieldAddr (k := 1) rfl fo_193_1) ?_
    refine wl (ro_loadB rfl sc_190 (hB1) rfl) ?_
    refine wl (ro_lenL rfl se_190) ?_
    refine wl (ro_cmp (r := true) rfl rfl (by simp)) ?_
    refine wl_nil (x_then (hK3 _ _ ?_))
    clear hK3 K3
    refine wc_condT rfl ?_
    refine c_seq (fun K4 hK4 => ?_)
    refine c_reg ?_ -- region 2 term.go:56
    refine wl (ro_build rfl bld_157) ?_
    refine wls (so_storeAggB rfl rfl (by simp [Value.oneCell', i32c, u8c, i64c, i8c]) sz_157 rfl (hN) (by simp)) ?_
    have hN2 := hN.set [u8c 0, u8c 0]
    have F2 : Fram none' w (World.setRow (w.alloc (.cells [u8c 0, u8c 0].toArray 157)) w.heap.size [u8c 0, u8c 0].toArray) := (Fram.alloc none' w _).trans' (Fram.set (F := fun b => b = w.heap.size) _ w.heap.size _ (.inl rfl)) (fun k hk hx => absurd hx (by omega))
    refine wl (ro_assign rfl) ?_
    refine wl_nil (x_then (hK4 _ _ ?_))
    clear hK4 K4
    refine c_ret (x_thenR ?_)
    exact bodyPost_ret (results_cAt Tryz.results94 rfl rfl ag_157 hN2 rfl) rfl ⟨_, rfl, rfl, F2⟩
  | cons k0 hks =>
    obtain ⟨v0, i0⟩ := k0
    obtain ⟨g, cap, l, rfl, hBl0, hc1, hc2, hl1, hl2⟩ := hC.own.pos (by simp)
    have hcell0 := own_cell (i := 0) hl2 (v := v0) (by simp)
    have hBc : Blk w.heap cb [u8c c, .slice (some ⟨g, 0, none⟩) (hks.length + 1) cap] 193 := hC.blk
    have hm0 := hm (v0, i0) (by simp)
    have hd3 : code.getD 3 0 ≠ 48 := by rw [h3, h48 _ hk3]; simp
    have h45 : code.getD 4 0 = (i0.code ++ (hks.flatMap (·.2.code) ++ code.drop (4 + (((v0, i0) :: hks).flatMap (·.2.code)).length))).getD 0 0 ∧ code.getD 5 0 = (i0.code ++ (hks.flatMap (·.2.code) ++ code.drop (4 + (((v0, i0) :: hks).flatMap (·.2.code)).length))).getD 1 0 := by
      have e : code.drop 4 = i0.code ++ (hks.flatMap (·.2.code) ++ code.drop (4 + (((v0, i0) :: hks).flatMap (·.2.code)).length)) := by rw [h4]; simp
      rw [← e]
      simp [List.getD_eq_getElem?_getD, List.getElem?_drop]
    rcases hC.kids (v0, i0) (by simp) with ⟨c1, n1, rfl, hn1, rfl⟩ | ⟨rfl, rfl⟩ | ⟨kb, c1, VK, kks, rfl, hK, hkk3, hcd, _, _, hlo⟩
    · have ho : own2 code = none := by
        unfold own2
        rw [if_neg]
        intro hx
        rw [h45.1] at hx
        simp only [List.cons_append, List.getD_cons_zero] at hx
        simp only at hm0
        have h2 := hx.2
        rw [UInt8.toNat_ofNat', Nat.mod_eq_of_lt (by omega)] at h2
        omega
      rw [ho]
      refine ret_of Tryz.func94 rfl Tryz.ntmps94 rfl ?_
      refine c_seq (fun K1 hK1 => ?_)
      refine c_reg ?_ -- region 0 term.go:54
      refine wle (eo_alloc ze_157) ?_
      have hN := Blk.new w [u8c 0, u8c 0] 157
      have hB1 := hBc.alloc (.cells [u8c 0, u8c 0].toArray 157)
      have hBl1 := hBl0.alloc (.cells [u8c 0, u8c 0].toArray 157)
      refine wl (ro_assign rfl) ?_
      refine wl_nil (x_then (hK1 _ _ ?_))
      clear hK1 K1
      refine c_seq (fun K2 hK2 => ?_)
      refine c_seq (fun K3 hK3 => ?_)
      refine c_reg ?_ -- region 1 term.go:55
      refine wl (ro_move rfl) ?_
      refine wl (ro_nilCheck rfl) ?_
      refine wl (ro_fieldAddr (k := 1) rfl fo_193_1) ?_
      refine wl (ro_loadB rfl sc_190 (hB1) rfl) ?_
      refine wl (ro_lenL rfl se_190) ?_
      refine wl (ro_cmp (r := false) rfl rfl (by simp; omega)) ?_
      refine wl_nil (x_then (hK3 _ _ ?_))
      clear hK3 K3
      refine wc_condF rfl ?_
      refine c_skip (x_then (hK2 _ _ ?_))
      clear hK2 K2
      refine forget [(0, _), (2, _)] ⟨rfl, rfl, trivial⟩ (fun e => ?_)
      refine c_seq (fun K4 hK4 => ?_)
      refine c_reg ?_ -- region 3 term.go:58
      refine wl (ro_move rfl) ?_
      refine wl (ro_nilCheck rfl) ?_
      refine wl (ro_fieldAddr (k := 1) rfl fo_193_1) ?_
      refine wl (ro_loadB rfl sc_190 (hB1) rfl) ?_
      refine wl (ro_indexAddr (et := 195) (k := 1) rfl rfl se_190 rfl (Nat.succ_pos _)) ?_
      refine wl (ro_loadB rfl sc_195 (hBl1) ((by simpa using hcell0))) ?_
      refine wl (ro_taN rfl ni_155 rfl zr_155) ?_
      refine wl (ro_move rfl) ?_
      refine wl (ro_extract rfl rfl) ?_
      refine wl (ro_extract rfl rfl) ?_
      refine wl (ro_assign rfl) ?_
      refine wl (ro_assign rfl) ?_
      refine wl_nil (x_then (hK4 _ _ ?_))
      clear hK4 K4
      refine c_seq (fun K5 hK5 => ?_)
      refine c_seq (fun K6 hK6 => ?_)
      refine c_reg ?_ -- region 4 term.go:59
      refine wl (ro_move rfl) ?_
      refine wl (ro_not rfl) ?_
      refine wl_nil (x_then (hK6 _ _ ?_))
      clear hK6 K6
      refine wc_condT rfl ?_
      refine c_seq (fun K7 hK7 => ?_)
      refine c_reg ?_ -- region 5 term.go:60
      refine wl (ro_build rfl bld_157) ?_
      refine wls (so_storeAggB rfl rfl (by simp [Value.oneCell', i32c, u8c, i64c, i8c]) sz_157 rfl (hN) (by simp)) ?_
      have hN2 := hN.set [u8c 0, u8c 0]
      have F2 : Fram none' w (World.setRow (w.alloc (.cells [u8c 0, u8c 0].toArray 157)) w.heap.size [u8c 0, u8c 0].toArray) := (Fram.alloc none' w _).trans' (Fram.set (F := fun b => b = w.heap.size) _ w.heap.size _ (.inl rfl)) (fun k hk hx => absurd hx (by omega))
      refine wl (ro_assign rfl) ?_
      refine wl_nil (x_then (hK7 _ _ ?_))
      clear hK7 K7
      refine c_ret (x_thenR ?_)
      exact bodyPost_ret (results_cAt Tryz.results94 rfl rfl ag_157 hN2 rfl) rfl ⟨_, rfl, rfl, F2⟩
    · have ho : own2 code = none := by
        unfold own2
        rw [if_neg]
        intro hx
        rw [h45.1] at hx
        simp only [List.cons_append, List.getD_cons_zero] at hx
        exact absurd hx.2 (by decide)
      rw [ho]
      refine ret_of Tryz.func94 rfl Tryz.ntmps94 rfl ?_
      refine c_seq (fun K1 hK1 => ?_)
      refine c_reg ?_ -- region 0 term.go:54
      refine wle (eo_alloc ze_157) ?_
      have hN := Blk.new w [u8c 0, u8c 0] 157
      have hB1 := hBc.alloc (.cells [u8c 0, u8c 0].toArray 157)
      have hBl1 := hBl0.alloc (.cells [u8c 0, u8c 0].toArray 157)
      refine wl (ro_assign rfl) ?_
      refine wl_nil (x_then (hK1 _ _ ?_))
      clear hK1 K1
      refine c_seq (fun K2 hK2 => ?_)
      refine c_seq (fun K3 hK3 => ?_)
      refine c_reg ?_ -- region 1 term.go:55
      refine wl (ro_move rfl) ?_
      refine wl (ro_nilCheck rfl) ?_
      refine wl (ro_fieldAddr (k := 1) rfl fo_193_1) ?_
      refine wl (ro_loadB rfl sc_190 (hB1) rfl) ?_
      refine wl (ro_lenL rfl se_190) ?_
      refine wl (ro_cmp (r := false) rfl rfl (by simp; omega)) ?_
      refine wl_nil (x_then (hK3 _ _ ?_))
      clear hK3 K3
      refine wc_condF rfl ?_
      refine c_skip (x_then (hK2 _ _ ?_))
      clear hK2 K2
      refine forget [(0, _), (2, _)] ⟨rfl, rfl, trivial⟩ (fun e => ?_)
      refine c_seq (fun K4 hK4 => ?_)
      refine c_reg ?_ -- region 3 term.go:58
      refine wl (ro_move rfl) ?_
      refine wl (ro_nilCheck rfl) ?_
      refine wl (ro_fieldAddr (k := 1) rfl fo_193_1) ?_
      refine wl (ro_loadB rfl sc_190 (hB1) rfl) ?_
      refine wl (ro_indexAddr (et := 195) (k := 1) rfl rfl se_190 rfl (Nat.succ_pos _)) ?_
      refine wl (ro_loadB rfl sc_195 (hBl1) ((by simpa using hcell0))) ?_
      refine wl (ro_taN rfl ni_155 rfl zr_155) ?_
      refine wl (ro_move rfl) ?_
      refine wl (ro_extract rfl rfl) ?_
      refine wl (ro_extract rfl rfl) ?_
      refine wl (ro_assign rfl) ?_
      refine wl (ro_assign rfl) ?_
      refine wl_nil (x_then (hK4 _ _ ?_))
      clear hK4 K4
      refine c_seq (fun K5 hK5 => ?_)
      refine c_seq (fun K6 hK6 => ?_)
      refine c_reg ?_ -- region 4 term.go:59
      refine wl (ro_move rfl) ?_
      refine wl (ro_not rfl) ?_
      refine wl_nil (x_then (hK6 _ _ ?_))
      clear hK6 K6
      refine wc_condT rfl ?_
      refine c_seq (fun K7 hK7 => ?_)
      refine c_reg ?_ -- region 5 term.go:60
      refine wl (ro_build rfl bld_157) ?_
      refine wls (so_storeAggB rfl rfl (by simp [Value.oneCell', i32c, u8c, i64c, i8c]) sz_157 rfl (hN) (by simp)) ?_
      have hN2 := hN.set [u8c 0, u8c 0]
      have F2 : Fram none' w (World.setRow (w.alloc (.cells [u8c 0, u8c 0].toArray 157)) w.heap.size [u8c 0, u8c 0].toArray) := (Fram.alloc none' w _).trans' (Fram.set (F := fun b => b = w.heap.size) _ w.heap.size _ (.inl rfl)) (fun k hk hx => absurd hx (by omega))
      refine wl (ro_assign rfl) ?_
      refine wl_nil (x_then (hK7 _ _ ?_))
      clear hK7 K7
      refine c_ret (x_thenR ?_)
      exact bodyPost_ret (results_cAt Tryz.results94 rfl rfl ag_157 hN2 rfl) rfl ⟨_, rfl, rfl, F2⟩
    · have ho : own2 code = some (c1, UInt8.ofNat (48 + kks.length)) := by
        unfold own2
        rw [hcd] at h45
        simp only [codeC, List.cons_append, List.getD_cons_zero, List.getD_cons_succ, List.length_map] at h45
        have hl97 : 97 ≤ c1.toNat := by simp [isLo] at hlo; omega
        rw [h45.1, h45.2, if_pos ⟨hd3, hl97⟩]
      rw [ho]
      obtain ⟨aK, cK, rfl⟩ := hK.own.form
      have hBk : Blk w.heap kb [u8c c1, .slice aK kks.length cK] 193 := hK.blk
      refine ret_of Tryz.func94 rfl Tryz.ntmps94 rfl ?_
      refine c_seq (fun K1 hK1 => ?_)
      refine c_reg ?_ -- region 0 term.go:54
      refine wle (eo_alloc ze_157) ?_
      have hN := Blk.new w [u8c 0, u8c 0] 157
      have hB1 := hBc.alloc (.cells [u8c 0, u8c 0].toArray 157)
      have hBl1 := hBl0.alloc (.cells [u8c 0, u8c 0].toArray 157)
      have hBk1 := hBk.alloc (.cells [u8c 0, u8c 0].toArray 157)
      refine wl (ro_assign rfl) ?_
      refine wl_nil (x_then (hK1 _ _ ?_))
      clear hK1 K1
      refine c_seq (fun K2 hK2 => ?_)
      refine c_seq (fun K3 hK3 => ?_)
      refine c_reg ?_ -- region 1 term.go:55
      refine wl (ro_move rfl) ?_
      refine wl (ro_nilCheck rfl) ?_
      refine wl (ro_fieldAddr (k := 1) rfl fo_193_1) ?_
      refine wl (ro_loadB rfl sc_190 (hB1) rfl) ?_
      refine wl (ro_lenL rfl se_190) ?_
      refine wl (ro_cmp (r := false) rfl rfl (by simp; omega)) ?_
      refine wl_nil (x_then (hK3 _ _ ?_))
      clear hK3 K3
      refine wc_condF rfl ?_
      refine c_skip (x_then (hK2 _ _ ?_))
      clear hK2 K2
      refine forget [(0, _), (2, _)] ⟨rfl, rfl, trivial⟩ (fun e => ?_)
      refine c_seq (fun K4 hK4 => ?_)
      refine c_reg ?_ -- region 3 term.go:58
      refine wl (ro_move rfl) ?_
      refine wl (ro_nilCheck rfl) ?_
      refine wl (ro_fieldAddr (k := 1) rfl fo_193_1) ?_
      refine wl (ro_loadB rfl sc_190 (hB1) rfl) ?_
      refine wl (ro_indexAddr (et := 195) (k := 1) rfl rfl se_190 rfl (Nat.succ_pos _)) ?_
      refine wl (ro_loadB rfl sc_195 (hBl1) ((by simpa using hcell0))) ?_
      refine wl (ro_taY rfl ni_155) ?_
      refine wl (ro_move rfl) ?_
      refine wl (ro_extract rfl rfl) ?_
      refine wl (ro_extract rfl rfl) ?_
      refine wl (ro_assign rfl) ?_
      refine wl (ro_assign rfl) ?_
      refine wl_nil (x_then (hK4 _ _ ?_))
      clear hK4 K4
      refine c_seq (fun K5 hK5 => ?_)
      refine c_seq (fun K6 hK6 => ?_)
      refine c_reg ?_ -- region 4 term.go:59
      refine wl (ro_move rfl) ?_
      refine wl (ro_not rfl) ?_
      refine wl_nil (x_then (hK6 _ _ ?_))
      clear hK6 K6
      refine wc_condF rfl ?_
      refine c_skip (x_then (hK5 _ _ ?_))
      clear hK5 K5
      refine forget [(2, _), (4, _)] ⟨rfl, rfl, trivial⟩ (fun e => ?_)
      refine c_seq (fun K7 hK7 => ?_)
      refine c_reg ?_ -- region 6 term.go:62
      refine wl (ro_move rfl) ?_
      refine wl_call rfl en_93 (functor93 hBk1 (by omega)) ?_
      rintro _ w2 ⟨rfl, F2⟩
      have hN2 := hN.fram F2 (fun h => h)
      refine wls (so_storeAggB rfl rfl ((by simp [u8c, Value.oneCell'])) sz_157 rfl (hN2) ((by simp))) ?_
      have hN3 := hN2.set [u8c c1, u8c (UInt8.ofNat (48 + kks.length))]
      have F3 : Fram none' w (w2.setRow w.heap.size [u8c c1, u8c (UInt8.ofNat (48 + kks.length))].toArray) := ((Fram.alloc none' w _).trans F2).trans' (Fram.set (F := fun b => b = w.heap.size) _ w.heap.size _ (.inl rfl)) (fun k hk hx => absurd hx (by omega))
      refine wl (ro_assign rfl) ?_
      refine wl_nil (x_then (hK7 _ _ ?_))
      clear hK7 K7
      refine c_ret ?_
      exact bodyPost_ret (results_cAt Tryz.results94 rfl rfl ag_157 hN3 rfl) rfl ⟨_, rfl, rfl, F3⟩

end Go.Proofs.Qxb6500569aGreat
