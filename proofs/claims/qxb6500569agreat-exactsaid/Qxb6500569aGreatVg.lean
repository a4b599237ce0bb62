import Derived.Test.Qxb6500569aGreatVf
/- The real program: Match, Code, Show, Query. -/
namespace Go.Proofs.Qxb6500569aGreat
set_option linter.unusedVariables false
set_option linter.unusedSimpArgs false

theorem MapAt.of_heap {α : Type} {kv : α → Value} {H : Array Obj} {w : World} {r : Nat} {l : List (α × Value)} (h : MapAt kv H r l) (hS : SameH H w) : MapAt kv w.heap r l := by
  rw [show w.heap = H from hS]; exact h

theorem sel_small {cls : List Cl2} (h8 : cls.length ≤ 8) (p : List UInt8 → Bool) : (selF p 0 cls).length ≤ 100 ∧ ∀ j ∈ selF p 0 cls, j ≤ 100 :=
  ⟨by have := selF_len (p := p) (cls := cls) (i := 0); omega, fun j hj => by have := selF_le hj; omega⟩

theorem Match74 {w : World} {pb : Nat} {cls : List Cl2} {F : Nat → Prop} (M : PrX w.heap pb cls F) (ok : POK cls) (pred key : List UInt8) (hkl : key.length ≤ 100) (hpl : pred.length ≤ 100) :
    Ret Tryz.prog 74 [ptr pb, S pred, S key] w (fun r w' => r = S (matchS cls pred key) ∧ Fram none' w w') := by
  obtain ⟨VC, clbs, ra, la, lo, lk, M⟩ := M
  have h8 := ok.n8
  by_cases hp2 : pred.length = 2
  · obtain ⟨a, b, rfl⟩ : ∃ a b, pred = [a, b] := by
      match pred, hp2 with
      | [a, b], _ => exact ⟨a, b, rfl⟩
    obtain ⟨f, hf⟩ : ∃ f : K2, f = (a, b) := ⟨_, rfl⟩
    obtain ⟨va, hva⟩ : ∃ va, va = (lookV la f).getD (.slice none 0 0) := ⟨_, rfl⟩
    obtain ⟨vo, hvo⟩ : ∃ vo, vo = (lookV lo f).getD (.slice none 0 0) := ⟨_, rfl⟩
    have hA := M.getA f
    have hO := M.getO f
    rw [← hva] at hA
    rw [← hvo] at hO
    have hsA := sel_small h8 (fun c => decide (prd2 c = f))
    have hsO := sel_small h8 (fun c => decide (prd2 c = f) && decide (own2 c = none))
    refine ret_of Tryz.func74 rfl Tryz.ntmps74 rfl ?_
    refine c_seq (fun K1 hK1 => ?_)
    refine c_reg ?_ -- region 0 prog.go:127
    refine wl (ro_assign rfl) ?_
    refine wl_nil (x_then (hK1 _ _ ?_))
    clear hK1 K1
    refine c_seq (fun K2 hK2 => ?_)
    refine c_seq (fun K3 hK3 => ?_)
    refine c_reg ?_ -- region 1 prog.go:128
    refine wl (ro_move rfl) ?_
    refine wl (ro_lenS rfl st_9) ?_
    refine wl (ro_cmp (r := false) rfl rfl (by simp)) ?_
    refine wl_nil (x_then (hK3 _ _ ?_))
    clear hK3 K3
    refine wc_condF rfl ?_
    refine c_skip (x_then (hK2 _ _ ?_))
    clear hK2 K2
    refine forget [(0, _), (1, _), (2, _)] ⟨rfl, rfl, rfl, trivial⟩ (fun e => ?_)
    refine c_seq (fun K4 hK4 => ?_)
    refine c_piL 6 [(0, false), (1, false), (2, false), (3, false), (4, false), (5, true)] (fun _ => True) mixed (by kernel_rfl) rfl (by kernel_rfl) (po_then (po_bp)) (trivial) ?_ -- region 3 prog.go:131
    refine ql_ro rfl (fun w hS => ro_move rfl) ?_
    refine ql_ro rfl (fun w hS => ro_indexS rfl rfl st_9 (rfl) ((show ([a, b] : List UInt8)[0]? = some a from rfl))) ?_
    refine ql_ro rfl (fun w hS => ro_move rfl) ?_
    refine ql_ro rfl (fun w hS => ro_indexS rfl rfl st_9 (rfl) ((show ([a, b] : List UInt8)[1]? = some b from rfl))) ?_
    refine ql_ro rfl (fun w hS => ro_build rfl bld_157_0_1) ?_
    refine ql_eo rfl (eo_alloc ze_157) (trivial) ?_
    have hN := Blk.new { w with drawn := w.drawn + 1 } [u8c 0, u8c 0] 157
    have F1 : Fram none' w (World.alloc { w with drawn := w.drawn + 1 } (.cells [u8c 0, u8c 0].toArray 157)) := (Fram.drew none' w (w.drawn + 1)).thenAlloc
    refine ql_last rfl (so_storeAggB rfl rfl (by simp [Value.oneCell', i32c, u8c, i64c, i8c]) sz_157 rfl (hN) (by simp)) ?_
    have hN2 := hN.set [u8c a, u8c b]
    have F2 : Fram none' w (World.setRow (World.alloc { w with drawn := w.drawn + 1 } (.cells [u8c 0, u8c 0].toArray 157)) w.heap.size [u8c a, u8c b].toArray) := F1.trans' (Fram.set (F := fun q => q = w.heap.size) _ w.heap.size _ (.inl rfl)) (fun q hq hx => absurd hx (by omega))
    refine x_then (hK4 _ _ ?_)
    clear hK4 K4
    refine c_seq (fun K5 hK5 => ?_)
    refine c_seq (fun K6 hK6 => ?_)
    refine gen2 (A := fun w2 => Blk w2.heap w.heap.size [u8c a, u8c b] 157) (B := fun w2 => Fram none' w w2) (C := fun w2 => WC _ _ _ _ w2) hN2 F2 ?_
    clear hN2 F2 hN F1
    intro w2 hN2 F2
    have M2 := M.fram F2 (fun _ _ h => h)
    have hB2 := M2.blk
    have hMa := M2.ma
    have hMo := M2.mo
    have hMk := M2.mkk
    have hA2 : Bk w2.heap va (idsA cls f) := Own.fram hA F2 (fun _ _ h => h)
    have hO2 : Bk w2.heap vo (idsO cls f) := Own.fram hO F2 (fun _ _ h => h)
    have hkf : k2c f = .agg #[u8c a, u8c b] := by rw [hf]; rfl
    refine c_reg ?_ -- region 4 prog.go:132
    refine wl (ro_move rfl) ?_
    refine wl (ro_eqS rfl rfl rfl) ?_
    refine wl_nil (x_then (hK6 _ _ ?_))
    clear hK6 K6
    refine wc_cond rfl (fun hc19 => ?_) (fun hc19 => ?_)
    · try simp only [decide_eq_true_eq, decide_eq_false_iff_not, Bool.not_eq_true', Bool.not_eq_false', Bool.not_eq_eq_eq_not, Bool.not_true, Bool.not_false, beq_iff_eq, bne_iff_ne, ne_eq, beq_eq_false_iff_ne, bne_eq_false_iff_eq, gt_iff_lt, ge_iff_le, Int.not_lt, Int.not_le] at hc19
      have hk0 : key = [] := by simpa using hc19
      have hmt : matchS cls [a, b] key = spS (idsA cls f) := by
        unfold matchS
        rw [matchF_sel, hk0]
        congr 1
        refine selF_congr (fun c hc => ?_)
        have := hits_A (compS_shape (ok.cs c hc)) f
        rw [hf] at this ⊢
        exact this
      rw [hmt]
      refine c_seq (fun K7 hK7 => ?_)
      refine c_pi [(0, false), (1, false), (2, false), (3, false), (4, false), (5, false), (6, true), (7, false)] (fun w' => Blk w'.heap pb [VC, .map (some (ra.getD 0 0)), .map (some (ra.getD 1 0)), .map (some (ra.getD 2 0))] 74 ∧ Blk w'.heap w.heap.size [u8c a, u8c b] 157 ∧ MapAt k2c w'.heap (ra.getD 0 0) la) mixed (by kernel_rfl) rfl (by kernel_rfl) (po_then (po_then (po_bp))) (⟨hB2, hN2, hMa⟩) ?_ -- region 5 prog.go:133
      refine pi_ro rfl (fun w hS => ro_move rfl) ?_
      refine pi_ro rfl (fun w hS => ro_nilCheck rfl) ?_
      refine pi_ro rfl (fun w hS => ro_fieldAddr (k := 1) rfl fo_74_1) ?_
      refine pi_ro rfl (fun w hS => ro_loadB rfl sc_70 (hS.1) rfl) ?_
      refine pi_ro rfl (fun w hS => ro_loadAggB rfl ag_157 (hS.2.1) rfl rfl) ?_
      refine pi_ro rfl (fun w hS => (show RO _ _ _ _ _ va from hva ▸ ro_lookup1 (kv := k2c) (a := f) (l := la) keyP rfl (by rw [hkf]; rfl) mp_70 zr_159 hS.2.2)) ?_
      refine pi_call rfl rfl en_110 (spell110 (w := { w2 with drawn := w2.drawn + 1 }) hA2 hsA.1 hsA.2) ?_
      rintro _ w3 ⟨rfl, F3⟩
      refine ⟨⟨Blk.fram (w := { w2 with drawn := w2.drawn + 1 }) hB2 F3 (fun h => h), Blk.fram (w := { w2 with drawn := w2.drawn + 1 }) hN2 F3 (fun h => h), MapAt.fram (w := { w2 with drawn := w2.drawn + 1 }) hMa F3 (fun h => h)⟩, ?_⟩
      refine pi_ro rfl (fun w hS => ro_assign rfl) ?_
      refine pi_nil (x_then (hK7 _ _ ?_))
      clear hK7 K7
      refine c_ret (x_thenR ?_)
      refine bp_ret Tryz.results74 rfl ?_
      exact ⟨rfl, F2.trans ((Fram.drew none' w2 (w2.drawn + 1)).trans F3)⟩
    · try simp only [decide_eq_true_eq, decide_eq_false_iff_not, Bool.not_eq_true', Bool.not_eq_false', Bool.not_eq_eq_eq_not, Bool.not_true, Bool.not_false, beq_iff_eq, bne_iff_ne, ne_eq, beq_eq_false_iff_ne, bne_eq_false_iff_eq, gt_iff_lt, ge_iff_le, Int.not_lt, Int.not_le] at hc19
      have hk0 : key ≠ [] := by simpa using hc19
      refine c_skip (x_then (hK5 _ _ ?_))
      clear hK5 K5
      refine c_seq (fun K8 hK8 => ?_)
      refine c_seq (fun K9 hK9 => ?_)
      by_cases hk2 : key.length = 2
      · skip
        obtain ⟨c, d, rfl⟩ : ∃ c d, key = [c, d] := by
          match key, hk2 with
          | [c, d], _ => exact ⟨c, d, rfl⟩
        obtain ⟨k4, hk4⟩ : ∃ k4 : (UInt8 × UInt8) × (UInt8 × UInt8), k4 = (f, (c, d)) := ⟨_, rfl⟩
        have hk4v : k4c k4 = .agg #[u8c a, u8c b, u8c c, u8c d] := by rw [hk4, hf]; rfl
        obtain ⟨ok4, hok4⟩ : ∃ o, o = lookV lk k4 := ⟨_, rfl⟩
        refine c_reg ?_ -- region 6 prog.go:135
        refine wl (ro_move rfl) ?_
        refine wl (ro_lenS rfl st_9) ?_
        refine wl (ro_cmp (r := true) rfl rfl (by simp [hk2])) ?_
        refine wl_nil (x_then (hK9 _ _ ?_))
        clear hK9 K9
        refine wc_condT rfl ?_
        refine c_seq (fun K10 hK10 => ?_)
        refine c_pi [(0, false), (1, false), (2, false), (3, false), (4, false), (5, false), (6, false), (7, false), (8, false), (9, false), (10, false), (11, false), (12, false), (13, false), (14, false), (15, false), (16, false)] (SameH w2.heap) mixed (by kernel_rfl) rfl (by kernel_rfl) (po_then (po_then (po_bp))) (rfl) ?_ -- region 7 prog.go:136
        refine pi_ro rfl (fun w hS => ro_move rfl) ?_
        refine pi_ro rfl (fun w hS => ro_nilCheck rfl) ?_
        refine pi_ro rfl (fun w hS => ro_fieldAddr (k := 3) rfl fo_74_3) ?_
        refine pi_ro rfl (fun w hS => ro_loadB rfl sc_71 (Blk.of_heap hB2 hS) rfl) ?_
        refine pi_ro rfl (fun w hS => ro_loadAggB rfl ag_157 (Blk.of_heap hN2 hS) rfl rfl) ?_
        refine pi_ro rfl (fun w hS => ro_move rfl) ?_
        refine pi_ro rfl (fun w hS => ro_indexS rfl rfl st_9 (rfl) ((show ([c, d] : List UInt8)[0]? = some c from rfl))) ?_
        refine pi_ro rfl (fun w hS => ro_move rfl) ?_
        refine pi_ro rfl (fun w hS => ro_indexS rfl rfl st_9 (rfl) ((show ([c, d] : List UInt8)[1]? = some d from rfl))) ?_
        refine pi_ro rfl (fun w hS => ro_build rfl bld_157_0_1) ?_
        refine pi_ro rfl (fun w hS => ro_build rfl bld_163_0_1) ?_
        refine pi_ro rfl (fun w hS => (show RO _ _ _ _ _ (.tuple #[ok4.getD (.slice none 0 0), .bool ok4.isSome]) from hok4 ▸ ro_lookup2 (kv := k4c) (a := k4) (l := lk) keyF rfl (by rw [hk4v]; rfl) mp_71 zr_159 (hMk.of_heap hS))) ?_
        refine pi_ro rfl (fun w hS => ro_move rfl) ?_
        refine pi_ro rfl (fun w hS => ro_extract rfl rfl) ?_
        refine pi_ro rfl (fun w hS => ro_extract rfl rfl) ?_
        refine pi_ro rfl (fun w hS => ro_assign rfl) ?_
        refine pi_ro rfl (fun w hS => ro_assign rfl) ?_
        refine gen3 (A := fun w2 => Blk w2.heap w.heap.size [u8c a, u8c b] 157) (B := fun w2 => Fram none' w w2) (D := fun w2 => PrM w2.heap pb cls VC clbs ra la lo lk F) (C := fun w2 => WP _ _ _ _ _ _ w2) hN2 (F2.trans (Fram.drew none' w2 (w2.drawn + 1))) M2 ?_
        clear hN2 F2 M2 hB2 hMa hMo hMk hA2 hO2
        intro w2 hN2 F2 M2
        have hB2 := M2.blk
        have hMo := M2.mo
        have hO2 : Bk w2.heap vo (idsO cls f) := Own.fram hO F2 (fun _ _ h => h)
        refine pi_nil (x_then (hK10 _ _ ?_))
        clear hK10 K10
        refine forget [(0, _), (7, _), (8, _), (9, _)] ⟨rfl, rfl, rfl, rfl, trivial⟩ (fun e => ?_)
        refine c_seq (fun K11 hK11 => ?_)
        refine c_reg ?_ -- region 8 prog.go:137
        refine wl (ro_move rfl) ?_
        refine wl_nil (x_then (hK11 _ _ ?_))
        clear hK11 K11
        refine wc_cond rfl (fun hc45 => ?_) (fun hc45 => ?_)
        · try simp only [decide_eq_true_eq, decide_eq_false_iff_not, Bool.not_eq_true', Bool.not_eq_false', Bool.not_eq_eq_eq_not, Bool.not_true, Bool.not_false, beq_iff_eq, bne_iff_ne, ne_eq, beq_eq_false_iff_ne, bne_eq_false_iff_eq, gt_iff_lt, ge_iff_le, Int.not_lt, Int.not_le] at hc45
          obtain ⟨vk, hvk⟩ : ∃ vk, ok4 = some vk := by
            cases hx : ok4 with
            | none => rw [hx] at hc45; cases hc45
            | some v => exact ⟨v, rfl⟩
          have hK2 := M2.getK (k := k4) (v := vk) (by rw [← hok4]; exact hvk)
          have hsK := sel_small h8 (fun c => decide (prd2 c = k4.1) && (decide (own2 c = none) || decide (own2 c = some k4.2)))
          have hmt : matchS cls [a, b] [c, d] = spS (idsK cls k4) := by
            unfold matchS
            rw [matchF_sel]
            congr 1
            refine selF_congr (fun q hq => ?_)
            have := hits_K (compS_shape (ok.cs q hq)) k4
            rw [hk4, hf] at this ⊢
            exact this
          rw [hmt, hvk]
          refine c_seq (fun K12 hK12 => ?_)
          refine c_reg ?_ -- region 9 prog.go:138
          refine wl (ro_move rfl) ?_
          refine wl_call rfl en_110 (spell110 hK2 hsK.1 hsK.2) ?_
          rintro _ w3 ⟨rfl, F3⟩
          refine wl (ro_assign rfl) ?_
          refine wl_nil (x_then (hK12 _ _ ?_))
          clear hK12 K12
          refine c_ret (x_thenR ?_)
          refine bp_ret Tryz.results74 rfl ?_
          exact ⟨rfl, F2.trans F3⟩
        · try simp only [decide_eq_true_eq, decide_eq_false_iff_not, Bool.not_eq_true', Bool.not_eq_false', Bool.not_eq_eq_eq_not, Bool.not_true, Bool.not_false, beq_iff_eq, bne_iff_ne, ne_eq, beq_eq_false_iff_ne, bne_eq_false_iff_eq, gt_iff_lt, ge_iff_le, Int.not_lt, Int.not_le] at hc45
          have hvk : ok4 = none := by
            cases hx : ok4 with
            | none => rfl
            | some v => rw [hx] at hc45; cases hc45
          have hmt : matchS cls [a, b] [c, d] = spS (idsO cls f) := by
            have := match_O ok f hk0 (fun g hg q hq => ?_)
            · rw [hf] at this ⊢
              exact this
            · have := M2.kk k4 (lookV_none (by rw [← hok4]; exact hvk)) q hq
              rw [hk4] at this
              simp only [List.cons.injEq, and_true] at hg
              obtain ⟨g1, g2⟩ := g
              obtain ⟨rfl, rfl⟩ := hg
              exact this
          refine c_skip (x_then (hK8 _ _ ?_))
          clear hK8 K8
          refine forget [(0, _), (7, _)] ⟨rfl, rfl, trivial⟩ (fun e => ?_)
          refine c_seq (fun K13 hK13 => ?_)
          refine c_pi [(0, false), (1, false), (2, false), (3, false), (4, false), (5, false), (6, true), (7, false)] (fun w' => Blk w'.heap pb [VC, .map (some (ra.getD 0 0)), .map (some (ra.getD 1 0)), .map (some (ra.getD 2 0))] 74 ∧ Blk w'.heap w.heap.size [u8c a, u8c b] 157 ∧ MapAt k2c w'.heap (ra.getD 1 0) lo) mixed (by kernel_rfl) rfl (by kernel_rfl) (po_then (po_bp)) (⟨hB2, hN2, hMo⟩) ?_ -- region 10 prog.go:141
          refine pi_ro rfl (fun w hS => ro_move rfl) ?_
          refine pi_ro rfl (fun w hS => ro_nilCheck rfl) ?_
          refine pi_ro rfl (fun w hS => ro_fieldAddr (k := 2) rfl fo_74_2) ?_
          refine pi_ro rfl (fun w hS => ro_loadB rfl sc_70 (hS.1) rfl) ?_
          refine pi_ro rfl (fun w hS => ro_loadAggB rfl ag_157 (hS.2.1) rfl rfl) ?_
          refine pi_ro rfl (fun w hS => (show RO _ _ _ _ _ vo from hvo ▸ ro_lookup1 (kv := k2c) (a := f) (l := lo) keyP rfl (by rw [hkf]; rfl) mp_70 zr_159 hS.2.2)) ?_
          refine pi_call rfl rfl en_110 (spell110 (w := { w2 with drawn := w2.drawn + 1 }) hO2 hsO.1 hsO.2) ?_
          rintro _ w3 ⟨rfl, F3⟩
          refine ⟨⟨Blk.fram (w := { w2 with drawn := w2.drawn + 1 }) hB2 F3 (fun h => h), Blk.fram (w := { w2 with drawn := w2.drawn + 1 }) hN2 F3 (fun h => h), MapAt.fram (w := { w2 with drawn := w2.drawn + 1 }) hMo F3 (fun h => h)⟩, ?_⟩
          refine pi_ro rfl (fun w hS => ro_assign rfl) ?_
          refine pi_nil (x_then (hK13 _ _ ?_))
          clear hK13 K13
          refine c_ret ?_
          refine bp_ret Tryz.results74 rfl ?_
          exact ⟨by rw [hmt], F2.trans ((Fram.drew none' w2 (w2.drawn + 1)).trans F3)⟩
      · skip
        have hmt : matchS cls [a, b] key = spS (idsO cls f) := by
          have := match_O ok f hk0 (fun g hg => absurd (by rw [hg]; rfl) hk2)
          rw [hf] at this ⊢
          exact this
        refine c_reg ?_ -- region 6 prog.go:135
        refine wl (ro_move rfl) ?_
        refine wl (ro_lenS rfl st_9) ?_
        refine wl (ro_cmp (r := false) rfl rfl (by simp; omega)) ?_
        refine wl_nil (x_then (hK9 _ _ ?_))
        clear hK9 K9
        refine wc_condF rfl ?_
        refine c_skip (x_then (hK8 _ _ ?_))
        clear hK8 K8
        refine forget [(0, _), (7, _)] ⟨rfl, rfl, trivial⟩ (fun e => ?_)
        refine c_seq (fun K14 hK14 => ?_)
        refine c_pi [(0, false), (1, false), (2, false), (3, false), (4, false), (5, false), (6, true), (7, false)] (fun w' => Blk w'.heap pb [VC, .map (some (ra.getD 0 0)), .map (some (ra.getD 1 0)), .map (some (ra.getD 2 0))] 74 ∧ Blk w'.heap w.heap.size [u8c a, u8c b] 157 ∧ MapAt k2c w'.heap (ra.getD 1 0) lo) mixed (by kernel_rfl) rfl (by kernel_rfl) (po_then (po_bp)) (⟨hB2, hN2, hMo⟩) ?_ -- region 10 prog.go:141
        refine pi_ro rfl (fun w hS => ro_move rfl) ?_
        refine pi_ro rfl (fun w hS => ro_nilCheck rfl) ?_
        refine pi_ro rfl (fun w hS => ro_fieldAddr (k := 2) rfl fo_74_2) ?_
        refine pi_ro rfl (fun w hS => ro_loadB rfl sc_70 (hS.1) rfl) ?_
        refine pi_ro rfl (fun w hS => ro_loadAggB rfl ag_157 (hS.2.1) rfl rfl) ?_
        refine pi_ro rfl (fun w hS => (show RO _ _ _ _ _ vo from hvo ▸ ro_lookup1 (kv := k2c) (a := f) (l := lo) keyP rfl (by rw [hkf]; rfl) mp_70 zr_159 hS.2.2)) ?_
        refine pi_call rfl rfl en_110 (spell110 (w := { w2 with drawn := w2.drawn + 1 }) hO2 hsO.1 hsO.2) ?_
        rintro _ w3 ⟨rfl, F3⟩
        refine ⟨⟨Blk.fram (w := { w2 with drawn := w2.drawn + 1 }) hB2 F3 (fun h => h), Blk.fram (w := { w2 with drawn := w2.drawn + 1 }) hN2 F3 (fun h => h), MapAt.fram (w := { w2 with drawn := w2.drawn + 1 }) hMo F3 (fun h => h)⟩, ?_⟩
        refine pi_ro rfl (fun w hS => ro_assign rfl) ?_
        refine pi_nil (x_then (hK14 _ _ ?_))
        clear hK14 K14
        refine c_ret ?_
        refine bp_ret Tryz.results74 rfl ?_
        exact ⟨by rw [hmt], F2.trans ((Fram.drew none' w2 (w2.drawn + 1)).trans F3)⟩
  · have hm : matchS cls pred key = [] := by
      unfold matchS
      rw [matchF_sel]
      have : selF (fun c => hits c pred key) 0 cls = selF (fun _ => false) 0 cls := selF_congr (fun c hc => hits_no (compS_shape (ok.cs c hc)) hp2)
      rw [this]
      have : ∀ (l : List Cl2) (i : Nat), selF (fun _ => false) i l = [] := by
        intro l
        induction l with
        | nil => intro i; rfl
        | cons c l ih => intro i; simp only [selF, Bool.false_eq_true, if_false, ih]
      rw [this]; rfl
    rw [hm]
    refine ret_of Tryz.func74 rfl Tryz.ntmps74 rfl ?_
    refine c_seq (fun K1 hK1 => ?_)
    refine c_reg ?_ -- region 0 prog.go:127
    refine wl (ro_assign rfl) ?_
    refine wl_nil (x_then (hK1 _ _ ?_))
    clear hK1 K1
    refine c_seq (fun K2 hK2 => ?_)
    refine c_seq (fun K3 hK3 => ?_)
    refine c_reg ?_ -- region 1 prog.go:128
    refine wl (ro_move rfl) ?_
    refine wl (ro_lenS rfl st_9) ?_
    refine wl (ro_cmp (r := true) rfl rfl (by simp; omega)) ?_
    refine wl_nil (x_then (hK3 _ _ ?_))
    clear hK3 K3
    refine wc_condT rfl ?_
    refine c_seq (fun K4 hK4 => ?_)
    refine c_reg ?_ -- region 2 prog.go:129
    refine wl (ro_assign rfl) ?_
    refine wl_nil (x_then (hK4 _ _ ?_))
    clear hK4 K4
    refine c_ret (x_thenR ?_)
    refine bp_ret Tryz.results74 rfl ?_
    exact ⟨rfl, Fram.refl _ _⟩

end Go.Proofs.Qxb6500569aGreat
