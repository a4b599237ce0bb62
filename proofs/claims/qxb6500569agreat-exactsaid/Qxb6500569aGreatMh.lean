import Derived.Test.Qxb6500569aGreatMg
/- The model heap: Clone, Unify. -/
namespace Go.Proofs.Qxb6500569aGreat
set_option linter.unusedVariables false
set_option linter.unusedSimpArgs false

theorem eo_appNil {P : Program} {n : Nat} {e : Nat → Option Value} {w : World} {t et k : Nat} {x y : Operand} (hx : evO n e x = some (.slice none 0 0)) (hy : evO n e y = some (.slice none 0 0)) (ht : selB P t et k = true) :
    EO P n e w (.call ⟨.builtin .append, #[x, y], #[t, t]⟩) (.slice none 0 0) w := by
  intro ds dst ty ps af g
  obtain ⟨t1, ts⟩ := selB_spec ht
  simp [execOp, resolve, evO_eval hx, evO_eval hy, invoke, builtin, Builtin.append_, run_underlying t1, run_sizeOf ts, Builtin.lenOf, Builtin.firstCells]

theorem ndcs_one (hp : List Nd) : ∀ u ∈ hp.flatMap ndc, u.oneCell' = true := by
  intro u hu
  obtain ⟨nd, _, h⟩ := List.mem_flatMap.1 hu
  simp only [ndc, List.cons_append, List.nil_append, List.mem_cons, List.mem_map] at h
  rcases h with rfl | rfl | ⟨k, _, rfl⟩ <;> rfl

theorem Clone67 {w : World} {hb : Nat} {V : Value} {hp : List Nd} (M : MH w.heap hb V hp) (hpos : 0 < hp.length) (h64 : hp.length ≤ 64) :
    Ret Tryz.prog 67 [ptr hb] w (fun r w' => ∃ V', r = ptr w.heap.size ∧ MH w'.heap w.heap.size V' hp ∧ (∀ b, V'.ownBlock = some b → w.heap.size < b) ∧ Fram none' w w') := by
  obtain ⟨g, cap, l, rfl, hBl, hc1, hc2, hl1, hl2⟩ := M.own.pos hpos
  have hlen := ndcs_len M.a4
  refine ret_of Tryz.func67 rfl Tryz.ntmps67 rfl ?_
  refine c_seq (fun K1 hK1 => ?_)
  refine c_reg ?_ -- region 0 heapm.go:22
  refine wl (ro_assign rfl) ?_
  refine wl_nil (x_then (hK1 _ _ ?_))
  clear hK1 K1
  refine forget [(0, _)] ⟨rfl, trivial⟩ (fun e => ?_)
  refine c_seq (fun K2 hK2 => ?_)
  refine c_reg ?_ -- region 1 heapm.go:23
  refine wl (ro_build rfl bld_121) ?_
  refine wle (eo_box rfl rfl) ?_
  have C1 := Blk.new w [Value.slice none 0 0, .slice none 0 0, .slice none 0 0] 121
  have M1 := M.none (Fram.alloc none' w (.cells [Value.slice none 0 0, .slice none 0 0, .slice none 0 0].toArray 121))
  have B1 := hBl.alloc (.cells [Value.slice none 0 0, .slice none 0 0, .slice none 0 0].toArray 121)
  have F1 := Fram.alloc none' w (.cells [Value.slice none 0 0, .slice none 0 0, .slice none 0 0].toArray 121)
  have hne : hb ≠ w.heap.size := by have := M.blk.lt; omega
  refine gen3 (A := fun w1 => Blk w1.heap w.heap.size [Value.slice none 0 0, .slice none 0 0, .slice none 0 0] 121) (B := fun w1 => MH w1.heap hb (.slice (some ⟨g, 0, none⟩) hp.length cap) hp ∧ Blk w1.heap g l 184) (D := fun w1 => Fram none' w w1 ∧ w.heap.size < w1.heap.size) (C := fun w1 => WL _ _ _ _ _ w1) C1 ⟨M1, B1⟩ ⟨F1, by simp⟩ ?_
  clear C1 M1 B1 F1 M hBl
  rintro w1 C1 ⟨M1, B1⟩ ⟨F1, hs1⟩
  have hB := M1.blk
  refine wl (ro_assign rfl) ?_
  refine wl_nil (x_then (hK2 _ _ ?_))
  clear hK2 K2
  refine forget [(0, _), (3, _)] ⟨rfl, rfl, trivial⟩ (fun e => ?_)
  refine c_seq (fun K3 hK3 => ?_)
  refine c_piL 12 [(0, false), (1, false), (2, false), (3, false), (4, false), (5, false), (6, false), (7, false), (8, false), (9, true), (10, false), (11, false)] (fun w' => Blk w'.heap w.heap.size [Value.slice none 0 0, .slice none 0 0, .slice none 0 0] 121 ∧ Blk w'.heap hb [.slice (some ⟨g, 0, none⟩) hp.length cap, .slice none 0 0, .slice none 0 0] 121) mixed (by kernel_rfl) rfl (by kernel_rfl) (po_then (po_bp)) (⟨C1, hB⟩) ?_ -- region 2 heapm.go:24
  refine ql_ro rfl (fun w hS => ro_move rfl) ?_
  refine ql_ro rfl (fun w hS => ro_move rfl) ?_
  refine ql_ro rfl (fun w hS => ro_nilCheck rfl) ?_
  refine ql_ro rfl (fun w hS => ro_fieldAddr (k := 0) rfl fo_121_0) ?_
  refine ql_ro rfl (fun w hS => ro_loadB rfl sc_118 (hS.1) rfl) ?_
  refine ql_ro rfl (fun w hS => ro_move rfl) ?_
  refine ql_ro rfl (fun w hS => ro_nilCheck rfl) ?_
  refine ql_ro rfl (fun w hS => ro_fieldAddr (k := 0) rfl fo_121_0) ?_
  refine ql_ro rfl (fun w hS => ro_loadB rfl sc_118 (hS.2) rfl) ?_
  refine ql_app (news := hp.flatMap ndc) (w := { w1 with drawn := w1.drawn + 1 }) rfl rfl rfl se_118 zx_184 by_184 rfl (Own.nil _ _ _) B1 (by rw [List.drop_zero]; exact hl2) hlen (ndcs_one hp) (by omega) (by omega) ?_
  intro V3 w3 hown hgr hloc
  obtain ⟨a3, cap3, rfl⟩ := hown.form
  have FF : Fram none' w1 w3 := ((Fram.drew none' w1 (w1.drawn + 1))).thenGrown hgr (fun b hb' => by cases hb')
  have hloc' : ∀ b, (Value.slice a3 (0 + hp.length) cap3).ownBlock = some b → w.heap.size < b := by
    intro b hb'
    rcases hloc with h | h
    · rw [h] at hb'; cases hb'
    · rw [h] at hb'; cases hb'; exact hs1
  have C3 := C1.fram FF (fun h => h)
  have hB3 := hB.fram FF (fun h => h)
  refine ⟨⟨C3, hB3⟩, ?_⟩
  refine ql_ro rfl (fun w hS => ro_nilCheck rfl) ?_
  refine ql_ro rfl (fun w hS => ro_fieldAddr (k := 0) rfl fo_121_0) ?_
  refine ql_last rfl (so_storeB rfl rfl rfl sz_118 (C3) (by simp)) ?_
  have F4 : Fram none' w _ := (F1.trans FF).thenSet (b := w.heap.size) (cs := [Value.slice a3 (0 + hp.length) cap3, .slice none 0 0, .slice none 0 0].toArray) (.inr (Nat.le_refl _))
  have C4 := C3.set [Value.slice a3 (0 + hp.length) cap3, .slice none 0 0, .slice none 0 0]
  have FS : Fram (fun b => b = w.heap.size) w3 _ := Fram.set w3 w.heap.size [Value.slice a3 (0 + hp.length) cap3, .slice none 0 0, .slice none 0 0].toArray (.inl rfl)
  have O4 := hown.fram FS (fun b hb' he => by have := hloc' b hb'; omega)
  have hB4 := hB3.fram FS hne
  refine x_then (hK3 _ _ ?_)
  clear hK3 K3
  refine forget [(0, _), (3, _)] ⟨rfl, rfl, trivial⟩ (fun e => ?_)
  refine c_seq (fun K4 hK4 => ?_)
  refine gen3 (A := fun w1 => Blk w1.heap w.heap.size [Value.slice a3 (0 + hp.length) cap3, .slice none 0 0, .slice none 0 0] 121 ∧ Blk w1.heap hb [.slice (some ⟨g, 0, none⟩) hp.length cap, .slice none 0 0, .slice none 0 0] 121) (B := fun w1 => Own w1.heap (.slice a3 (0 + hp.length) cap3) 184 6 (0 + hp.length) ([] ++ hp.flatMap ndc)) (D := fun w1 => Fram none' w w1) (C := fun w1 => WC _ _ _ _ w1) ⟨C4, hB4⟩ O4 F4 ?_
  have a4 := M1.a4
  clear C4 hB4 O4 F4 FS C3 hB3 FF hown hgr hloc C1 M1 B1 F1 hs1 hB
  rintro w4 ⟨C4, hB4⟩ O4 F4
  refine c_piL 12 [(0, false), (1, false), (2, false), (3, false), (4, false), (5, false), (6, false), (7, false), (8, false), (9, true), (10, false), (11, false)] (fun w' => Blk w'.heap w.heap.size [Value.slice a3 (0 + hp.length) cap3, .slice none 0 0, .slice none 0 0] 121 ∧ Blk w'.heap hb [.slice (some ⟨g, 0, none⟩) hp.length cap, .slice none 0 0, .slice none 0 0] 121) mixed (by kernel_rfl) rfl (by kernel_rfl) (po_then (po_bp)) (⟨C4, hB4⟩) ?_ -- region 3 heapm.go:25
  refine ql_ro rfl (fun w hS => ro_move rfl) ?_
  refine ql_ro rfl (fun w hS => ro_move rfl) ?_
  refine ql_ro rfl (fun w hS => ro_nilCheck rfl) ?_
  refine ql_ro rfl (fun w hS => ro_fieldAddr (k := 1) rfl fo_121_1) ?_
  refine ql_ro rfl (fun w hS => ro_loadB rfl sc_118 (hS.1) rfl) ?_
  refine ql_ro rfl (fun w hS => ro_move rfl) ?_
  refine ql_ro rfl (fun w hS => ro_nilCheck rfl) ?_
  refine ql_ro rfl (fun w hS => ro_fieldAddr (k := 1) rfl fo_121_1) ?_
  refine ql_ro rfl (fun w hS => ro_loadB rfl sc_118 (hS.2) rfl) ?_
  refine ql_eo rfl (eo_appNil rfl rfl se_118) ⟨C4, hB4⟩ ?_
  skip
  refine ql_ro rfl (fun w hS => ro_nilCheck rfl) ?_
  refine ql_ro rfl (fun w hS => ro_fieldAddr (k := 1) rfl fo_121_1) ?_
  refine ql_last rfl (so_storeB rfl rfl rfl sz_118 (C4) (by simp)) ?_
  have C5 := C4.set (w := { w4 with drawn := w4.drawn + 1 }) [Value.slice a3 (0 + hp.length) cap3, .slice none 0 0, .slice none 0 0]
  have FS : Fram (fun b => b = w.heap.size) w4 _ := (Fram.drew (fun b => b = w.heap.size) w4 (w4.drawn + 1)).thenSet (b := w.heap.size) (cs := [Value.slice a3 (0 + hp.length) cap3, .slice none 0 0, .slice none 0 0].toArray) (.inl rfl)
  have O5 := O4.fram FS (fun b hb' he => by have := hloc' b hb'; omega)
  have hB5 := hB4.fram FS hne
  have F5 : Fram none' w _ := F4.trans' FS (fun k hk he => by omega)
  refine x_then (hK4 _ _ ?_)
  clear hK4 K4
  refine forget [(0, _), (3, _)] ⟨rfl, rfl, trivial⟩ (fun e => ?_)
  refine c_seq (fun K5 hK5 => ?_)
  refine gen3 (A := fun w1 => Blk w1.heap w.heap.size [Value.slice a3 (0 + hp.length) cap3, .slice none 0 0, .slice none 0 0] 121 ∧ Blk w1.heap hb [.slice (some ⟨g, 0, none⟩) hp.length cap, .slice none 0 0, .slice none 0 0] 121) (B := fun w1 => Own w1.heap (.slice a3 (0 + hp.length) cap3) 184 6 (0 + hp.length) ([] ++ hp.flatMap ndc)) (D := fun w1 => Fram none' w w1) (C := fun w1 => WC _ _ _ _ w1) ⟨C5, hB5⟩ O5 F5 ?_
  clear C4 hB4 O4 F4 FS C5 hB5 O5 F5
  rintro w5 ⟨C5, hB5⟩ O5 F5
  refine c_piL 12 [(0, false), (1, false), (2, false), (3, false), (4, false), (5, false), (6, false), (7, false), (8, false), (9, true), (10, false), (11, false)] (fun w' => Blk w'.heap w.heap.size [Value.slice a3 (0 + hp.length) cap3, .slice none 0 0, .slice none 0 0] 121 ∧ Blk w'.heap hb [.slice (some ⟨g, 0, none⟩) hp.length cap, .slice none 0 0, .slice none 0 0] 121) mixed (by kernel_rfl) rfl (by kernel_rfl) (po_then (po_bp)) (⟨C5, hB5⟩) ?_ -- region 4 heapm.go:26
  refine ql_ro rfl (fun w hS => ro_move rfl) ?_
  refine ql_ro rfl (fun w hS => ro_move rfl) ?_
  refine ql_ro rfl (fun w hS => ro_nilCheck rfl) ?_
  refine ql_ro rfl (fun w hS => ro_fieldAddr (k := 2) rfl fo_121_2) ?_
  refine ql_ro rfl (fun w hS => ro_loadB rfl sc_119 (hS.1) rfl) ?_
  refine ql_ro rfl (fun w hS => ro_move rfl) ?_
  refine ql_ro rfl (fun w hS => ro_nilCheck rfl) ?_
  refine ql_ro rfl (fun w hS => ro_fieldAddr (k := 2) rfl fo_121_2) ?_
  refine ql_ro rfl (fun w hS => ro_loadB rfl sc_119 (hS.2) rfl) ?_
  refine ql_eo rfl (eo_appNil rfl rfl se_119) ⟨C5, hB5⟩ ?_
  skip
  refine ql_ro rfl (fun w hS => ro_nilCheck rfl) ?_
  refine ql_ro rfl (fun w hS => ro_fieldAddr (k := 2) rfl fo_121_2) ?_
  refine ql_last rfl (so_storeB rfl rfl rfl sz_119 (C5) (by simp)) ?_
  have C6 := C5.set (w := { w5 with drawn := w5.drawn + 1 }) [Value.slice a3 (0 + hp.length) cap3, .slice none 0 0, .slice none 0 0]
  have FS : Fram (fun b => b = w.heap.size) w5 _ := (Fram.drew (fun b => b = w.heap.size) w5 (w5.drawn + 1)).thenSet (b := w.heap.size) (cs := [Value.slice a3 (0 + hp.length) cap3, .slice none 0 0, .slice none 0 0].toArray) (.inl rfl)
  have O6 := O5.fram FS (fun b hb' he => by have := hloc' b hb'; omega)
  have F6 : Fram none' w _ := F5.trans' FS (fun k hk he => by omega)
  refine x_then (hK5 _ _ ?_)
  clear hK5 K5
  refine forget [(3, _)] ⟨rfl, trivial⟩ (fun e => ?_)
  refine c_seq (fun K6 hK6 => ?_)
  refine c_reg ?_ -- region 5 heapm.go:27
  refine wl (ro_move rfl) ?_
  refine wl (ro_assign rfl) ?_
  refine wl_nil (x_then (hK6 _ _ ?_))
  clear hK6 K6
  refine c_ret ?_
  refine bp_ret Tryz.results67 rfl ?_
  refine ⟨_, rfl, ⟨C6, ?_, a4⟩, hloc', F6⟩
  simpa using O6

def MUniPost (hb : Nat) (V : Value) (hp : List Nd) (a b : Nat) (w : World) (r : Value) (w' : World) : Prop :=
  ∃ V', (∀ b, V'.ownBlock = some b → V.ownBlock = some b ∨ w.heap.size ≤ b) ∧ Fram (MFoot hb V) w w' ∧
    (if (uniS [(a, b)] hp 0).2.1 = 0 then r = .tuple #[i64c (uniS [(a, b)] hp 0).1, i64c 0] ∧ MH w'.heap hb V' (uniS [(a, b)] hp 0).2.2
      else r = .tuple #[i64c 0, i64c (uniS [(a, b)] hp 0).2.1] ∧ MH w'.heap hb V' hp)

theorem Unify68 {w : World} {hb : Nat} {V : Value} {hp : List Nd} (M : MH w.heap hb V hp) (hok : HOK hp) {a b : Nat} (ha : a < hp.length) (hbb : b < hp.length) :
    Ret Tryz.prog 68 [ptr hb, i64c a, i64c b] w (MUniPost hb V hp a b w) := by
  have h64 := hok.cap
  obtain ⟨g, cap, l, rfl, hBl, hc1, hc2, hl1, hl2⟩ := M.own.pos (by omega)
  have hlen := ndcs_len M.a4
  have hB := M.blk
  refine ret_of Tryz.func68 rfl Tryz.ntmps68 rfl ?_
  refine c_seq (fun K1 hK1 => ?_)
  refine c_reg ?_ -- region 0 heapm.go:146
  refine wl (ro_assign rfl) ?_
  refine wl (ro_assign rfl) ?_
  refine wl_nil (x_then (hK1 _ _ ?_))
  clear hK1 K1
  refine c_seq (fun K2 hK2 => ?_)
  refine c_seq (fun K3 hK3 => ?_)
  refine c_reg ?_ -- region 1 heapm.go:147
  refine wl (ro_move rfl) ?_
  refine wl (ro_cmp (r := false) rfl rfl (by simp)) ?_
  refine wl (ro_move rfl) ?_
  refine wlg_yes rfl (ro_move rfl) ?_
  refine wlg_yes rfl (ro_move rfl) ?_
  refine wlg_yes rfl (ro_nilCheck rfl) ?_
  refine wlg_yes rfl (ro_fieldAddr (k := 0) rfl fo_121_0) ?_
  refine wlg_yes rfl (ro_loadB rfl sc_118 (by assumption) rfl) ?_
  refine wlg_yes rfl (ro_lenL rfl se_118) ?_
  refine wlg_yes rfl (ro_cmp (r := false) rfl rfl (by simp; omega)) ?_
  refine wl (ro_pick rfl rfl rfl) ?_
  refine wl (ro_move rfl) ?_
  refine wlg_yes rfl (ro_move rfl) ?_
  refine wlg_yes rfl (ro_cmp (r := false) rfl rfl (by simp)) ?_
  refine wl (ro_pick rfl rfl rfl) ?_
  refine wl (ro_move rfl) ?_
  refine wlg_yes rfl (ro_move rfl) ?_
  refine wlg_yes rfl (ro_move rfl) ?_
  refine wlg_yes rfl (ro_nilCheck rfl) ?_
  refine wlg_yes rfl (ro_fieldAddr (k := 0) rfl fo_121_0) ?_
  refine wlg_yes rfl (ro_loadB rfl sc_118 (by assumption) rfl) ?_
  refine wlg_yes rfl (ro_lenL rfl se_118) ?_
  refine wlg_yes rfl (ro_cmp (r := false) rfl rfl (by simp; omega)) ?_
  refine wl (ro_pick rfl rfl rfl) ?_
  refine wl_nil (x_then (hK3 _ _ ?_))
  clear hK3 K3
  refine wc_condF rfl ?_
  refine c_skip (x_then (hK2 _ _ ?_))
  clear hK2 K2
  refine forget [(0, _), (1, _), (2, _)] ⟨rfl, rfl, rfl, trivial⟩ (fun e => ?_)
  refine c_seq (fun K4 hK4 => ?_)
  refine c_reg ?_ -- region 3 heapm.go:150
  refine wl (ro_assign rfl) ?_
  refine wl_nil (x_then (hK4 _ _ ?_))
  clear hK4 K4
  refine forget [(0, _), (1, _), (2, _), (8, _)] ⟨rfl, rfl, rfl, rfl, trivial⟩ (fun e => ?_)
  refine c_seq (fun K5 hK5 => ?_)
  refine c_reg ?_ -- region 4 heapm.go:151
  refine wl (ro_move rfl) ?_
  refine wl (ro_move rfl) ?_
  refine wl (ro_nilCheck rfl) ?_
  refine wl (ro_fieldAddr (k := 0) rfl fo_121_0) ?_
  refine wl (ro_loadB rfl sc_118 (by assumption) rfl) ?_
  refine wl_app (news := hp.flatMap ndc) rfl rfl se_118 zx_184 by_184 rfl (Own.nil _ _ _) hBl (by rw [List.drop_zero]; exact hl2) hlen (ndcs_one hp) (by omega) (by omega) ?_
  intro V3 w3 hown hgr hloc
  obtain ⟨a3, cap3, rfl⟩ := hown.form
  have F3 : Fram none' w w3 := Fram.grown hgr (fun b hb' => by cases hb')
  have hloc' : ∀ b, (Value.slice a3 (0 + hp.length) cap3).ownBlock = some b → w.heap.size ≤ b := by
    intro b hb'
    rcases hloc with h | h
    · rw [h] at hb'; cases hb'
    · rw [h] at hb'; cases hb'; exact Nat.le_refl _
  have M3 := M.none F3
  refine wl (ro_assign rfl) ?_
  refine wl_nil (x_then (hK5 _ _ ?_))
  clear hK5 K5
  refine forget [(0, _), (1, _), (2, _), (8, _)] ⟨rfl, rfl, rfl, rfl, trivial⟩ (fun e => ?_)
  refine c_seq (fun K6 hK6 => ?_)
  refine c_reg ?_ -- region 5 heapm.go:152
  refine wl (ro_move rfl) ?_
  refine wl (ro_move rfl) ?_
  refine wl (ro_move rfl) ?_
  refine wl_call rfl en_107 (uni107 41 0 a b hp w3 M3 hok (by omega) (by omega) ha hbb) ?_
  rintro _ w4 ⟨hp', m, ec, rfl, M4, hok4, hst4, g1, g2, g3, g4, F4⟩
  have g4 := g4 []
  have F5 : Fram (MFoot hb (.slice (some ⟨g, 0, none⟩) hp.length cap)) w w4 := (F3.mono (fun _ _ h => h.elim)).trans (F4.mono (fun k hk hx => .inr hx))
  have O4 := hown.fram F4 (fun b hb' hx => by have h1 := hloc' b hb'; have h2 := hBl.lt; have h3 : b = g := (by cases hx; rfl); omega)
  refine wl (ro_move rfl) ?_
  refine wl (ro_extract rfl rfl) ?_
  refine wl (ro_extract rfl rfl) ?_
  refine wl (ro_assign rfl) ?_
  refine wl (ro_assign rfl) ?_
  refine wl_nil (x_then (hK6 _ _ ?_))
  clear hK6 K6
  refine c_seq (fun K7 hK7 => ?_)
  refine c_seq (fun K8 hK8 => ?_)
  refine c_reg ?_ -- region 6 heapm.go:153
  refine wl (ro_move rfl) ?_
  refine wl (ro_cmp (r := decide (ec ≠ 0)) rfl rfl (congrArg some (by have := beqc ec 0; simp [bne] at this ⊢; exact this))) ?_
  refine wl_nil (x_then (hK8 _ _ ?_))
  clear hK8 K8
  refine wc_cond rfl (fun hc49 => ?_) (fun hc49 => ?_)
  · try simp only [decide_eq_true_eq, decide_eq_false_iff_not, Bool.not_eq_true', Bool.not_eq_false', Bool.not_eq_eq_eq_not, Bool.not_true, Bool.not_false, beq_iff_eq, bne_iff_ne, ne_eq, beq_eq_false_iff_ne, bne_eq_false_iff_eq, gt_iff_lt, ge_iff_le, Int.not_lt, Int.not_le] at hc49
    have he : ec ≠ 0 := by simpa using hc49
    rw [if_neg he] at g4
    have hB4 := M4.blk
    refine c_seq (fun K9 hK9 => ?_)
    refine c_reg ?_ -- region 7 heapm.go:154
    refine wl (ro_move rfl) ?_
    refine wl (ro_move rfl) ?_
    refine wl (ro_nilCheck rfl) ?_
    refine wl (ro_fieldAddr (k := 0) rfl fo_121_0) ?_
    refine wls (so_storeB rfl rfl rfl sz_118 (hB4) (by simp)) ?_
    have FS : Fram (fun b => b = hb) w4 _ := Fram.set w4 hb [Value.slice a3 (0 + hp.length) cap3, .slice none 0 0, .slice none 0 0].toArray (.inl rfl)
    have O5 := O4.fram FS (fun b hb' hx => by have h1 := hloc' b hb'; have := M.blk.lt; omega)
    have C5 := hB4.set [Value.slice a3 (0 + hp.length) cap3, .slice none 0 0, .slice none 0 0]
    refine wl_nil (x_then (hK9 _ _ ?_))
    clear hK9 K9
    refine forget [(10, _)] ⟨rfl, trivial⟩ (fun e => ?_)
    refine c_seq (fun K10 hK10 => ?_)
    refine c_reg ?_ -- region 8 heapm.go:155
    refine wl (ro_move rfl) ?_
    refine wl (ro_assign rfl) ?_
    refine wl (ro_assign rfl) ?_
    refine wl_nil (x_then (hK10 _ _ ?_))
    clear hK10 K10
    refine c_ret (x_thenR ?_)
    refine bp_ret Tryz.results68 rfl ?_
    refine ⟨_, fun b hb' => .inr (hloc' b hb'), F5.trans (FS.mono (fun k hk hx => .inl hx)), ?_⟩
    rw [g4, if_neg he]
    exact ⟨rfl, C5, by simpa using O5, M.a4⟩
  · try simp only [decide_eq_true_eq, decide_eq_false_iff_not, Bool.not_eq_true', Bool.not_eq_false', Bool.not_eq_eq_eq_not, Bool.not_true, Bool.not_false, beq_iff_eq, bne_iff_ne, ne_eq, beq_eq_false_iff_ne, bne_eq_false_iff_eq, gt_iff_lt, ge_iff_le, Int.not_lt, Int.not_le] at hc49
    have he : ec = 0 := by simpa using hc49
    rw [if_pos he, uniS_nil _ _ (g3 he)] at g4
    refine c_skip (x_then (hK7 _ _ ?_))
    clear hK7 K7
    refine forget [(9, _)] ⟨rfl, trivial⟩ (fun e => ?_)
    refine c_seq (fun K11 hK11 => ?_)
    refine c_reg ?_ -- region 9 heapm.go:157
    refine wl (ro_move rfl) ?_
    refine wl (ro_assign rfl) ?_
    refine wl (ro_assign rfl) ?_
    refine wl_nil (x_then (hK11 _ _ ?_))
    clear hK11 K11
    refine c_ret ?_
    refine bp_ret Tryz.results68 rfl ?_
    refine ⟨_, fun b hb' => .inl hb', F5, ?_⟩
    rw [g4, if_pos rfl]
    exact ⟨rfl, M4⟩

end Go.Proofs.Qxb6500569aGreat
