import Derived.Test.Qxb6500569aGreatSa
/- The real machine's stacks: frames and choices. -/
namespace Go.Proofs.Qxb6500569aGreat
set_option linter.unusedVariables false
set_option linter.unusedSimpArgs false


theorem Len59 {w : World} {sb k t n c : Nat} {l : List Value} {a : Option Addr} (hB : Blk w.heap sb l t) (hk : l[k]? = some (.slice a n c)) :
    Ret Tryz.prog 59 [ptrAt sb k] w (fun r w' => r = i64c n ∧ w' = w) := by
  refine ret_of Tryz.func59 rfl Tryz.ntmps59 rfl ?_
  refine c_seq (fun K1 hK1 => ?_)
  refine c_reg ?_ -- region 0 stack.go:11
  refine wl (ro_assign rfl) ?_
  refine wl_nil (x_then (hK1 _ _ ?_))
  clear hK1 K1
  refine forget [(0, _)] ⟨rfl, trivial⟩ (fun e => ?_)
  refine c_seq (fun K2 hK2 => ?_)
  refine c_reg ?_ -- region 1 stack.go:11
  refine wl (ro_move rfl) ?_
  refine wl (ro_nilCheck rfl) ?_
  refine wl (ro_fieldAddr (k := 0) rfl fo_77_0) ?_
  refine wl (ro_loadB rfl sc_75 (hB) (hk)) ?_
  refine wl (ro_lenL rfl se_75) ?_
  refine wl (ro_assign rfl) ?_
  refine wl_nil (x_then (hK2 _ _ ?_))
  clear hK2 K2
  refine c_ret ?_
  refine bp_ret Tryz.results59 rfl ?_
  exact ⟨rfl, rfl⟩

theorem At70n {w : World} {sb k t n c : Nat} {l : List Value} {a : Option Addr} (hB : Blk w.heap sb l t) (hk : l[k]? = some (.slice a n c)) {i : Int} (hi : i < 0) :
    Ret Tryz.prog 70 [ptrAt sb k, .int .i64 i] w (fun r w' => r = .pointer none ∧ w' = w) := by
  refine ret_of Tryz.func70 rfl Tryz.ntmps70 rfl ?_
  refine c_seq (fun K1 hK1 => ?_)
  refine c_reg ?_ -- region 0 stack.go:29
  refine wl (ro_assign rfl) ?_
  refine wl_nil (x_then (hK1 _ _ ?_))
  clear hK1 K1
  refine c_seq (fun K2 hK2 => ?_)
  refine c_seq (fun K3 hK3 => ?_)
  refine c_reg ?_ -- region 1 stack.go:30
  refine wl (ro_move rfl) ?_
  refine wl (ro_cmp (r := true) rfl rfl (by simp; omega)) ?_
  refine wl (ro_move rfl) ?_
  refine wlg_no rfl ?_
  refine wlg_no rfl ?_
  refine wlg_no rfl ?_
  refine wlg_no rfl ?_
  refine wlg_no rfl ?_
  refine wlg_no rfl ?_
  refine wlg_no rfl ?_
  refine wl (ro_pick rfl rfl rfl) ?_
  refine wl_nil (x_then (hK3 _ _ ?_))
  clear hK3 K3
  refine wc_condT rfl ?_
  refine c_seq (fun K4 hK4 => ?_)
  refine c_reg ?_ -- region 2 stack.go:31
  refine wl (ro_assign rfl) ?_
  refine wl_nil (x_then (hK4 _ _ ?_))
  clear hK4 K4
  refine c_ret (x_thenR ?_)
  refine bp_ret Tryz.results70 rfl ?_
  exact ⟨rfl, rfl⟩

theorem At70 {w : World} {sb k t n c g : Nat} {l : List Value} (hB : Blk w.heap sb l t) (hk : l[k]? = some (.slice (some ⟨g, 0, none⟩) n c)) {i : Nat} (hi : i < n) :
    Ret Tryz.prog 70 [ptrAt sb k, i64c i] w (fun r w' => r = ptrAt g (i * 3) ∧ w' = w) := by
  refine ret_of Tryz.func70 rfl Tryz.ntmps70 rfl ?_
  refine c_seq (fun K1 hK1 => ?_)
  refine c_reg ?_ -- region 0 stack.go:29
  refine wl (ro_assign rfl) ?_
  refine wl_nil (x_then (hK1 _ _ ?_))
  clear hK1 K1
  refine c_seq (fun K2 hK2 => ?_)
  refine c_seq (fun K3 hK3 => ?_)
  refine c_reg ?_ -- region 1 stack.go:30
  refine wl (ro_move rfl) ?_
  refine wl (ro_cmp (r := false) rfl rfl (by simp)) ?_
  refine wl (ro_move rfl) ?_
  refine wlg_yes rfl (ro_move rfl) ?_
  refine wlg_yes rfl (ro_move rfl) ?_
  refine wlg_yes rfl (ro_nilCheck rfl) ?_
  refine wlg_yes rfl (ro_fieldAddr (k := 0) rfl fo_77_0) ?_
  refine wlg_yes rfl (ro_loadB rfl sc_75 (hB) (hk)) ?_
  refine wlg_yes rfl (ro_lenL rfl se_75) ?_
  refine wlg_yes rfl (ro_cmp (r := false) rfl rfl (by simp; omega)) ?_
  refine wl (ro_pick rfl rfl rfl) ?_
  refine wl_nil (x_then (hK3 _ _ ?_))
  clear hK3 K3
  refine wc_condF rfl ?_
  refine c_skip (x_then (hK2 _ _ ?_))
  clear hK2 K2
  refine forget [(0, _), (1, _)] ⟨rfl, rfl, trivial⟩ (fun e => ?_)
  refine c_seq (fun K4 hK4 => ?_)
  refine c_reg ?_ -- region 3 stack.go:33
  refine wl (ro_move rfl) ?_
  refine wl (ro_nilCheck rfl) ?_
  refine wl (ro_fieldAddr (k := 0) rfl fo_77_0) ?_
  refine wl (ro_loadB rfl sc_75 (hB) (hk)) ?_
  refine wl (ro_move rfl) ?_
  refine wl (ro_indexAddr (et := 117) (k := 3) rfl rfl se_75 rfl (by omega)) ?_
  refine wl (ro_assign rfl) ?_
  refine wl_nil (x_then (hK4 _ _ ?_))
  clear hK4 K4
  refine c_ret ?_
  refine bp_ret Tryz.results70 rfl ?_
  refine ⟨?_, rfl⟩
  simp [ptrAt]

theorem Cut81 {w : World} {sb k t n c : Nat} {l : List Value} {a : Option Addr} (hB : Blk w.heap sb l t) (hk : l[k]? = some (.slice a n c)) (hc : n ≤ c) {m : Nat} (hm : m ≤ n) :
    Ret Tryz.prog 81 [ptrAt sb k, i64c m] w (fun r w' => w' = w.setRow sb (l.set k (.slice a m c)).toArray) := by
  have hkl := (List.getElem?_eq_some_iff.1 hk).1
  refine ret_of Tryz.func81 rfl Tryz.ntmps81 rfl ?_
  refine c_seq (fun K1 hK1 => ?_)
  refine c_seq (fun K2 hK2 => ?_)
  refine c_reg ?_ -- region 0 stack.go:41
  refine wl (ro_move rfl) ?_
  refine wl (ro_cmp (r := false) rfl rfl (by simp)) ?_
  refine wl (ro_move rfl) ?_
  refine wlg_yes rfl (ro_move rfl) ?_
  refine wlg_yes rfl (ro_move rfl) ?_
  refine wlg_yes rfl (ro_nilCheck rfl) ?_
  refine wlg_yes rfl (ro_fieldAddr (k := 0) rfl fo_77_0) ?_
  refine wlg_yes rfl (ro_loadB rfl sc_75 (hB) (hk)) ?_
  refine wlg_yes rfl (ro_lenL rfl se_75) ?_
  refine wlg_yes rfl (ro_cmp (r := false) rfl rfl (by simp; omega)) ?_
  refine wl (ro_pick rfl rfl rfl) ?_
  refine wl_nil (x_then (hK2 _ _ ?_))
  clear hK2 K2
  refine wc_condF rfl ?_
  refine c_skip (x_then (hK1 _ _ ?_))
  clear hK1 K1
  refine c_reg ?_ -- region 1 stack.go:44
  refine wl (ro_move rfl) ?_
  refine wl (ro_move rfl) ?_
  refine wl (ro_nilCheck rfl) ?_
  refine wl (ro_fieldAddr (k := 0) rfl fo_77_0) ?_
  refine wl (ro_loadB rfl sc_75 (hB) (hk)) ?_
  refine wl (ro_move rfl) ?_
  refine wl (ro_sliceH (h := m) rfl rfl se_75 rfl (by omega)) ?_
  refine wl (ro_nilCheck rfl) ?_
  refine wl (ro_fieldAddr (k := 0) rfl fo_77_0) ?_
  refine wls (so_storeB rfl rfl rfl sz_75 (hB) (hkl)) ?_
  refine wl_nil ?_
  refine bp_end Tryz.results81 rfl ?_
  exact rfl

theorem Push58 {w : World} {sb k t m : Nat} {l xs : List Value} {V : Value} (hB : Blk w.heap sb l t) (hk : l[k]? = some V) (hown : Own w.heap V 117 3 m xs) (ht : 117 ≠ t) (hm : m ≤ 1000000) (x0 x1 x2 : Value) (hc1 : ∀ u ∈ [x0, x1, x2], u.oneCell' = true) :
    Ret Tryz.prog 58 [ptrAt sb k, .agg [x0, x1, x2].toArray] w (fun r w' => ∃ V', Blk w'.heap sb (l.set k V') t ∧ Own w'.heap V' 117 3 (m + 1) (xs ++ [x0, x1, x2]) ∧ (∀ b, V'.ownBlock = some b → V.ownBlock = some b ∨ w.heap.size ≤ b) ∧ Fram (fun b => b = sb ∨ V.ownBlock = some b) w w') := by
  have hkl := (List.getElem?_eq_some_iff.1 hk).1
  obtain ⟨a0, cap0, rfl⟩ := hown.form
  refine ret_of Tryz.func58 rfl Tryz.ntmps58 rfl ?_
  refine c_seq (fun K1 hK1 => ?_)
  refine c_reg ?_ -- region 0 stack.go:14
  refine wle (eo_box rfl rfl) ?_
  have hN1 := Blk.new w [x0, x1, x2] 117
  have hB1 := hB.alloc (.cells [x0, x1, x2].toArray 117)
  have hown1 := hown.alloc (.cells [x0, x1, x2].toArray 117)
  refine wl_nil (x_then (hK1 _ _ ?_))
  clear hK1 K1
  refine c_piL 10 [(0, false), (1, false), (2, false), (3, false), (4, false), (5, false), (6, true), (7, true), (8, false), (9, false)] (fun w' => Blk w'.heap sb l t ∧ Blk w'.heap w.heap.size [x0, x1, x2] 117) mixed (by kernel_rfl) rfl (by kernel_rfl) (po_bp) (⟨hB1, hN1⟩) ?_ -- region 1 stack.go:14
  refine ql_ro rfl (fun w hS => ro_move rfl) ?_
  refine ql_ro rfl (fun w hS => ro_move rfl) ?_
  refine ql_ro rfl (fun w hS => ro_nilCheck rfl) ?_
  refine ql_ro rfl (fun w hS => ro_fieldAddr (k := 0) rfl fo_77_0) ?_
  refine ql_ro rfl (fun w hS => ro_loadB rfl sc_75 (hS.1) (hk)) ?_
  refine ql_ro rfl (fun w hS => ro_loadAggB rfl ag_117 (hS.2) rfl rfl) ?_
  refine ql_eo rfl (eo_bs1 rfl rfl se_75 zx_117 rfl rfl rfl) (⟨hB1.alloc _, hN1.alloc _⟩) ?_
  have hN2 := Blk.new { w.alloc (.cells [x0, x1, x2].toArray 117) with drawn := w.drawn + 1 } [x0, x1, x2] 117
  have hown2 := (hown1.fram (Fram.drew none' _ (w.drawn + 1)) (fun _ _ h => h)).alloc (.cells [x0, x1, x2].toArray 117)
  have hB2 := (hB1.fram (Fram.drew none' _ (w.drawn + 1)) (fun h => h)).alloc (.cells [x0, x1, x2].toArray 117)
  have hN12 := (hN1.fram (Fram.drew none' _ (w.drawn + 1)) (fun h => h)).alloc (.cells [x0, x1, x2].toArray 117)
  refine ql_app (news := [x0, x1, x2]) rfl rfl rfl se_75 zx_117 by_117 rfl hown2 hN2 rfl rfl hc1 (by omega) (by omega) ?_
  intro V3 w3 hown3 hgr hloc
  have FA : Fram (fun b => (Value.slice a0 m cap0).ownBlock = some b) _ w3 := Fram.grown hgr (fun k hk => .inl hk)
  have hb3 := hB2.fram FA (fun hk => hown2.neblk hB2 ht _ hk rfl)
  have hN3 := hN12.fram FA (fun hk => by have := hown.lt hk; omega)
  obtain ⟨a3, cap3, rfl⟩ := hown3.form
  refine ⟨⟨hb3, hN3⟩, ?_⟩
  refine ql_ro rfl (fun w hS => ro_nilCheck rfl) ?_
  refine ql_ro rfl (fun w hS => ro_fieldAddr (k := 0) rfl fo_77_0) ?_
  refine ql_last rfl (so_storeB rfl rfl rfl sz_75 (hb3) (hkl)) ?_
  refine ?_
  refine bp_end Tryz.results58 rfl ?_
  have FS : Fram (fun b => b = sb) w3 (w3.setRow sb (l.set k (.slice a3 (m + 1) cap3)).toArray) := Fram.set w3 sb _ (.inl rfl)
  refine ⟨.slice a3 (m + 1) cap3, hb3.set _, hown3.fram FS (fun b hb' he => hown3.neblk hb3 ht b hb' he), ?_, ?_⟩
  · intro b hb'
    rcases hloc with h | h
    · rw [h] at hb'; exact .inl hb'
    · rw [h] at hb'; cases hb'; exact .inr (by simp; omega)
  · refine (((Fram.alloc _ w (.cells [x0, x1, x2].toArray 117)).trans (Fram.drew _ _ (w.drawn + 1))).thenAlloc (o := .cells [x0, x1, x2].toArray 117)).trans ((FA.mono (fun k hk hx => .inr hx)).trans (FS.mono (fun k hk hx => .inl hx)))

theorem Len44 {w : World} {sb k t n c : Nat} {l : List Value} {a : Option Addr} (hB : Blk w.heap sb l t) (hk : l[k]? = some (.slice a n c)) :
    Ret Tryz.prog 44 [ptrAt sb k] w (fun r w' => r = i64c n ∧ w' = w) := by
  refine ret_of Tryz.func44 rfl Tryz.ntmps44 rfl ?_
  refine c_seq (fun K1 hK1 => ?_)
  refine c_reg ?_ -- region 0 stack.go:11
  refine wl (ro_assign rfl) ?_
  refine wl_nil (x_then (hK1 _ _ ?_))
  clear hK1 K1
  refine forget [(0, _)] ⟨rfl, trivial⟩ (fun e => ?_)
  refine c_seq (fun K2 hK2 => ?_)
  refine c_reg ?_ -- region 1 stack.go:11
  refine wl (ro_move rfl) ?_
  refine wl (ro_nilCheck rfl) ?_
  refine wl (ro_fieldAddr (k := 0) rfl fo_80_0) ?_
  refine wl (ro_loadB rfl sc_78 (hB) (hk)) ?_
  refine wl (ro_lenL rfl se_78) ?_
  refine wl (ro_assign rfl) ?_
  refine wl_nil (x_then (hK2 _ _ ?_))
  clear hK2 K2
  refine c_ret ?_
  refine bp_ret Tryz.results44 rfl ?_
  exact ⟨rfl, rfl⟩

theorem At88n {w : World} {sb k t n c : Nat} {l : List Value} {a : Option Addr} (hB : Blk w.heap sb l t) (hk : l[k]? = some (.slice a n c)) {i : Int} (hi : i < 0) :
    Ret Tryz.prog 88 [ptrAt sb k, .int .i64 i] w (fun r w' => r = .pointer none ∧ w' = w) := by
  refine ret_of Tryz.func88 rfl Tryz.ntmps88 rfl ?_
  refine c_seq (fun K1 hK1 => ?_)
  refine c_reg ?_ -- region 0 stack.go:29
  refine wl (ro_assign rfl) ?_
  refine wl_nil (x_then (hK1 _ _ ?_))
  clear hK1 K1
  refine c_seq (fun K2 hK2 => ?_)
  refine c_seq (fun K3 hK3 => ?_)
  refine c_reg ?_ -- region 1 stack.go:30
  refine wl (ro_move rfl) ?_
  refine wl (ro_cmp (r := true) rfl rfl (by simp; omega)) ?_
  refine wl (ro_move rfl) ?_
  refine wlg_no rfl ?_
  refine wlg_no rfl ?_
  refine wlg_no rfl ?_
  refine wlg_no rfl ?_
  refine wlg_no rfl ?_
  refine wlg_no rfl ?_
  refine wlg_no rfl ?_
  refine wl (ro_pick rfl rfl rfl) ?_
  refine wl_nil (x_then (hK3 _ _ ?_))
  clear hK3 K3
  refine wc_condT rfl ?_
  refine c_seq (fun K4 hK4 => ?_)
  refine c_reg ?_ -- region 2 stack.go:31
  refine wl (ro_assign rfl) ?_
  refine wl_nil (x_then (hK4 _ _ ?_))
  clear hK4 K4
  refine c_ret (x_thenR ?_)
  refine bp_ret Tryz.results88 rfl ?_
  exact ⟨rfl, rfl⟩

theorem At88 {w : World} {sb k t n c g : Nat} {l : List Value} (hB : Blk w.heap sb l t) (hk : l[k]? = some (.slice (some ⟨g, 0, none⟩) n c)) {i : Nat} (hi : i < n) :
    Ret Tryz.prog 88 [ptrAt sb k, i64c i] w (fun r w' => r = ptrAt g (i * 5) ∧ w' = w) := by
  refine ret_of Tryz.func88 rfl Tryz.ntmps88 rfl ?_
  refine c_seq (fun K1 hK1 => ?_)
  refine c_reg ?_ -- region 0 stack.go:29
  refine wl (ro_assign rfl) ?_
  refine wl_nil (x_then (hK1 _ _ ?_))
  clear hK1 K1
  refine c_seq (fun K2 hK2 => ?_)
  refine c_seq (fun K3 hK3 => ?_)
  refine c_reg ?_ -- region 1 stack.go:30
  refine wl (ro_move rfl) ?_
  refine wl (ro_cmp (r := false) rfl rfl (by simp)) ?_
  refine wl (ro_move rfl) ?_
  refine wlg_yes rfl (ro_move rfl) ?_
  refine wlg_yes rfl (ro_move rfl) ?_
  refine wlg_yes rfl (ro_nilCheck rfl) ?_
  refine wlg_yes rfl (ro_fieldAddr (k := 0) rfl fo_80_0) ?_
  refine wlg_yes rfl (ro_loadB rfl sc_78 (hB) (hk)) ?_
  refine wlg_yes rfl (ro_lenL rfl se_78) ?_
  refine wlg_yes rfl (ro_cmp (r := false) rfl rfl (by simp; omega)) ?_
  refine wl (ro_pick rfl rfl rfl) ?_
  refine wl_nil (x_then (hK3 _ _ ?_))
  clear hK3 K3
  refine wc_condF rfl ?_
  refine c_skip (x_then (hK2 _ _ ?_))
  clear hK2 K2
  refine forget [(0, _), (1, _)] ⟨rfl, rfl, trivial⟩ (fun e => ?_)
  refine c_seq (fun K4 hK4 => ?_)
  refine c_reg ?_ -- region 3 stack.go:33
  refine wl (ro_move rfl) ?_
  refine wl (ro_nilCheck rfl) ?_
  refine wl (ro_fieldAddr (k := 0) rfl fo_80_0) ?_
  refine wl (ro_loadB rfl sc_78 (hB) (hk)) ?_
  refine wl (ro_move rfl) ?_
  refine wl (ro_indexAddr (et := 100) (k := 5) rfl rfl se_78 rfl (by omega)) ?_
  refine wl (ro_assign rfl) ?_
  refine wl_nil (x_then (hK4 _ _ ?_))
  clear hK4 K4
  refine c_ret ?_
  refine bp_ret Tryz.results88 rfl ?_
  refine ⟨?_, rfl⟩
  simp [ptrAt]

theorem Cut72 {w : World} {sb k t n c : Nat} {l : List Value} {a : Option Addr} (hB : Blk w.heap sb l t) (hk : l[k]? = some (.slice a n c)) (hc : n ≤ c) {m : Nat} (hm : m ≤ n) :
    Ret Tryz.prog 72 [ptrAt sb k, i64c m] w (fun r w' => w' = w.setRow sb (l.set k (.slice a m c)).toArray) := by
  have hkl := (List.getElem?_eq_some_iff.1 hk).1
  refine ret_of Tryz.func72 rfl Tryz.ntmps72 rfl ?_
  refine c_seq (fun K1 hK1 => ?_)
  refine c_seq (fun K2 hK2 => ?_)
  refine c_reg ?_ -- region 0 stack.go:41
  refine wl (ro_move rfl) ?_
  refine wl (ro_cmp (r := false) rfl rfl (by simp)) ?_
  refine wl (ro_move rfl) ?_
  refine wlg_yes rfl (ro_move rfl) ?_
  refine wlg_yes rfl (ro_move rfl) ?_
  refine wlg_yes rfl (ro_nilCheck rfl) ?_
  refine wlg_yes rfl (ro_fieldAddr (k := 0) rfl fo_80_0) ?_
  refine wlg_yes rfl (ro_loadB rfl sc_78 (hB) (hk)) ?_
  refine wlg_yes rfl (ro_lenL rfl se_78) ?_
  refine wlg_yes rfl (ro_cmp (r := false) rfl rfl (by simp; omega)) ?_
  refine wl (ro_pick rfl rfl rfl) ?_
  refine wl_nil (x_then (hK2 _ _ ?_))
  clear hK2 K2
  refine wc_condF rfl ?_
  refine c_skip (x_then (hK1 _ _ ?_))
  clear hK1 K1
  refine c_reg ?_ -- region 1 stack.go:44
  refine wl (ro_move rfl) ?_
  refine wl (ro_move rfl) ?_
  refine wl (ro_nilCheck rfl) ?_
  refine wl (ro_fieldAddr (k := 0) rfl fo_80_0) ?_
  refine wl (ro_loadB rfl sc_78 (hB) (hk)) ?_
  refine wl (ro_move rfl) ?_
  refine wl (ro_sliceH (h := m) rfl rfl se_78 rfl (by omega)) ?_
  refine wl (ro_nilCheck rfl) ?_
  refine wl (ro_fieldAddr (k := 0) rfl fo_80_0) ?_
  refine wls (so_storeB rfl rfl rfl sz_78 (hB) (hkl)) ?_
  refine wl_nil ?_
  refine bp_end Tryz.results72 rfl ?_
  exact rfl

theorem Push76 {w : World} {sb k t m : Nat} {l xs : List Value} {V : Value} (hB : Blk w.heap sb l t) (hk : l[k]? = some V) (hown : Own w.heap V 100 5 m xs) (ht : 100 ≠ t) (hm : m ≤ 1000000) (x0 x1 x2 x3 x4 : Value) (hc1 : ∀ u ∈ [x0, x1, x2, x3, x4], u.oneCell' = true) :
    Ret Tryz.prog 76 [ptrAt sb k, .agg [x0, x1, x2, x3, x4].toArray] w (fun r w' => ∃ V', Blk w'.heap sb (l.set k V') t ∧ Own w'.heap V' 100 5 (m + 1) (xs ++ [x0, x1, x2, x3, x4]) ∧ (∀ b, V'.ownBlock = some b → V.ownBlock = some b ∨ w.heap.size ≤ b) ∧ Fram (fun b => b = sb ∨ V.ownBlock = some b) w w') := by
  have hkl := (List.getElem?_eq_some_iff.1 hk).1
  obtain ⟨a0, cap0, rfl⟩ := hown.form
  refine ret_of Tryz.func76 rfl Tryz.ntmps76 rfl ?_
  refine c_seq (fun K1 hK1 => ?_)
  refine c_reg ?_ -- region 0 stack.go:14
  refine wle (eo_box rfl rfl) ?_
  have hN1 := Blk.new w [x0, x1, x2, x3, x4] 100
  have hB1 := hB.alloc (.cells [x0, x1, x2, x3, x4].toArray 100)
  have hown1 := hown.alloc (.cells [x0, x1, x2, x3, x4].toArray 100)
  refine wl_nil (x_then (hK1 _ _ ?_))
  clear hK1 K1
  refine c_piL 10 [(0, false), (1, false), (2, false), (3, false), (4, false), (5, false), (6, true), (7, true), (8, false), (9, false)] (fun w' => Blk w'.heap sb l t ∧ Blk w'.heap w.heap.size [x0, x1, x2, x3, x4] 100) mixed (by kernel_rfl) rfl (by kernel_rfl) (po_bp) (⟨hB1, hN1⟩) ?_ -- region 1 stack.go:14
  refine ql_ro rfl (fun w hS => ro_move rfl) ?_
  refine ql_ro rfl (fun w hS => ro_move rfl) ?_
  refine ql_ro rfl (fun w hS => ro_nilCheck rfl) ?_
  refine ql_ro rfl (fun w hS => ro_fieldAddr (k := 0) rfl fo_80_0) ?_
  refine ql_ro rfl (fun w hS => ro_loadB rfl sc_78 (hS.1) (hk)) ?_
  refine ql_ro rfl (fun w hS => ro_loadAggB rfl ag_100 (hS.2) rfl rfl) ?_
  refine ql_eo rfl (eo_bs1 rfl rfl se_78 zx_100 rfl rfl rfl) (⟨hB1.alloc _, hN1.alloc _⟩) ?_
  have hN2 := Blk.new { w.alloc (.cells [x0, x1, x2, x3, x4].toArray 100) with drawn := w.drawn + 1 } [x0, x1, x2, x3, x4] 100
  have hown2 := (hown1.fram (Fram.drew none' _ (w.drawn + 1)) (fun _ _ h => h)).alloc (.cells [x0, x1, x2, x3, x4].toArray 100)
  have hB2 := (hB1.fram (Fram.drew none' _ (w.drawn + 1)) (fun h => h)).alloc (.cells [x0, x1, x2, x3, x4].toArray 100)
  have hN12 := (hN1.fram (Fram.drew none' _ (w.drawn + 1)) (fun h => h)).alloc (.cells [x0, x1, x2, x3, x4].toArray 100)
  refine ql_app (news := [x0, x1, x2, x3, x4]) rfl rfl rfl se_78 zx_100 by_100 rfl hown2 hN2 rfl rfl hc1 (by omega) (by omega) ?_
  intro V3 w3 hown3 hgr hloc
  have FA : Fram (fun b => (Value.slice a0 m cap0).ownBlock = some b) _ w3 := Fram.grown hgr (fun k hk => .inl hk)
  have hb3 := hB2.fram FA (fun hk => hown2.neblk hB2 ht _ hk rfl)
  have hN3 := hN12.fram FA (fun hk => by have := hown.lt hk; omega)
  obtain ⟨a3, cap3, rfl⟩ := hown3.form
  refine ⟨⟨hb3, hN3⟩, ?_⟩
  refine ql_ro rfl (fun w hS => ro_nilCheck rfl) ?_
  refine ql_ro rfl (fun w hS => ro_fieldAddr (k := 0) rfl fo_80_0) ?_
  refine ql_last rfl (so_storeB rfl rfl rfl sz_78 (hb3) (hkl)) ?_
  refine ?_
  refine bp_end Tryz.results76 rfl ?_
  have FS : Fram (fun b => b = sb) w3 (w3.setRow sb (l.set k (.slice a3 (m + 1) cap3)).toArray) := Fram.set w3 sb _ (.inl rfl)
  refine ⟨.slice a3 (m + 1) cap3, hb3.set _, hown3.fram FS (fun b hb' he => hown3.neblk hb3 ht b hb' he), ?_, ?_⟩
  · intro b hb'
    rcases hloc with h | h
    · rw [h] at hb'; exact .inl hb'
    · rw [h] at hb'; cases hb'; exact .inr (by simp; omega)
  · refine (((Fram.alloc _ w (.cells [x0, x1, x2, x3, x4].toArray 100)).trans (Fram.drew _ _ (w.drawn + 1))).thenAlloc (o := .cells [x0, x1, x2, x3, x4].toArray 100)).trans ((FA.mono (fun k hk hx => .inr hx)).trans (FS.mono (fun k hk hx => .inl hx)))

theorem Top79n {w : World} {sb k t c : Nat} {l : List Value} {a : Option Addr} (hB : Blk w.heap sb l t) (hk : l[k]? = some (.slice a 0 c)) :
    Ret Tryz.prog 79 [ptrAt sb k] w (fun r w' => r = .pointer none ∧ w' = w) := by
  have e1 : Value.int .i64 (((0 : Nat) : Int) - 1) = .int .i64 (-1) := rfl
  refine ret_of Tryz.func79 rfl Tryz.ntmps79 rfl ?_
  refine c_seq (fun K1 hK1 => ?_)
  refine c_reg ?_ -- region 0 stack.go:37
  refine wl (ro_assign rfl) ?_
  refine wl_nil (x_then (hK1 _ _ ?_))
  clear hK1 K1
  refine forget [(0, _)] ⟨rfl, trivial⟩ (fun e => ?_)
  refine c_seq (fun K2 hK2 => ?_)
  refine c_reg ?_ -- region 1 stack.go:37
  refine wl (ro_move rfl) ?_
  refine wl (ro_move rfl) ?_
  refine wl (ro_nilCheck rfl) ?_
  refine wl (ro_fieldAddr (k := 0) rfl fo_80_0) ?_
  refine wl (ro_loadB rfl sc_78 (hB) (hk)) ?_
  refine wl (ro_lenL rfl se_78) ?_
  refine wl ((show RO _ _ _ _ _ (.int .i64 (-1)) from e1 ▸ ro_arith rfl rfl rfl (Go.IntWalk.i64_in _ (by omega)))) ?_
  refine wl_call rfl en_88 (At88n hB hk (i := -1) (by omega)) ?_
  rintro _ w ⟨rfl, rfl⟩
  refine wl (ro_assign rfl) ?_
  refine wl_nil (x_then (hK2 _ _ ?_))
  clear hK2 K2
  refine c_ret ?_
  refine bp_ret Tryz.results79 rfl ?_
  exact ⟨rfl, rfl⟩

theorem Top79 {w : World} {sb k t n c g : Nat} {l : List Value} (hB : Blk w.heap sb l t) (hk : l[k]? = some (.slice (some ⟨g, 0, none⟩) (n + 1) c)) (hn : n ≤ 1000000) :
    Ret Tryz.prog 79 [ptrAt sb k] w (fun r w' => r = ptrAt g (n * 5) ∧ w' = w) := by
  have e1 : Value.int .i64 (((n + 1 : Nat) : Int) - 1) = i64c n := by show Value.int _ _ = Value.int _ _; congr 1; omega
  refine ret_of Tryz.func79 rfl Tryz.ntmps79 rfl ?_
  refine c_seq (fun K1 hK1 => ?_)
  refine c_reg ?_ -- region 0 stack.go:37
  refine wl (ro_assign rfl) ?_
  refine wl_nil (x_then (hK1 _ _ ?_))
  clear hK1 K1
  refine forget [(0, _)] ⟨rfl, trivial⟩ (fun e => ?_)
  refine c_seq (fun K2 hK2 => ?_)
  refine c_reg ?_ -- region 1 stack.go:37
  refine wl (ro_move rfl) ?_
  refine wl (ro_move rfl) ?_
  refine wl (ro_nilCheck rfl) ?_
  refine wl (ro_fieldAddr (k := 0) rfl fo_80_0) ?_
  refine wl (ro_loadB rfl sc_78 (hB) (hk)) ?_
  refine wl (ro_lenL rfl se_78) ?_
  refine wl ((show RO _ _ _ _ _ (i64c n) from e1 ▸ ro_arith rfl rfl rfl (Go.IntWalk.i64_in _ (by omega)))) ?_
  refine wl_call rfl en_88 (At88 hB hk (i := n) (by omega)) ?_
  rintro _ w ⟨rfl, rfl⟩
  refine wl (ro_assign rfl) ?_
  refine wl_nil (x_then (hK2 _ _ ?_))
  clear hK2 K2
  refine c_ret ?_
  refine bp_ret Tryz.results79 rfl ?_
  exact ⟨rfl, rfl⟩

end Go.Proofs.Qxb6500569aGreat
