import Derived.Test.Qxb6500569aGreatMh
/- The model heap: the printer. -/
namespace Go.Proofs.Qxb6500569aGreat
set_option linter.unusedVariables false
set_option linter.unusedSimpArgs false

structure MPen (base pb : Nat) (V : Value) (out : List UInt8) (nm : List Nat) (w : World) : Prop where
  blk : Blk w.heap pb [S out, V] 187
  own : Own w.heap V 3 1 nm.length (nm.map i64c)
  loc : ∀ b, V.ownBlock = some b → base ≤ b
  hpb : base ≤ pb

theorem mpen_none {base pb : Nat} {V : Value} {out : List UInt8} {nm : List Nat} {w w' : World} (h : MPen base pb V out nm w) (hf : Fram none' w w') : MPen base pb V out nm w' :=
  ⟨h.blk.fram hf (fun h => h), h.own.fram hf (fun _ _ h => h), h.loc, h.hpb⟩

theorem mpen_out {base pb : Nat} {V : Value} {out out' : List UInt8} {nm : List Nat} {w : World} (h : MPen base pb V out nm w) : MPen base pb V out' nm (w.setRow pb [S out', V].toArray) ∧ Fram (fun b => base ≤ b) w (w.setRow pb [S out', V].toArray) := by
  have F2 : Fram (fun b => b = pb) w (w.setRow pb [S out', V].toArray) := Fram.set w pb _ (.inl rfl)
  exact ⟨⟨h.blk.set _, h.own.fram F2 (fun b hb he => h.own.neblk h.blk (by decide) b hb he), h.loc, h.hpb⟩, F2.mono (fun k hk hx => by rw [hx]; exact h.hpb)⟩

theorem mpen_nm {base pb : Nat} {V V' : Value} {out : List UInt8} {nm : List Nat} {x : Nat} {w w1 : World} (h : MPen base pb V out nm w) (hgr : w.grownBy w1 V.ownBlock) (hown : Own w1.heap V' 3 1 (nm ++ [x]).length ((nm ++ [x]).map i64c)) (hloc : ∀ b, V'.ownBlock = some b → base ≤ b) :
    Blk w1.heap pb [S out, V] 187 ∧ MPen base pb V' out (nm ++ [x]) (w1.setRow pb [S out, V'].toArray) ∧ Fram (fun b => base ≤ b) w (w1.setRow pb [S out, V'].toArray) := by
  have F1 : Fram (fun b => V.ownBlock = some b) w w1 := Fram.grown hgr (fun k hk => .inl hk)
  have hb1 : Blk w1.heap pb [S out, V] 187 := h.blk.fram F1 (fun hk => h.own.neblk h.blk (by decide) _ hk rfl)
  have F2 : Fram (fun b => b = pb) w1 (w1.setRow pb [S out, V'].toArray) := Fram.set w1 pb _ (.inl rfl)
  refine ⟨hb1, ⟨hb1.set _, hown.fram F2 (fun b hb he => hown.neblk hb1 (by decide) b hb he), hloc, h.hpb⟩, ?_⟩
  exact ((F1.mono (fun k hk hx => h.loc k hx)).trans (F2.mono (fun k hk hx => by rw [hx]; exact h.hpb)))

theorem mh_keep {hb base : Nat} {V : Value} {hp : List Nd} {w w' : World} (M : MH w.heap hb V hp) (hf : ∀ b, MFoot hb V b → b < base) (F : Fram (fun b => base ≤ b) w w') : MH w'.heap hb V hp :=
  M.fram F (fun h => by have := hf hb (.inl rfl); omega) (fun b hb' h => by have := hf b (.inr hb'); omega)

def PutM (hb : Nat) (VH : Value) (hp : List Nd) (base pb f : Nat) : Prop :=
  ∀ (w : World) (V : Value) (out : List UInt8) (nm : List Nat) (a : Nat), MH w.heap hb VH hp → base ≤ w.heap.size → MPen base pb V out nm w → out.length ≤ 48 → 49 - out.length ≤ f → nm.length ≤ out.length → a < hp.length →
    Ret Tryz.prog 106 [ptr hb, ptr pb, i64c a] w (fun r w' => r = .bool (putF f hp a out nm).1 ∧ ∃ V', MPen base pb V' (putF f hp a out nm).2.1 (putF f hp a out nm).2.2 w' ∧ Fram (fun b => base ≤ b) w w')

theorem idxOf_of {nm : List Nat} {k x : Nat} (h1 : ∀ j : Nat, j < k → nm[j]? ≠ some x) (h2 : nm[k]? = some x) : nm.idxOf x = k := by
  have hm : x ∈ nm := List.mem_of_getElem? h2
  have hlt : nm.idxOf x < nm.length := List.idxOf_lt_length_iff.2 hm
  have hg : nm[nm.idxOf x]? = some x := by rw [List.getElem?_eq_getElem hlt, List.getElem_idxOf]
  rcases Nat.lt_trichotomy (nm.idxOf x) k with h | h | h
  · exact absurd hg (h1 _ h)
  · exact h
  · have := List.not_of_lt_findIdx (p := (· == x)) (xs := nm) (i := k) h
    rw [List.getElem?_eq_some_iff] at h2
    obtain ⟨hk, h2⟩ := h2
    simp [h2] at this

theorem idxOf_none {nm : List Nat} {x : Nat} (h1 : ∀ j : Nat, j < nm.length → nm[j]? ≠ some x) : x ∉ nm := by
  intro hm
  obtain ⟨i, hi⟩ := List.getElem?_of_mem hm
  exact h1 i (List.getElem?_eq_some_iff.1 hi).1 hi

set_option maxHeartbeats 1600000 in
theorem put106v {hb : Nat} {VH : Value} {hp : List Nd} (hok : HOK hp) {base pb f : Nat} (hbase : ∀ b, MFoot hb VH b → b < base) {w : World} {V : Value} {out : List UInt8} {nm : List Nat} {a : Nat} (M : MH w.heap hb VH hp) (hbs : base ≤ w.heap.size) (hP : MPen base pb V out nm w)
    (hout : out.length ≤ 48) (hnm : nm.length ≤ out.length) (ha : a < hp.length) {nd : Nd} (hnd : hp[deref hp a]? = some nd) (hn0 : nd.h = []) :
    Ret Tryz.prog 106 [ptr hb, ptr pb, i64c a] w (fun r w' => r = .bool (putF (f + 1) hp a out nm).1 ∧ ∃ V', MPen base pb V' (putF (f + 1) hp a out nm).2.1 (putF (f + 1) hp a out nm).2.2 w' ∧ Fram (fun b => base ≤ b) w w') := by
  have hho : hOf hp (deref hp a) = [] := by simp [hOf, hnd, hn0]
  rw [putF_var hho]
  obtain ⟨x, hxe⟩ : ∃ x, x = deref hp a := ⟨_, rfl⟩
  have hdl := deref_lt hok.wf ha
  have h64 := hok.cap
  obtain ⟨g, cap, l, rfl, hBl, hc1, hc2, hl1, hl2⟩ := M.own.pos (by omega)
  have hch := own_cell hl2 (ndcs_get M.a4 hnd (ndc_h nd))
  rw [hn0] at hch
  have hB := M.blk
  have hit := itoa_len (nm.idxOf x)
  refine ret_of Tryz.func106 rfl Tryz.ntmps106 rfl ?_
  refine c_seq (fun K1 hK1 => ?_)
  refine c_reg ?_ -- region 0 heapm.go:266
  refine wl (ro_assign rfl) ?_
  refine wl_nil (x_then (hK1 _ _ ?_))
  clear hK1 K1
  refine forget [(0, _), (1, _), (2, _)] ⟨rfl, rfl, rfl, trivial⟩ (fun e => ?_)
  refine c_seq (fun K2 hK2 => ?_)
  refine c_reg ?_ -- region 1 heapm.go:267
  refine wl (ro_move rfl) ?_
  refine wl (ro_move rfl) ?_
  refine wl_call rfl en_105 (Deref105 M hok.wf ha h64) ?_
  rintro _ w ⟨rfl, rfl⟩
  rw [← hxe] at hdl hch ⊢
  refine wl (ro_assign rfl) ?_
  refine wl_nil (x_then (hK2 _ _ ?_))
  clear hK2 K2
  refine forget [(0, _), (1, _), (2, _)] ⟨rfl, rfl, rfl, trivial⟩ (fun e => ?_)
  refine c_seq (fun K3 hK3 => ?_)
  refine c_reg ?_ -- region 2 heapm.go:268
  refine wl (ro_move rfl) ?_
  refine wl (ro_nilCheck rfl) ?_
  refine wl (ro_fieldAddr (k := 0) rfl fo_121_0) ?_
  refine wl (ro_loadB rfl sc_118 (by assumption) rfl) ?_
  refine wl (ro_move rfl) ?_
  refine wl (ro_indexAddr (et := 184) (k := 6) rfl rfl se_118 rfl (hdl)) ?_
  refine wl (ro_fieldAddr (k := 0) rfl fo_184_0) ?_
  refine wl (ro_loadB rfl sc_9 (hBl) ((by rw [show 0 + x * 6 + 0 = x * 6 + 0 by omega]; exact hch))) ?_
  refine wl (ro_assign rfl) ?_
  refine wl_nil (x_then (hK3 _ _ ?_))
  clear hK3 K3
  refine c_seq (fun K4 hK4 => ?_)
  refine c_seq (fun K5 hK5 => ?_)
  refine c_reg ?_ -- region 3 heapm.go:269
  refine wl (ro_move rfl) ?_
  refine wl (ro_eqS (r := true) rfl rfl rfl) ?_
  refine wl_nil (x_then (hK5 _ _ ?_))
  clear hK5 K5
  refine wc_condT rfl ?_
  refine c_seq (fun K6 hK6 => ?_)
  obtain ⟨av, cv, rfl⟩ := hP.own.form
  refine c_reg ?_ -- region 4 heapm.go:270
  refine wl (ro_assign rfl) ?_
  refine wl_nil (x_then (hK6 _ _ ?_))
  clear hK6 K6
  refine forget [(0, _), (1, _), (2, _), (7, _), (8, _)] ⟨rfl, rfl, rfl, rfl, rfl, trivial⟩ (fun e => ?_)
  refine c_seq (fun K7 hK7 => ?_)
  refine c_block ?_
  -- loop@r5: live slots [0, 1, 2, 7, 8]
  refine c_loopG (fun m a' w' => ∃ k, m = nm.length - k ∧ k ≤ nm.length ∧ (∀ j : Nat, j < k → nm[j]? ≠ some x) ∧ w' = w ∧ ∃ e, a' = Fr 142 (upds e [(0, ptr hb), (1, ptr pb), (2, i64c x), (7, S []), (8, i64c k)]) []) nm.length ⟨0, rfl, by omega, fun j hj => by omega, rfl, kp _ ⟨rfl, rfl, rfl, rfl, rfl, trivial⟩⟩ ?_
  rintro m a' w ⟨k, rfl, hk, hnot, rfl, e, rfl⟩
  refine c_seq (fun K8 hK8 => ?_)
  refine c_seq (fun K9 hK9 => ?_)
  by_cases hkl : k < nm.length
  · skip
    obtain ⟨y, hy⟩ : ∃ y, nm[k]? = some y := ⟨_, List.getElem?_eq_getElem hkl⟩
    obtain ⟨g2, cap2, l2, hV2, hB2, d1, d2, d3, d4⟩ := hP.own.pos (by omega)
    cases hV2
    have hcy := own_cell (i := k) d4 (v := i64c y) (by simp [hy])
    refine c_reg ?_ -- region 5 heapm.go:271
    refine wl (ro_move rfl) ?_
    refine wl (ro_move rfl) ?_
    refine wl (ro_nilCheck rfl) ?_
    refine wl (ro_fieldAddr (k := 1) rfl fo_187_1) ?_
    refine wl (ro_loadB rfl sc_119 (hP.blk) (rfl)) ?_
    refine wl (ro_lenL rfl se_119) ?_
    refine wl (ro_cmp (r := true) rfl rfl (by simp; omega)) ?_
    refine wl (ro_move rfl) ?_
    refine wlg_yes rfl (ro_move rfl) ?_
    refine wlg_yes rfl (ro_nilCheck rfl) ?_
    refine wlg_yes rfl (ro_fieldAddr (k := 1) rfl fo_187_1) ?_
    refine wlg_yes rfl (ro_loadB rfl sc_119 (hP.blk) (rfl)) ?_
    refine wlg_yes rfl (ro_move rfl) ?_
    refine wlg_yes rfl (ro_indexAddr (et := 3) (k := 1) rfl rfl se_119 rfl (hkl)) ?_
    refine wlg_yes rfl (ro_loadB rfl sc_3 (hB2) ((by rw [Nat.zero_add, Nat.mul_one]; exact hcy))) ?_
    refine wlg_yes rfl (ro_move rfl) ?_
    refine wlg_yes rfl (ro_cmp (r := decide (y ≠ x)) rfl rfl (congrArg some (by have := beqc y x; simp [bne, this]))) ?_
    refine wl (ro_pick rfl rfl rfl) ?_
    refine wl_nil (x_then (hK9 _ _ ?_))
    clear hK9 K9
    refine wc_cond rfl (fun hc40 => ?_) (fun hc40 => ?_)
    · try simp only [decide_eq_true_eq, decide_eq_false_iff_not, Bool.not_eq_true', Bool.not_eq_false', Bool.not_eq_eq_eq_not, Bool.not_true, Bool.not_false, beq_iff_eq, bne_iff_ne, ne_eq, beq_eq_false_iff_ne, bne_eq_false_iff_eq, gt_iff_lt, ge_iff_le, Int.not_lt, Int.not_le] at hc40
      have hyx : y ≠ x := by simpa using hc40
      refine c_skip (x_then (hK8 _ _ ?_))
      clear hK8 K8
      refine c_block ?_
      refine c_reg ?_ -- region 6 heapm.go:272
      refine wl (ro_move rfl) ?_
      refine wl (ro_arith rfl rfl rfl (Go.IntWalk.i64_in _ (by omega))) ?_
      refine wl (ro_assign rfl) ?_
      refine wl_nil (x_blk (x_then ?_))
      refine ⟨nm.length - (k + 1), by omega, k + 1, rfl, by omega, ?_, rfl, kp _ ⟨rfl, rfl, rfl, rfl, rfl, trivial⟩⟩
      intro j hj
      rcases Nat.lt_or_ge j k with h | h
      · exact hnot j h
      · have : j = k := by omega
        subst this; rw [hy]; simpa using hyx
    · try simp only [decide_eq_true_eq, decide_eq_false_iff_not, Bool.not_eq_true', Bool.not_eq_false', Bool.not_eq_eq_eq_not, Bool.not_true, Bool.not_false, beq_iff_eq, bne_iff_ne, ne_eq, beq_eq_false_iff_ne, bne_eq_false_iff_eq, gt_iff_lt, ge_iff_le, Int.not_lt, Int.not_le] at hc40
      have hyx : y = x := by simpa using hc40
      refine c_exit (x_thenX (x_thenX (x_blkX (x_then (hK7 _ _ ?_)))))
      clear hK8 K8 hK7 K7
      refine c_seq (fun K10 hK10 => ?_)
      refine c_seq (fun K11 hK11 => ?_)
      have hidx : nm.idxOf x = k := idxOf_of hnot (by rw [hy, hyx])
      have hin : x ∈ nm := List.mem_of_getElem? (by rw [hy, hyx])
      refine c_reg ?_ -- region 7 heapm.go:274
      refine wl (ro_move rfl) ?_
      refine wl (ro_move rfl) ?_
      refine wl (ro_nilCheck rfl) ?_
      refine wl (ro_fieldAddr (k := 1) rfl fo_187_1) ?_
      refine wl (ro_loadB rfl sc_119 (hP.blk) (rfl)) ?_
      refine wl (ro_lenL rfl se_119) ?_
      refine wl (ro_cmp (r := false) rfl rfl (by simp; omega)) ?_
      refine wl_nil (x_then (hK11 _ _ ?_))
      clear hK11 K11
      refine wc_condF rfl ?_
      refine c_skip (x_then (hK10 _ _ ?_))
      clear hK10 K10
      have hPz : ∃ V5, MPen base pb V5 out (nmAdd nm x) w ∧ Fram (fun b => base ≤ b) w w := ⟨_, by { unfold nmAdd; rw [if_pos hin]; exact hP }, Fram.refl _ _⟩
      refine gen2 (A := fun w1 => ∃ V5, MPen base pb V5 out (nmAdd nm x) w1 ∧ Fram (fun b => base ≤ b) w w1) (B := fun w1 => True) (C := fun w1 => WC _ _ _ _ w1) hPz trivial ?_
      clear hPz
      rintro w5 ⟨V5, hP5, F5⟩ _
      rw [hidx] at hit
      obtain ⟨a5, cap5, rfl⟩ := hP5.own.form
      refine c_piL 11 [(0, false), (1, false), (2, false), (3, false), (4, false), (5, false), (6, false), (7, true), (8, false), (9, false), (10, false)] (fun w' => Blk w'.heap pb [S out, .slice a5 (nmAdd nm x).length cap5] 187) mixed (by kernel_rfl) rfl (by kernel_rfl) (po_then (po_bp)) (hP5.blk) ?_ -- region 9 heapm.go:277
      refine ql_ro rfl (fun w hS => ro_move rfl) ?_
      refine ql_ro rfl (fun w hS => ro_move rfl) ?_
      refine ql_ro rfl (fun w hS => ro_nilCheck rfl) ?_
      refine ql_ro rfl (fun w hS => ro_fieldAddr (k := 0) rfl fo_187_0) ?_
      refine ql_ro rfl (fun w hS => ro_loadB rfl sc_9 (hS) rfl) ?_
      refine ql_ro rfl (fun w hS => ro_catS rfl rfl (by simp; omega)) ?_
      refine ql_ro rfl (fun w hS => ro_move rfl) ?_
      refine ql_call rfl rfl en_39 (Itoa39 (n := k) (by omega)) ?_
      rintro _ w6 ⟨rfl, F6⟩
      have hP6 := mpen_none (mpen_none hP5 (Fram.drew none' w5 (w5.drawn + 1))) F6
      have F7 : Fram (fun b => base ≤ b) w w6 := F5.thenDrew.trans (F6.mono (fun _ _ h => h.elim))
      refine ⟨hP6.blk, ?_⟩
      refine ql_ro rfl (fun w hS => ro_catS rfl rfl (by simp; omega)) ?_
      refine ql_ro rfl (fun w hS => ro_nilCheck rfl) ?_
      refine ql_ro rfl (fun w hS => ro_fieldAddr (k := 0) rfl fo_187_0) ?_
      refine ql_last rfl (so_storeB rfl rfl rfl sz_9 (hP6.blk) (by simp)) ?_
      obtain ⟨hP8, F8⟩ := mpen_out (out' := out ++ [95] ++ itoa k) hP6
      have F9 := F7.trans F8
      refine x_then (hK4 _ _ ?_)
      clear hK4 K4
      refine c_seq (fun K12 hK12 => ?_)
      refine c_seq (fun K13 hK13 => ?_)
      refine gen2 (A := fun w1 => MPen base pb (.slice a5 (nmAdd nm x).length cap5) (out ++ [95] ++ itoa k) (nmAdd nm x) w1) (B := fun w1 => Fram (fun b => base ≤ b) w w1) (C := fun w1 => WC _ _ _ _ w1) hP8 F9 ?_
      clear hP8 F8 F9 F7 F6 F5 hP6 hP5
      intro w8 hP8 F8
      refine c_reg ?_ -- region 11 heapm.go:281
      refine wl (ro_assign rfl) ?_
      refine wl_nil (x_then (hK13 _ _ ?_))
      clear hK13 K13
      refine c_block ?_
      -- loop@r12: live slots [0, 1, 2, 7, 9]
      refine c_loopG (fun m a' w' => w' = w8 ∧ ∃ e, a' = Fr 142 (upds e [(1, ptr pb), (7, S []), (9, i64c 0)]) []) 0 ⟨rfl, kp _ ⟨rfl, rfl, rfl, trivial⟩⟩ ?_
      rintro m a' w8 ⟨rfl, e, rfl⟩
      refine c_seq (fun K14 hK14 => ?_)
      refine c_seq (fun K15 hK15 => ?_)
      refine c_reg ?_ -- region 12 heapm.go:281
      refine wl (ro_move rfl) ?_
      refine wl (ro_move rfl) ?_
      refine wl_call rfl en_104 (arity104 (h := []) (.inl rfl)) ?_
      rintro _ w8 ⟨rfl, rfl⟩
      refine wl (ro_cmp (r := false) rfl rfl (by simp [ar])) ?_
      refine wl_nil (x_then (hK15 _ _ ?_))
      clear hK15 K15
      refine wc_condF rfl ?_
      refine c_exit (x_thenX (x_thenX (x_blkX (x_then (hK12 _ _ ?_)))))
      clear hK14 K14 hK12 K12
      refine c_seq (fun K16 hK16 => ?_)
      refine c_seq (fun K17 hK17 => ?_)
      refine c_reg ?_ -- region 21 heapm.go:294
      refine wl (ro_move rfl) ?_
      refine wl_call rfl en_104 (arity104 (h := []) (.inl rfl)) ?_
      rintro _ w8 ⟨rfl, rfl⟩
      refine wl (ro_cmp (r := false) rfl rfl (by simp [ar])) ?_
      refine wl_nil (x_then (hK17 _ _ ?_))
      clear hK17 K17
      refine wc_condF rfl ?_
      refine c_skip (x_then (hK16 _ _ ?_))
      clear hK16 K16
      refine forget [(1, _)] ⟨rfl, trivial⟩ (fun e => ?_)
      refine c_seq (fun K18 hK18 => ?_)
      refine c_reg ?_ -- region 23 heapm.go:297
      refine wl (ro_move rfl) ?_
      refine wl (ro_nilCheck rfl) ?_
      refine wl (ro_fieldAddr (k := 0) rfl fo_187_0) ?_
      refine wl (ro_loadB rfl sc_9 (hP8.blk) (rfl)) ?_
      refine wl (ro_lenS rfl st_9) ?_
      refine wl (ro_cmp rfl rfl rfl) ?_
      refine wl (ro_assign rfl) ?_
      refine wl_nil (x_then (hK18 _ _ ?_))
      clear hK18 K18
      refine c_ret ?_
      refine bp_ret Tryz.results106 rfl ?_
      rw [← hxe, hidx]
      refine ⟨congrArg Value.bool ?_, _, hP8, F8⟩
      simp only [List.length_append, decide_eq_decide]
      omega
  · skip
    refine c_reg ?_ -- region 5 heapm.go:271
    refine wl (ro_move rfl) ?_
    refine wl (ro_move rfl) ?_
    refine wl (ro_nilCheck rfl) ?_
    refine wl (ro_fieldAddr (k := 1) rfl fo_187_1) ?_
    refine wl (ro_loadB rfl sc_119 (hP.blk) (rfl)) ?_
    refine wl (ro_lenL rfl se_119) ?_
    refine wl (ro_cmp (r := false) rfl rfl (by simp; omega)) ?_
    refine wl (ro_move rfl) ?_
    refine wlg_no rfl ?_
    refine wlg_no rfl ?_
    refine wlg_no rfl ?_
    refine wlg_no rfl ?_
    refine wlg_no rfl ?_
    refine wlg_no rfl ?_
    refine wlg_no rfl ?_
    refine wlg_no rfl ?_
    refine wlg_no rfl ?_
    refine wl (ro_pick rfl rfl rfl) ?_
    refine wl_nil (x_then (hK9 _ _ ?_))
    clear hK9 K9
    refine wc_condF rfl ?_
    refine c_exit (x_thenX (x_thenX (x_blkX (x_then (hK7 _ _ ?_)))))
    clear hK8 K8 hK7 K7
    refine c_seq (fun K19 hK19 => ?_)
    refine c_seq (fun K20 hK20 => ?_)
    have hke : k = nm.length := by omega
    have hin := idxOf_none (x := x) (nm := nm) (by rw [← hke]; exact hnot)
    have hidx : nm.idxOf x = k := by rw [hke]; exact List.idxOf_eq_length hin
    refine c_reg ?_ -- region 7 heapm.go:274
    refine wl (ro_move rfl) ?_
    refine wl (ro_move rfl) ?_
    refine wl (ro_nilCheck rfl) ?_
    refine wl (ro_fieldAddr (k := 1) rfl fo_187_1) ?_
    refine wl (ro_loadB rfl sc_119 (hP.blk) (rfl)) ?_
    refine wl (ro_lenL rfl se_119) ?_
    refine wl (ro_cmp (r := true) rfl rfl (by simp; omega)) ?_
    refine wl_nil (x_then (hK20 _ _ ?_))
    clear hK20 K20
    refine wc_condT rfl ?_
    refine c_reg ?_ -- region 8 heapm.go:275
    refine wl (ro_move rfl) ?_
    refine wl (ro_move rfl) ?_
    refine wl (ro_nilCheck rfl) ?_
    refine wl (ro_fieldAddr (k := 1) rfl fo_187_1) ?_
    refine wl (ro_loadB rfl sc_119 (hP.blk) (rfl)) ?_
    refine wl (ro_move rfl) ?_
    refine wle (eo_bs1 rfl rfl se_119 zx_3 rfl rfl rfl) ?_
    have hN := Blk.new w [i64c x] 3
    have hP3 := mpen_none hP (Fram.alloc none' w (.cells [i64c x].toArray 3))
    refine wl_app (news := [i64c x]) rfl rfl se_119 zx_3 by_3 rfl hP3.own hN rfl rfl (by simp [i64c, Value.oneCell']) (by omega) (by omega) ?_
    intro V3 w3 hown hgr hloc
    obtain ⟨a3, cap3, rfl⟩ := hown.form
    obtain ⟨hb4, hP4, F4⟩ := mpen_nm (x := x) hP3 hgr (by simpa using hown) (by intro b hb'; rcases hloc with h | h; rw [h] at hb'; exact hP3.loc b hb'; rw [h] at hb'; cases hb'; simp; omega)
    refine wl (ro_nilCheck rfl) ?_
    refine wl (ro_fieldAddr (k := 1) rfl fo_187_1) ?_
    refine wls (so_storeB rfl rfl rfl sz_119 (hb4) (by simp)) ?_
    refine wl_nil (x_then (hK19 _ _ ?_))
    clear hK19 K19
    have hPz : ∃ V5, MPen base pb V5 out (nmAdd nm x) (w3.setRow pb [S out, .slice a3 (nm.length + 1) cap3].toArray) ∧ Fram (fun b => base ≤ b) w (w3.setRow pb [S out, .slice a3 (nm.length + 1) cap3].toArray) := ⟨_, by { unfold nmAdd; rw [if_neg hin]; exact hP4 }, (Fram.alloc _ w (.cells [i64c x].toArray 3)).trans F4⟩
    refine gen2 (A := fun w1 => ∃ V5, MPen base pb V5 out (nmAdd nm x) w1 ∧ Fram (fun b => base ≤ b) w w1) (B := fun w1 => True) (C := fun w1 => WC _ _ _ _ w1) hPz trivial ?_
    clear hPz hP4 F4 hb4 hown hgr hloc hP3 hN
    rintro w5 ⟨V5, hP5, F5⟩ _
    rw [hidx] at hit
    obtain ⟨a5, cap5, rfl⟩ := hP5.own.form
    refine c_piL 11 [(0, false), (1, false), (2, false), (3, false), (4, false), (5, false), (6, false), (7, true), (8, false), (9, false), (10, false)] (fun w' => Blk w'.heap pb [S out, .slice a5 (nmAdd nm x).length cap5] 187) mixed (by kernel_rfl) rfl (by kernel_rfl) (po_then (po_bp)) (hP5.blk) ?_ -- region 9 heapm.go:277
    refine ql_ro rfl (fun w hS => ro_move rfl) ?_
    refine ql_ro rfl (fun w hS => ro_move rfl) ?_
    refine ql_ro rfl (fun w hS => ro_nilCheck rfl) ?_
    refine ql_ro rfl (fun w hS => ro_fieldAddr (k := 0) rfl fo_187_0) ?_
    refine ql_ro rfl (fun w hS => ro_loadB rfl sc_9 (hS) rfl) ?_
    refine ql_ro rfl (fun w hS => ro_catS rfl rfl (by simp; omega)) ?_
    refine ql_ro rfl (fun w hS => ro_move rfl) ?_
    refine ql_call rfl rfl en_39 (Itoa39 (n := k) (by omega)) ?_
    rintro _ w6 ⟨rfl, F6⟩
    have hP6 := mpen_none (mpen_none hP5 (Fram.drew none' w5 (w5.drawn + 1))) F6
    have F7 : Fram (fun b => base ≤ b) w w6 := F5.thenDrew.trans (F6.mono (fun _ _ h => h.elim))
    refine ⟨hP6.blk, ?_⟩
    refine ql_ro rfl (fun w hS => ro_catS rfl rfl (by simp; omega)) ?_
    refine ql_ro rfl (fun w hS => ro_nilCheck rfl) ?_
    refine ql_ro rfl (fun w hS => ro_fieldAddr (k := 0) rfl fo_187_0) ?_
    refine ql_last rfl (so_storeB rfl rfl rfl sz_9 (hP6.blk) (by simp)) ?_
    obtain ⟨hP8, F8⟩ := mpen_out (out' := out ++ [95] ++ itoa k) hP6
    have F9 := F7.trans F8
    refine x_then (hK4 _ _ ?_)
    clear hK4 K4
    refine c_seq (fun K21 hK21 => ?_)
    refine c_seq (fun K22 hK22 => ?_)
    refine gen2 (A := fun w1 => MPen base pb (.slice a5 (nmAdd nm x).length cap5) (out ++ [95] ++ itoa k) (nmAdd nm x) w1) (B := fun w1 => Fram (fun b => base ≤ b) w w1) (C := fun w1 => WC _ _ _ _ w1) hP8 F9 ?_
    clear hP8 F8 F9 F7 F6 F5 hP6 hP5
    intro w8 hP8 F8
    refine c_reg ?_ -- region 11 heapm.go:281
    refine wl (ro_assign rfl) ?_
    refine wl_nil (x_then (hK22 _ _ ?_))
    clear hK22 K22
    refine c_block ?_
    -- loop@r12: live slots [0, 1, 2, 7, 9]
    refine c_loopG (fun m a' w' => w' = w8 ∧ ∃ e, a' = Fr 142 (upds e [(1, ptr pb), (7, S []), (9, i64c 0)]) []) 0 ⟨rfl, kp _ ⟨rfl, rfl, rfl, trivial⟩⟩ ?_
    rintro m a' w8 ⟨rfl, e, rfl⟩
    refine c_seq (fun K23 hK23 => ?_)
    refine c_seq (fun K24 hK24 => ?_)
    refine c_reg ?_ -- region 12 heapm.go:281
    refine wl (ro_move rfl) ?_
    refine wl (ro_move rfl) ?_
    refine wl_call rfl en_104 (arity104 (h := []) (.inl rfl)) ?_
    rintro _ w8 ⟨rfl, rfl⟩
    refine wl (ro_cmp (r := false) rfl rfl (by simp [ar])) ?_
    refine wl_nil (x_then (hK24 _ _ ?_))
    clear hK24 K24
    refine wc_condF rfl ?_
    refine c_exit (x_thenX (x_thenX (x_blkX (x_then (hK21 _ _ ?_)))))
    clear hK23 K23 hK21 K21
    refine c_seq (fun K25 hK25 => ?_)
    refine c_seq (fun K26 hK26 => ?_)
    refine c_reg ?_ -- region 21 heapm.go:294
    refine wl (ro_move rfl) ?_
    refine wl_call rfl en_104 (arity104 (h := []) (.inl rfl)) ?_
    rintro _ w8 ⟨rfl, rfl⟩
    refine wl (ro_cmp (r := false) rfl rfl (by simp [ar])) ?_
    refine wl_nil (x_then (hK26 _ _ ?_))
    clear hK26 K26
    refine wc_condF rfl ?_
    refine c_skip (x_then (hK25 _ _ ?_))
    clear hK25 K25
    refine forget [(1, _)] ⟨rfl, trivial⟩ (fun e => ?_)
    refine c_seq (fun K27 hK27 => ?_)
    refine c_reg ?_ -- region 23 heapm.go:297
    refine wl (ro_move rfl) ?_
    refine wl (ro_nilCheck rfl) ?_
    refine wl (ro_fieldAddr (k := 0) rfl fo_187_0) ?_
    refine wl (ro_loadB rfl sc_9 (hP8.blk) (rfl)) ?_
    refine wl (ro_lenS rfl st_9) ?_
    refine wl (ro_cmp rfl rfl rfl) ?_
    refine wl (ro_assign rfl) ?_
    refine wl_nil (x_then (hK27 _ _ ?_))
    clear hK27 K27
    refine c_ret ?_
    refine bp_ret Tryz.results106 rfl ?_
    rw [← hxe, hidx]
    refine ⟨congrArg Value.bool ?_, _, hP8, F8⟩
    simp only [List.length_append, decide_eq_decide]
    omega

end Go.Proofs.Qxb6500569aGreat
