import Derived.Test.Qxb6500569aGreatHc
/- The real heap: binding, unwinding, marks. -/
namespace Go.Proofs.Qxb6500569aGreat
set_option linter.unusedVariables false
set_option linter.unusedSimpArgs false

/-- What a turn of the heap's own blocks says. -/
def HPost (w : World) (L : HL) (R' : RH) (w' : World) : Prop := HeapAt w'.heap L R' ∧ Fram L.foot w w'

theorem bind113 {w : World} {L : HL} {R : RH} (H : HeapAt w.heap L R) (wf : WFc R) {v t : Nat} (hv : R.tags[v]? = some 0) (ht : t < R.tags.length) :
    Ret Tryz.prog 113 [ptr L.h, i32c v, i32c t] w (fun r w' => HPost w L (R.bind v t) w') := by
  have hvl := (List.getElem?_eq_some_iff.1 hv).1
  have hl1 := wf.len1
  have hsz := wf.size
  have htr : R.trail.length < R.tags.length := by
    have h1 := wf.trl
    have h2 : R.tags.count 2 < R.tags.length := by
      rcases Nat.lt_or_ge (R.tags.count 2) R.tags.length with h | h
      · exact h
      · have h3 := List.count_le_length (a := 2) (l := R.tags)
        have h4 : R.tags.count 2 = R.tags.length := by omega
        have h5 := List.count_eq_length.1 h4 _ (List.mem_of_getElem? hv)
        simp at h5
    omega
  obtain ⟨j2, hW, hj2⟩ := H.word
  have hB := H.st
  refine ret_of Tryz.func113 rfl Tryz.ntmps113 rfl ?_
  refine c_seq (fun K1 hK1 => ?_)
  refine c_reg ?_ -- region 0 unify.go:12
  refine wl (ro_move rfl) ?_
  refine wl (ro_nilCheck rfl) ?_
  refine wl (ro_fieldAddr (k := 1) rfl fo_69_1) ?_
  refine wl (ro_loadB rfl sc_65 (by assumption) rfl) ?_
  refine wl (ro_move rfl) ?_
  refine wl (ro_move rfl) ?_
  refine wl (ro_indexAddr (et := 21) (k := 1) rfl rfl se_65 rfl (by omega)) ?_
  refine wls (so_storeB rfl rfl rfl sz_21 (hW) (by simp; omega)) ?_
  have H1 := H.upWord (arr_set hW hj2 (i := v) (x := t) (by omega)) (by simp)
  refine gen2 (A := fun w1 => HeapAt w1.heap L { R with word := R.word.set v t }) (B := fun w1 => Fram L.foot w w1) (C := fun w1 => WL _ _ _ _ _ w1) H1 (Fram.set w _ _ (.inl L.foot_w)) ?_
  clear H1 hB hW hj2
  intro w1 H1 F1
  have hB := H1.st
  obtain ⟨j1, hT, hj1⟩ := H1.tags
  refine wl_nil (x_then (hK1 _ _ ?_))
  clear hK1 K1
  refine forget [(0, _), (1, _)] ⟨rfl, rfl, trivial⟩ (fun e => ?_)
  refine c_seq (fun K2 hK2 => ?_)
  refine c_reg ?_ -- region 1 unify.go:13
  refine wl (ro_move rfl) ?_
  refine wl (ro_nilCheck rfl) ?_
  refine wl (ro_fieldAddr (k := 0) rfl fo_69_0) ?_
  refine wl (ro_loadB rfl sc_64 (by assumption) rfl) ?_
  refine wl (ro_move rfl) ?_
  refine wl (ro_indexAddr (et := 177) (k := 1) rfl rfl se_64 rfl (hvl)) ?_
  refine wl (ro_loadB rfl sc_177 (hT) (getMap hv)) ?_
  refine wl (ro_bits (r := 2) rfl rfl rfl) ?_
  refine wl (ro_indexAddr (et := 177) (k := 1) rfl rfl se_64 rfl (hvl)) ?_
  refine wls (so_storeB rfl rfl rfl sz_177 (hT) (by simp; omega)) ?_
  have H2 := H1.upTags (arr_set hT hj1 (i := v) (x := 2) hvl) (by simp)
  refine gen2 (A := fun w2 => HeapAt w2.heap L { R with word := R.word.set v t, tags := R.tags.set v 2 }) (B := fun w2 => Fram L.foot w w2) (C := fun w2 => WL _ _ _ _ _ w2) H2 (F1.trans (Fram.set w1 _ _ (.inl L.foot_t))) ?_
  clear H2 H1 F1 hB hT hj1
  intro w2 H2 F2
  have hB := H2.st
  refine wl_nil (x_then (hK2 _ _ ?_))
  clear hK2 K2
  refine c_reg ?_ -- region 2 unify.go:14
  refine wl (ro_move rfl) ?_
  refine wl (ro_move rfl) ?_
  refine wl (ro_nilCheck rfl) ?_
  refine wl (ro_fieldAddr (k := 4) rfl fo_69_4) ?_
  refine wl (ro_loadB rfl sc_65 (by assumption) rfl) ?_
  refine wl (ro_move rfl) ?_
  refine wle (eo_bs1 rfl rfl se_65 zx_21 rfl rfl rfl) ?_
  have H3 := H2.alloc (.cells [i32c v].toArray 21)
  have hN := Blk.new w2 [i32c v] 21
  have hB := H3.st
  obtain ⟨j5, hTr, hj5⟩ := H3.trail
  have F3 := F2.trans (Fram.alloc L.foot w2 (.cells [i32c v].toArray 21))
  refine wle (eo_appR (news := [i32c v]) rfl rfl se_65 hTr hN rfl rfl (by simp [i32c, Value.oneCell']) (by show R.trail.length + 1 ≤ 64; omega) (by simp at hj5 ⊢; omega)) ?_
  have hB4 := H3.st.set_ne ((R.trail.map i32c ++ j5).take (R.trail.length * 1) ++ [i32c v] ++ (R.trail.map i32c ++ j5).drop (R.trail.length * 1 + 1 * 1)).toArray H3.ne.1.2.2.2.2.1
  refine wl (ro_nilCheck rfl) ?_
  refine wl (ro_fieldAddr (k := 4) rfl fo_69_4) ?_
  refine wls (so_storeB rfl rfl rfl sz_65 (hB4) (by simp)) ?_
  refine wl_nil ?_
  refine bp_end Tryz.results113 rfl ?_
  refine ⟨H3.push_trail (xs := [v]) hTr hj5 rfl (by simp) rfl rfl (by show R.trail.length + 1 ≤ 64; omega), ?_⟩
  exact (F3.trans (Fram.set _ _ _ (.inl L.foot_tr))).trans (Fram.set _ _ _ (.inl L.foot_h))

theorem hdrTrail {w : World} {L : HL} {R : RH} (H : HeapAt w.heap L R) (k : Nat) (hk : k ≤ R.trail.length) :
    HeapAt (w.setRow L.h ([sl L.t R.tags.length 64, sl L.w R.word.length 64, sl L.hd R.heads.length 128, sl L.a R.args.length 256, sl L.tr R.trail.length 64, sl L.m R.marks.length 26].set 4 (sl L.tr k 64)).toArray).heap L { R with trail := R.trail.take k } := by
  refine H.hdr _ ?_ H.tags H.word H.heads H.args (arr_take H.trail) H.marks
  simp [List.length_take, Nat.min_eq_left hk]

theorem unwind115 {w : World} {L : HL} {R : RH} (H : HeapAt w.heap L R) (hlt : ∀ v ∈ R.trail, R.tags[v]? = some 2) (hcap : R.trail.length ≤ 64) {to : Nat} (hto : to ≤ R.trail.length) :
    Ret Tryz.prog 115 [ptr L.h, i64c to] w (fun r w' => HPost w L (R.unw to) w') := by
  refine ret_of Tryz.func115 rfl Tryz.ntmps115 rfl ?_
  refine c_block ?_
  -- loop@r0: live slots [0, 1]
  refine c_loopG (fun m a' w' => ∃ k, m = k ∧ to ≤ k ∧ k ≤ R.trail.length ∧ HeapAt w'.heap L (R.unw k) ∧ Fram L.foot w w' ∧ ∃ e, a' = Fr 47 (upds e [(0, ptr L.h), (1, i64c to)]) []) R.trail.length ⟨_, rfl, hto, Nat.le_refl _, by simpa [RH.unw, unb_nil] using H, Fram.refl _ _, kp _ ⟨rfl, rfl, trivial⟩⟩ ?_
  rintro m a' w' ⟨k, rfl, hk1, hk2, H1, F1, e, rfl⟩
  have hB := H1.st
  have hlen : (R.unw m).trail.length = m := by simp [RH.unw, Nat.min_eq_left hk2]
  rw [hlen] at hB
  refine c_seq (fun K1 hK1 => ?_)
  refine c_seq (fun K2 hK2 => ?_)
  refine c_reg ?_ -- region 0 unify.go:19
  refine wl (ro_move rfl) ?_
  refine wl (ro_nilCheck rfl) ?_
  refine wl (ro_fieldAddr (k := 4) rfl fo_69_4) ?_
  refine wl (ro_loadB rfl sc_65 (by assumption) rfl) ?_
  refine wl (ro_lenL rfl se_65) ?_
  refine wl (ro_move rfl) ?_
  refine wl (ro_cmp rfl rfl rfl) ?_
  refine wl_nil (x_then (hK2 _ _ ?_))
  clear hK2 K2
  refine wc_cond rfl (fun hc11 => ?_) (fun hc11 => ?_)
  · try simp only [decide_eq_true_eq, decide_eq_false_iff_not, Bool.not_eq_true', Bool.not_eq_false', Bool.not_eq_eq_eq_not, Bool.not_true, Bool.not_false, beq_iff_eq, bne_iff_ne, ne_eq, beq_eq_false_iff_ne, bne_eq_false_iff_eq, gt_iff_lt, ge_iff_le, Int.not_lt, Int.not_le] at hc11
    have hmt : to < m := by omega
    obtain ⟨v, hv⟩ : ∃ v, R.trail[m - 1]? = some v := ⟨_, List.getElem?_eq_getElem (by omega)⟩
    have hv2 : (R.unw m).trail[m - 1]? = some v := by simp [RH.unw, List.getElem?_take, show m - 1 < m by omega, hv]
    obtain ⟨j5, hTr, hj5⟩ := H1.trail
    refine c_skip (x_then (hK1 _ _ ?_))
    clear hK1 K1
    refine c_block ?_
    refine forget [(0, _), (1, _)] ⟨rfl, rfl, trivial⟩ (fun e => ?_)
    refine c_seq (fun K3 hK3 => ?_)
    refine c_pi [(0, false), (1, false), (2, false), (3, false), (4, false), (5, false), (6, false), (7, false), (8, false), (9, false), (10, false), (11, false), (12, false)] (SameH _) mixed (by kernel_rfl) rfl (by kernel_rfl) (po_then (po_blk (po_then (po_blk (po_bp))))) (sameH_now _ _) ?_ -- region 1 unify.go:20
    refine pi_ro rfl (fun w hS => ro_move rfl) ?_
    refine pi_ro rfl (fun w hS => ro_nilCheck rfl) ?_
    refine pi_ro rfl (fun w hS => ro_fieldAddr (k := 4) rfl fo_69_4) ?_
    refine pi_ro rfl (fun w hS => ro_loadB rfl sc_65 (Blk.of_heap (by assumption) hS) rfl) ?_
    refine pi_ro rfl (fun w hS => ro_move rfl) ?_
    refine pi_ro rfl (fun w hS => ro_nilCheck rfl) ?_
    refine pi_ro rfl (fun w hS => ro_fieldAddr (k := 4) rfl fo_69_4) ?_
    refine pi_ro rfl (fun w hS => ro_loadB rfl sc_65 (Blk.of_heap (by assumption) hS) rfl) ?_
    refine pi_ro rfl (fun w hS => ro_lenL rfl se_65) ?_
    refine pi_ro rfl (fun w hS => ro_arith rfl rfl rfl (Go.IntWalk.i64_in _ (by omega))) ?_
    refine pi_ro rfl (fun w hS => ro_indexAddr (et := 21) (k := 1) rfl rfl se_65 ((by show (_ : Int) = ((m - 1 : Nat) : Int); omega)) ((by omega))) ?_
    refine pi_ro rfl (fun w hS => ro_loadB rfl sc_21 (Blk.of_heap hTr hS) (getMap hv2)) ?_
    refine pi_ro rfl (fun w hS => ro_assign rfl) ?_
    refine pi_nil (x_then (hK3 _ _ ?_))
    clear hK3 K3
    refine forget [(0, _), (1, _), (4, _)] ⟨rfl, rfl, rfl, trivial⟩ (fun e => ?_)
    refine c_seq (fun K4 hK4 => ?_)
    refine c_piL 14 [(0, false), (1, false), (2, false), (3, false), (4, false), (5, false), (6, false), (7, false), (8, false), (9, false), (10, false), (11, false), (12, false), (13, false)] (SameH _) mixed (by kernel_rfl) rfl (by kernel_rfl) (po_then (po_blk (po_then (po_blk (po_bp))))) (sameH_now _ _) ?_ -- region 2 unify.go:21
    refine ql_ro rfl (fun w hS => ro_move rfl) ?_
    refine ql_ro rfl (fun w hS => ro_move rfl) ?_
    refine ql_ro rfl (fun w hS => ro_nilCheck rfl) ?_
    refine ql_ro rfl (fun w hS => ro_fieldAddr (k := 4) rfl fo_69_4) ?_
    refine ql_ro rfl (fun w hS => ro_loadB rfl sc_65 (Blk.of_heap (by assumption) hS) rfl) ?_
    refine ql_ro rfl (fun w hS => ro_move rfl) ?_
    refine ql_ro rfl (fun w hS => ro_nilCheck rfl) ?_
    refine ql_ro rfl (fun w hS => ro_fieldAddr (k := 4) rfl fo_69_4) ?_
    refine ql_ro rfl (fun w hS => ro_loadB rfl sc_65 (Blk.of_heap (by assumption) hS) rfl) ?_
    refine ql_ro rfl (fun w hS => ro_lenL rfl se_65) ?_
    refine ql_ro rfl (fun w hS => ro_arith rfl rfl rfl (Go.IntWalk.i64_in _ (by omega))) ?_
    refine ql_ro rfl (fun w hS => ro_sliceH (h := m - 1) rfl rfl se_65 (by omega) (by omega)) ?_
    refine ql_ro rfl (fun w hS => ro_nilCheck rfl) ?_
    refine ql_ro rfl (fun w hS => ro_fieldAddr (k := 4) rfl fo_69_4) ?_
    refine ql_last rfl (so_storeB rfl rfl rfl sz_65 (by assumption) (by simp)) ?_
    have H2 := hdrTrail H1 (m - 1) (by omega)
    rw [hlen] at H2
    have ht0 : (R.unw m).tags[v]? = some 2 ∨ (R.unw m).tags[v]? = some 0 := by
      have := hlt v (List.mem_of_getElem? hv)
      simp only [RH.unw, unb_get]
      split
      · exact .inr rfl
      · exact .inl this
    have hvl : v < (R.unw m).tags.length := by rcases ht0 with h | h <;> exact (List.getElem?_eq_some_iff.1 h).1
    refine x_then (hK4 _ _ ?_)
    clear hK4 K4
    refine gen2 (A := fun w2 => HeapAt w2.heap L { R.unw m with trail := (R.unw m).trail.take (m - 1) }) (B := fun w2 => Fram L.foot w w2) (C := fun w2 => WC _ _ _ _ w2) H2 (F1.thenDrew.thenDrew.thenSet (.inl L.foot_h)) ?_
    clear H2 H1 F1 hB hTr hj5
    intro w2 H2 F2
    have hB := H2.st
    obtain ⟨j1, hT, hj1⟩ := H2.tags
    obtain ⟨x, hx, hx02⟩ : ∃ x, (R.unw m).tags[v]? = some x ∧ (x = 2 ∨ x = 0) := by rcases ht0 with h | h; exact ⟨2, h, .inl rfl⟩; exact ⟨0, h, .inr rfl⟩
    refine c_reg ?_ -- region 3 unify.go:22
    refine wl (ro_move rfl) ?_
    refine wl (ro_nilCheck rfl) ?_
    refine wl (ro_fieldAddr (k := 0) rfl fo_69_0) ?_
    refine wl (ro_loadB rfl sc_64 (by assumption) rfl) ?_
    refine wl (ro_move rfl) ?_
    refine wl (ro_indexAddr (et := 177) (k := 1) rfl rfl se_64 rfl (hvl)) ?_
    refine wl (ro_loadB rfl sc_177 (hT) (getMap hx)) ?_
    refine wl (ro_bits (r := 0) rfl rfl (by rcases hx02 with rfl | rfl <;> rfl)) ?_
    refine wl (ro_indexAddr (et := 177) (k := 1) rfl rfl se_64 rfl (hvl)) ?_
    refine wls (so_storeB rfl rfl rfl sz_177 (hT) (by simp; omega)) ?_
    have H3 := H2.upTags (arr_set hT hj1 (i := v) (x := 0) hvl) (by simp)
    have F3 := F2.trans (Fram.set w2 L.t (((R.unw m).tags.map i8c ++ j1).set (0 + v * 1) (i8c 0)).toArray (.inl L.foot_t))
    have hR : ({ R.unw m with trail := (R.unw m).trail.take (m - 1), tags := (R.unw m).tags.set v 0 } : RH) = R.unw (m - 1) := by
      simp only [RH.unw, RH.mk.injEq, and_true, true_and]
      have hm1 : m - 1 + 1 = m := by omega
      have hd : R.trail.drop (m - 1) = v :: R.trail.drop m := by
        have := List.drop_eq_getElem_cons (l := R.trail) (i := m - 1) (by omega)
        rw [hm1] at this
        rw [this]
        have := (List.getElem?_eq_some_iff.1 hv).2
        rw [this]
      refine ⟨by rw [hd, unb_cons], by rw [List.take_take, Nat.min_eq_left (by omega)]⟩
    refine wl_nil (x_blk (x_then ?_))
    refine ⟨m - 1, by omega, m - 1, rfl, by omega, by omega, ?_, F3, kp _ ⟨rfl, rfl, trivial⟩⟩
    rw [← hR]
    exact H3
  · try simp only [decide_eq_true_eq, decide_eq_false_iff_not, Bool.not_eq_true', Bool.not_eq_false', Bool.not_eq_eq_eq_not, Bool.not_true, Bool.not_false, beq_iff_eq, bne_iff_ne, ne_eq, beq_eq_false_iff_ne, bne_eq_false_iff_eq, gt_iff_lt, ge_iff_le, Int.not_lt, Int.not_le] at hc11
    have hmt : m = to := by omega
    refine c_exit (x_thenX (x_thenX (x_blkX ?_)))
    refine bp_end Tryz.results115 rfl ?_
    subst hmt
    exact ⟨H1, F1⟩

end Go.Proofs.Qxb6500569aGreat
