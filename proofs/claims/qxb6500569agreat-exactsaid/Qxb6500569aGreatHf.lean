import Derived.Test.Qxb6500569aGreatHe
/- The real heap: the occurs check. -/
namespace Go.Proofs.Qxb6500569aGreat
set_option linter.unusedVariables false
set_option linter.unusedSimpArgs false

theorem beqc (a b : Nat) : ((a : Int) == (b : Int)) = decide (a = b) := by
  by_cases h : a = b
  · subst h; simp
  · have h' : ¬ (a : Int) = b := by omega
    simp [h, h']

theorem kidsOf_var {R : RH} {a : Nat} (h : R.tags[a]? = some 0) : kidsOf R.abs a = [] := by simp [kidsOf, abs_of_var h, ar]

theorem kidsOf_str {R : RH} (wf : WFc R) {a o : Nat} {d : UInt8} (h : R.tags[a]? = some 1) (h2 : R.word[a]? = some o) (h4 : R.heads[2 * a + 1]? = some d) : kidsOf R.abs a = (R.args.drop o).take (d.toNat - 48) := by
  obtain ⟨o', f, d', k2, k3, k4, k5, k6, k7, hab⟩ := abs_of_str wf h
  rw [h2] at k2; cases k2
  rw [h4] at k4; cases k4
  simp only [kidsOf, hab]
  show (pad4 _).take (d.toNat - 48) = _
  have hl : ((R.args.drop o).take (d.toNat - 48)).length = d.toNat - 48 := by simp; omega
  unfold pad4
  rw [List.take_take, Nat.min_eq_left (by omega), List.take_append_of_le_length (by omega), List.take_take, Nat.min_self]

theorem kidsOf_lt {R : RH} (wf : WFc R) {a x : Nat} (ha : R.tags[a]? = some 0 ∨ R.tags[a]? = some 1) (hx : x ∈ kidsOf R.abs a) : x < R.tags.length := by
  rcases ha with h | h
  · rw [kidsOf_var h] at hx; cases hx
  · obtain ⟨o, f, d, k2, k3, k4, k5, k6, k7⟩ := str_full wf h
    rw [kidsOf_str wf h k2 k4] at hx
    obtain ⟨i, hi⟩ := List.getElem?_of_mem (List.mem_of_mem_take hx)
    rw [List.getElem?_drop] at hi
    exact wf.arg _ _ hi

theorem kidsOf_le {R : RH} (wf : WFc R) {a : Nat} (ha : R.tags[a]? = some 0 ∨ R.tags[a]? = some 1) : (kidsOf R.abs a).length ≤ 4 := by
  rcases ha with h | h
  · rw [kidsOf_var h]; simp
  · obtain ⟨o, f, d, k2, k3, k4, k5, k6, k7⟩ := str_full wf h
    rw [kidsOf_str wf h k2 k4]; simp; omega

/-- The window of arguments. -/
def KV (H : Array Obj) (L : HL) (oa : Option Addr) (ks : List Nat) : Prop := ks = [] ∨ ∃ o l, oa = some ⟨L.a, o, none⟩ ∧ Blk H L.a l 21 ∧ ∀ (i x : Nat), ks[i]? = some x → l[o + i * 1]? = some (i32c x)

theorem KV.fram {F : Nat → Prop} {w w' : World} {L : HL} {oa : Option Addr} {ks : List Nat} (h : KV w.heap L oa ks) (hf : Fram F w w') (hn : ¬ F L.a) : KV w'.heap L oa ks := by
  rcases h with h | ⟨o, l, h1, h2, h3⟩
  · exact .inl h
  · exact .inr ⟨o, l, h1, h2.fram hf hn, h3⟩

theorem kids102k {w : World} {L : HL} {R : RH} (H : HeapAt w.heap L R) (wf : WFc R) {a : Nat} (ha : R.tags[a]? = some 0 ∨ R.tags[a]? = some 1) :
    Ret Tryz.prog 102 [ptr L.h, i32c a] w (fun v w' => ∃ oa kc, v = .slice oa (kidsOf R.abs a).length kc ∧ KV w.heap L oa (kidsOf R.abs a) ∧ w' = w) := by
  have hal : a < R.tags.length := by rcases ha with h | h <;> exact (List.getElem?_eq_some_iff.1 h).1
  refine (kids102 H wf hal).mono ?_
  rintro v w' ⟨rfl, rfl⟩
  rcases ha with h | h
  · refine ⟨none, 0, ?_, .inl (kidsOf_var h), rfl⟩
    rw [kidsOf_var h]
    simp [kidsV, h]
  · obtain ⟨o, f, d, k2, k3, k4, k5, k6, k7⟩ := str_full wf h
    have hk : kidsV L R a = .slice (some (if 256 = o then ⟨L.a, 0, none⟩ else ⟨L.a, 0 + o * 1, none⟩)) (o + (d.toNat - 48) - o) (256 - o) := by simp [kidsV, h, k2, k4]
    have hl : (kidsOf R.abs a).length = d.toNat - 48 := by rw [kidsOf_str wf h k2 k4]; simp; omega
    refine ⟨_, _, by rw [hk, hl, show o + (d.toNat - 48) - o = d.toNat - 48 by omega], ?_, rfl⟩
    by_cases hd : d.toNat - 48 = 0
    · exact .inl (List.eq_nil_of_length_eq_zero (by rw [hl]; exact hd))
    · right
      have hac := wf.acap
      have hsz := wf.size
      have hcap : ¬ (256 = o) := by omega
      obtain ⟨j4, hA, _⟩ := H.args
      refine ⟨o, _, by rw [if_neg hcap]; simp, hA, ?_⟩
      intro i x hx
      rw [kidsOf_str wf h k2 k4, List.getElem?_take] at hx
      split at hx
      · rw [List.getElem?_drop] at hx
        have := getMap (f := i32c) (j := j4) hx
        rw [show 0 + (o + i) * 1 = o + i * 1 by omega] at this
        exact this
      · cases hx

set_option maxHeartbeats 400000 in
theorem occurs114 {w : World} {L : HL} {R : RH} (H : HeapAt w.heap L R) (wf : WFc R) {v t n : Nat} (hv : v < R.tags.length) (ht : t < R.tags.length) (hn : n ≤ 40) :
    Ret Tryz.prog 114 [ptr L.h, i32c v, i32c t, i64c n] w (fun r w' => r = .tuple #[i64c (occS R.abs v [t] n).1, i64c (occS R.abs v [t] n).2] ∧ Fram none' w w') := by
  have hsz := wf.size
  refine ret_of Tryz.func114 rfl Tryz.ntmps114 rfl ?_
  refine c_seq (fun K1 hK1 => ?_)
  refine c_reg ?_ -- region 0 unify.go:27
  refine wl (ro_assign rfl) ?_
  refine wl (ro_assign rfl) ?_
  refine wl_nil (x_then (hK1 _ _ ?_))
  clear hK1 K1
  refine forget [(0, _), (1, _), (2, _), (3, _)] ⟨rfl, rfl, rfl, rfl, trivial⟩ (fun e => ?_)
  refine c_seq (fun K2 hK2 => ?_)
  refine c_reg ?_ -- region 1 unify.go:28
  refine wl (ro_move rfl) ?_
  refine wle (eo_bs1 rfl rfl se_65 zx_21 rfl rfl rfl) ?_
  refine wl (ro_assign rfl) ?_
  refine wl_nil (x_then (hK2 _ _ ?_))
  clear hK2 K2
  refine forget [(0, _), (1, _), (3, _), (10, _)] ⟨rfl, rfl, rfl, rfl, trivial⟩ (fun e => ?_)
  refine c_seq (fun K3 hK3 => ?_)
  refine c_block ?_
  -- loop@r2: live slots [0, 1, 3, 10]
  refine c_loopG (fun m a' w' => ∃ st n1 V, m = 41 - n1 ∧ n ≤ n1 ∧ n1 ≤ 40 ∧ (∀ x ∈ st, x < R.tags.length) ∧ occS R.abs v st n1 = occS R.abs v [t] n ∧ st.length ≤ 4 * n1 + 1 ∧ Own w'.heap V 21 1 st.length (st.reverse.map i32c) ∧ (∀ b, V.ownBlock = some b → w.heap.size ≤ b) ∧ Fram none' w w' ∧ ∃ e, a' = Fr 59 (upds e [(0, ptr L.h), (1, i32c v), (3, i64c n1), (10, V)]) []) (41 - n) ⟨[t], n, _, rfl, Nat.le_refl _, hn, by simpa using ht, rfl, by simp, Own.bs w [i32c t] 21 1 1 rfl (by omega), by intro b hb; cases hb; exact Nat.le_refl _, Fram.alloc _ _ _, kp _ ⟨rfl, rfl, rfl, rfl, trivial⟩⟩ ?_
  rintro m a' w' ⟨st, n1, V, rfl, hn0, hn1, hst, hocc, hlen, hown, hob, F1, e, rfl⟩
  obtain ⟨a0, cap0, rfl⟩ := hown.form
  have H1 := H.fram0 F1
  refine c_seq (fun K4 hK4 => ?_)
  refine c_seq (fun K5 hK5 => ?_)
  refine c_reg ?_ -- region 2 unify.go:29
  refine wl (ro_move rfl) ?_
  refine wl (ro_lenL rfl se_65) ?_
  refine wl (ro_cmp rfl rfl rfl) ?_
  refine wl_nil (x_then (hK5 _ _ ?_))
  clear hK5 K5
  refine wc_cond rfl (fun hc17 => ?_) (fun hc17 => ?_)
  · try simp only [decide_eq_true_eq, decide_eq_false_iff_not, Bool.not_eq_true', Bool.not_eq_false', Bool.not_eq_eq_eq_not, Bool.not_true, Bool.not_false, beq_iff_eq, bne_iff_ne, ne_eq, beq_eq_false_iff_ne, bne_eq_false_iff_eq, gt_iff_lt, ge_iff_le, Int.not_lt, Int.not_le] at hc17
    have hpos : 0 < st.length := by omega
    obtain ⟨t1, st', rfl⟩ : ∃ t1 st', st = t1 :: st' := by { cases st with | nil => simp at hpos | cons a b => exact ⟨a, b, rfl⟩ }
    obtain ⟨g, cap, l, hV, hBl, hc1, hc2, hl1, hl2⟩ := hown.pos hpos
    cases hV
    have ht1 := hst t1 (by simp)
    have hlen' : st'.length ≤ 4 * n1 := by simp at hlen; omega
    have hcons := occS_cons R.abs v t1 n1 st' hn1
    have hg : ((t1 :: st').reverse.map i32c)[st'.length]? = some (i32c t1) := by simp
    refine c_skip (x_then (hK4 _ _ ?_))
    clear hK4 K4
    refine c_block ?_
    refine forget [(0, _), (1, _), (3, _), (10, _)] ⟨rfl, rfl, rfl, rfl, trivial⟩ (fun e => ?_)
    refine c_seq (fun K6 hK6 => ?_)
    refine c_reg ?_ -- region 3 unify.go:30
    refine wl (ro_move rfl) ?_
    refine wl (ro_move rfl) ?_
    refine wl (ro_lenL rfl se_65) ?_
    refine wl (ro_arith rfl rfl rfl (Go.IntWalk.i64_in _ (by omega))) ?_
    refine wl (ro_indexAddr (et := 21) (k := 1) rfl rfl se_65 ((by show (_ : Int) = ((st'.length : Nat) : Int); simp)) ((by simp))) ?_
    refine wl (ro_loadB rfl sc_21 (hBl) ((by rw [Nat.mul_one, Nat.zero_add]; exact own_get hl2 hg))) ?_
    refine wl (ro_assign rfl) ?_
    refine wl_nil (x_then (hK6 _ _ ?_))
    clear hK6 K6
    refine forget [(0, _), (1, _), (2, _), (3, _), (10, _)] ⟨rfl, rfl, rfl, rfl, rfl, trivial⟩ (fun e => ?_)
    refine c_seq (fun K7 hK7 => ?_)
    refine c_reg ?_ -- region 4 unify.go:31
    refine wl (ro_move rfl) ?_
    refine wl (ro_move rfl) ?_
    refine wl (ro_lenL rfl se_65) ?_
    refine wl (ro_arith rfl rfl rfl (Go.IntWalk.i64_in _ (by omega))) ?_
    refine wl (ro_sliceH (h := st'.length) rfl rfl se_65 (by simp) (by simp at hc1; omega)) ?_
    refine wl (ro_assign rfl) ?_
    refine wl_nil (x_then (hK7 _ _ ?_))
    clear hK7 K7
    refine forget [(0, _), (1, _), (2, _), (3, _), (10, _)] ⟨rfl, rfl, rfl, rfl, rfl, trivial⟩ (fun e => ?_)
    refine c_seq (fun K8 hK8 => ?_)
    have hown1 := hown.take (m := st'.length) (by simp)
    have ee : ((t1 :: st').reverse.map i32c).take (st'.length * 1) = st'.reverse.map i32c := by simp
    rw [ee] at hown1
    clear hown hBl hl1 hl2 hg ee
    refine c_reg ?_ -- region 5 unify.go:32
    refine wl (ro_move rfl) ?_
    refine wl (ro_arith rfl rfl rfl (Go.IntWalk.i64_in _ (by omega))) ?_
    refine wl (ro_assign rfl) ?_
    refine wl_nil (x_then (hK8 _ _ ?_))
    clear hK8 K8
    refine c_seq (fun K9 hK9 => ?_)
    refine c_seq (fun K10 hK10 => ?_)
    refine c_reg ?_ -- region 6 unify.go:33
    refine wl (ro_move rfl) ?_
    refine wl (ro_cmp rfl rfl rfl) ?_
    refine wl_nil (x_then (hK10 _ _ ?_))
    clear hK10 K10
    refine wc_cond rfl (fun hc32 => ?_) (fun hc32 => ?_)
    · try simp only [decide_eq_true_eq, decide_eq_false_iff_not, Bool.not_eq_true', Bool.not_eq_false', Bool.not_eq_eq_eq_not, Bool.not_true, Bool.not_false, beq_iff_eq, bne_iff_ne, ne_eq, beq_eq_false_iff_ne, bne_eq_false_iff_eq, gt_iff_lt, ge_iff_le, Int.not_lt, Int.not_le] at hc32
      have hn40 : n1 = 40 := by omega
      refine c_seq (fun K11 hK11 => ?_)
      refine c_reg ?_ -- region 7 unify.go:34
      refine wl (ro_move rfl) ?_
      refine wl (ro_assign rfl) ?_
      refine wl (ro_assign rfl) ?_
      refine wl_nil (x_then (hK11 _ _ ?_))
      clear hK11 K11
      refine c_ret (x_thenR (x_blkR (x_thenR (x_blkR (x_thenR ?_)))))
      refine bp_ret Tryz.results114 rfl ?_
      refine ⟨?_, F1⟩
      have : occS R.abs v [t] n = (41, 8) := by rw [← hocc, hn40, occS_big]
      rw [this, hn40]
      rfl
    · try simp only [decide_eq_true_eq, decide_eq_false_iff_not, Bool.not_eq_true', Bool.not_eq_false', Bool.not_eq_eq_eq_not, Bool.not_true, Bool.not_false, beq_iff_eq, bne_iff_ne, ne_eq, beq_eq_false_iff_ne, bne_eq_false_iff_eq, gt_iff_lt, ge_iff_le, Int.not_lt, Int.not_le] at hc32
      have hn40 : n1 < 40 := by omega
      rw [if_neg (by omega)] at hcons
      obtain ⟨hdl, hdt⟩ := deref_tag wf ht1
      refine c_skip (x_then (hK9 _ _ ?_))
      clear hK9 K9
      refine forget [(0, _), (1, _), (2, _), (3, _), (10, _)] ⟨rfl, rfl, rfl, rfl, rfl, trivial⟩ (fun e => ?_)
      refine c_seq (fun K12 hK12 => ?_)
      refine c_reg ?_ -- region 8 unify.go:36
      refine wl (ro_move rfl) ?_
      refine wl (ro_move rfl) ?_
      refine wl_call rfl en_112 (deref112 H1 wf ht1) ?_
      rintro _ _ ⟨rfl, rfl⟩
      refine wl (ro_assign rfl) ?_
      refine wl_nil (x_then (hK12 _ _ ?_))
      clear hK12 K12
      refine c_seq (fun K13 hK13 => ?_)
      refine c_seq (fun K14 hK14 => ?_)
      refine c_reg ?_ -- region 9 unify.go:37
      refine wl (ro_move rfl) ?_
      refine wl (ro_move rfl) ?_
      refine wl (ro_cmp (r := decide (deref R.abs t1 = v)) rfl rfl (congrArg some (beqc _ _))) ?_
      refine wl_nil (x_then (hK14 _ _ ?_))
      clear hK14 K14
      refine wc_cond rfl (fun hc39 => ?_) (fun hc39 => ?_)
      · try simp only [decide_eq_true_eq, decide_eq_false_iff_not, Bool.not_eq_true', Bool.not_eq_false', Bool.not_eq_eq_eq_not, Bool.not_true, Bool.not_false, beq_iff_eq, bne_iff_ne, ne_eq, beq_eq_false_iff_ne, bne_eq_false_iff_eq, gt_iff_lt, ge_iff_le, Int.not_lt, Int.not_le] at hc39
        have hdv : deref R.abs t1 = v := by simpa using hc39
        refine c_seq (fun K15 hK15 => ?_)
        refine c_reg ?_ -- region 10 unify.go:38
        refine wl (ro_move rfl) ?_
        refine wl (ro_assign rfl) ?_
        refine wl (ro_assign rfl) ?_
        refine wl_nil (x_then (hK15 _ _ ?_))
        clear hK15 K15
        refine c_ret (x_thenR (x_blkR (x_thenR (x_blkR (x_thenR ?_)))))
        refine bp_ret Tryz.results114 rfl ?_
        refine ⟨?_, F1⟩
        have : occS R.abs v [t] n = (n1 + 1, 7) := by rw [← hocc, hcons, if_pos hdv]
        rw [this]
        rfl
      · try simp only [decide_eq_true_eq, decide_eq_false_iff_not, Bool.not_eq_true', Bool.not_eq_false', Bool.not_eq_eq_eq_not, Bool.not_true, Bool.not_false, beq_iff_eq, bne_iff_ne, ne_eq, beq_eq_false_iff_ne, bne_eq_false_iff_eq, gt_iff_lt, ge_iff_le, Int.not_lt, Int.not_le] at hc39
        have hdv : ¬ deref R.abs t1 = v := by simpa using hc39
        rw [if_neg hdv] at hcons
        have hkl := kidsOf_le wf hdt
        have hkb : ∀ x ∈ kidsOf R.abs (deref R.abs t1), x < R.tags.length := fun x hx => kidsOf_lt wf hdt hx
        refine c_skip (x_then (hK13 _ _ ?_))
        clear hK13 K13
        refine forget [(0, _), (1, _), (2, _), (3, _), (10, _)] ⟨rfl, rfl, rfl, rfl, rfl, trivial⟩ (fun e => ?_)
        refine c_seq (fun K16 hK16 => ?_)
        refine c_reg ?_ -- region 11 unify.go:40
        refine wl (ro_move rfl) ?_
        refine wl (ro_move rfl) ?_
        refine wl_call rfl en_102 (kids102k H1 wf hdt) ?_
        rintro _ _ ⟨oa, kc, rfl, hkv, rfl⟩
        generalize hks : kidsOf R.abs (deref R.abs t1) = ks at *
        refine wl (ro_assign rfl) ?_
        refine wl_nil (x_then (hK16 _ _ ?_))
        clear hK16 K16
        refine forget [(0, _), (1, _), (3, _), (10, _), (11, _)] ⟨rfl, rfl, rfl, rfl, rfl, trivial⟩ (fun e => ?_)
        refine c_seq (fun K17 hK17 => ?_)
        refine c_reg ?_ -- region 12 unify.go:41
        refine wl (ro_move rfl) ?_
        refine wl (ro_lenL rfl se_65) ?_
        refine wl (ro_arith rfl rfl rfl (Go.IntWalk.i64_in _ (by omega))) ?_
        refine wl (ro_assign rfl) ?_
        refine wl_nil (x_then (hK17 _ _ ?_))
        clear hK17 K17
        refine c_block ?_
        -- loop@r13: live slots [0, 1, 3, 10, 11, 12]
        refine c_loopG (fun m a' w' => ∃ k V, m = k ∧ k ≤ ks.length ∧ Own w'.heap V 21 1 ((ks.drop k) ++ st').length (((ks.drop k) ++ st').reverse.map i32c) ∧ (∀ b, V.ownBlock = some b → w.heap.size ≤ b) ∧ Fram none' w w' ∧ KV w'.heap L oa ks ∧ ∃ e, a' = Fr 59 (upds e [(0, ptr L.h), (1, i32c v), (3, .int .i64 ((n1 : Int) + 1)), (10, V), (11, .slice oa ks.length kc), (12, .int .i64 ((k : Int) - 1))]) []) ks.length ⟨ks.length, .slice (some ⟨g, 0, none⟩) st'.length cap0, rfl, Nat.le_refl _, by simpa using hown1, hob, F1, hkv, kp _ ⟨rfl, rfl, rfl, rfl, rfl, rfl, trivial⟩⟩ ?_
        clear hown1 hob F1 hkv H1
        rintro m a' w2 ⟨k, V, rfl, hk, hown2, hob2, F2, hkv2, e, rfl⟩
        refine c_seq (fun K18 hK18 => ?_)
        refine c_seq (fun K19 hK19 => ?_)
        refine c_reg ?_ -- region 13 unify.go:41
        refine wl (ro_move rfl) ?_
        refine wl (ro_cmp rfl rfl rfl) ?_
        refine wl_nil (x_then (hK19 _ _ ?_))
        clear hK19 K19
        refine wc_cond rfl (fun hc48 => ?_) (fun hc48 => ?_)
        · try simp only [decide_eq_true_eq, decide_eq_false_iff_not, Bool.not_eq_true', Bool.not_eq_false', Bool.not_eq_eq_eq_not, Bool.not_true, Bool.not_false, beq_iff_eq, bne_iff_ne, ne_eq, beq_eq_false_iff_ne, bne_eq_false_iff_eq, gt_iff_lt, ge_iff_le, Int.not_lt, Int.not_le] at hc48
          have hm0 : 0 < m := by omega
          obtain ⟨x, hx⟩ : ∃ x, ks[m - 1]? = some x := ⟨_, List.getElem?_eq_getElem (by omega)⟩
          obtain ⟨o, l, rfl, hBl, hget⟩ : ∃ o l, oa = some ⟨L.a, o, none⟩ ∧ Blk w2.heap L.a l 21 ∧ ∀ (i x : Nat), ks[i]? = some x → l[o + i * 1]? = some (i32c x) := by { rcases hkv2 with h | h; subst h; simp at hk; omega; exact h }
          refine c_skip (x_then (hK18 _ _ ?_))
          clear hK18 K18
          refine forget [(0, _), (1, _), (3, _), (10, _), (11, _), (12, _)] ⟨rfl, rfl, rfl, rfl, rfl, rfl, trivial⟩ (fun e => ?_)
          refine c_seq (fun K20 hK20 => ?_)
          refine c_block ?_
          refine c_reg ?_ -- region 15 unify.go:42
          refine wl (ro_move rfl) ?_
          refine wl (ro_move rfl) ?_
          refine wl (ro_move rfl) ?_
          refine wl (ro_indexAddr (et := 21) (k := 1) rfl rfl se_65 ((by show (_ : Int) = ((m - 1 : Nat) : Int); omega)) ((by omega))) ?_
          refine wl (ro_loadB rfl sc_21 (hBl) (hget _ _ hx)) ?_
          refine wle (eo_bs1 rfl rfl se_65 zx_21 rfl rfl rfl) ?_
          have hN := Blk.new w2 [i32c x] 21
          have hown3 := hown2.alloc (.cells [i32c x].toArray 21)
          refine wl_app (news := [i32c x]) rfl rfl se_65 zx_21 by_21 rfl hown3 hN rfl rfl (by simp [i32c, Value.oneCell']) (by simp; omega) (by simp; omega) ?_
          intro V3 w3 hown4 hgr hloc
          refine wl (ro_assign rfl) ?_
          refine wl_nil (x_blk (x_then (hK20 _ _ ?_)))
          clear hK20 K20
          refine c_reg ?_ -- region 14 unify.go:41
          refine wl (ro_move rfl) ?_
          refine wl (ro_arith rfl rfl rfl (Go.IntWalk.i64_in _ (by omega))) ?_
          refine wl (ro_assign rfl) ?_
          refine wl_nil (x_then ?_)
          have hmd : ks.drop (m - 1) = x :: ks.drop m := by
            have := List.drop_eq_getElem_cons (l := ks) (i := m - 1) (by omega)
            rw [this, (List.getElem?_eq_some_iff.1 hx).2, show m - 1 + 1 = m by omega]
          refine ⟨m - 1, by omega, m - 1, V3, rfl, by omega, ?_, ?_, ?_, ?_, kp _ ⟨rfl, rfl, rfl, rfl, rfl, ?_, trivial⟩⟩
          · rw [hmd]
            simpa [Nat.add_comm, Nat.add_assoc, Nat.add_left_comm] using hown4
          · intro b hb
            rcases hloc with h | h
            · rw [h] at hb; exact hob2 b hb
            · rw [h] at hb; cases hb; have := F2.size; simp; omega
          · exact F2.thenAlloc.thenGrown hgr (fun b hb => .inr (hob2 b hb))
          · exact hkv2.fram (F := fun b => w.heap.size ≤ b) ((Fram.refl _ w2).thenAlloc.thenGrown hgr (fun b hb => .inl (hob2 b hb))) (fun h => by have := H.lt L.foot_a; omega)
          · show some (Value.int .i64 ((m : Int) - 1 - 1)) = some (.int .i64 (((m - 1 : Nat) : Int) - 1))
            rw [show ((m - 1 : Nat) : Int) = (m : Int) - 1 by omega]
        · try simp only [decide_eq_true_eq, decide_eq_false_iff_not, Bool.not_eq_true', Bool.not_eq_false', Bool.not_eq_eq_eq_not, Bool.not_true, Bool.not_false, beq_iff_eq, bne_iff_ne, ne_eq, beq_eq_false_iff_ne, bne_eq_false_iff_eq, gt_iff_lt, ge_iff_le, Int.not_lt, Int.not_le] at hc48
          have hm0 : m = 0 := by omega
          refine c_exit (x_thenX (x_thenX (x_blkX (x_blk (x_then ?_)))))
          subst hm0
          refine ⟨41 - (n1 + 1), by omega, ks ++ st', n1 + 1, V, rfl, by omega, by omega, ?_, ?_, ?_, by simpa using hown2, hob2, F2, kp _ ⟨rfl, rfl, rfl, rfl, trivial⟩⟩
          · intro x hx
            rcases List.mem_append.1 hx with h | h
            · exact hkb x h
            · exact hst x (by simp [h])
          · rw [← hcons]; exact hocc
          · simp at hlen ⊢; omega
  · try simp only [decide_eq_true_eq, decide_eq_false_iff_not, Bool.not_eq_true', Bool.not_eq_false', Bool.not_eq_eq_eq_not, Bool.not_true, Bool.not_false, beq_iff_eq, bne_iff_ne, ne_eq, beq_eq_false_iff_ne, bne_eq_false_iff_eq, gt_iff_lt, ge_iff_le, Int.not_lt, Int.not_le] at hc17
    have hnil : st = [] := by { cases st with | nil => rfl | cons a b => simp at hc17; omega }
    refine c_exit (x_thenX (x_thenX (x_blkX (x_then (hK3 _ _ ?_)))))
    clear hK4 K4 hK3 K3
    refine forget [(3, _)] ⟨rfl, trivial⟩ (fun e => ?_)
    refine c_seq (fun K21 hK21 => ?_)
    refine c_reg ?_ -- region 16 unify.go:45
    refine wl (ro_move rfl) ?_
    refine wl (ro_assign rfl) ?_
    refine wl (ro_assign rfl) ?_
    refine wl_nil (x_then (hK21 _ _ ?_))
    clear hK21 K21
    refine c_ret ?_
    refine bp_ret Tryz.results114 rfl ?_
    refine ⟨?_, F1⟩
    have : occS R.abs v [t] n = (n1, 0) := by rw [← hocc, hnil, occS_nil _ _ _ (by omega)]
    rw [this]
    rfl

end Go.Proofs.Qxb6500569aGreat
