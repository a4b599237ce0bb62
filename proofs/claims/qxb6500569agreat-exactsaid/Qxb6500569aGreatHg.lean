import Derived.Test.Qxb6500569aGreatHf
import Derived.Test.Qxb6500569aGreatFp
import Derived.Test.Qxb6500569aGreatSc
/- The real heap: the unification. -/
namespace Go.Proofs.Qxb6500569aGreat
set_option linter.unusedVariables false
set_option linter.unusedSimpArgs false

def prc (p : Nat × Nat) : List Value := [i32c p.1, i32c p.2]

theorem prc_len (l : List (Nat × Nat)) : (l.flatMap prc).length = l.length * 2 := by
  induction l with
  | nil => rfl
  | cons p l ih => simp [prc, ih]; omega

theorem own_seg {l xs : List Value} {m k j : Nat} (h : l.take m = xs) (hk : k + j ≤ m) : (l.drop k).take j = (xs.drop k).take j := by
  rw [← h, List.drop_take, List.take_take, Nat.min_eq_left (by omega)]

theorem prc_take (p : Nat × Nat) (st : List (Nat × Nat)) : ((p :: st).reverse.flatMap prc).take (st.length * 2) = st.reverse.flatMap prc := by
  rw [List.reverse_cons, List.flatMap_append]
  rw [List.take_append_of_le_length (by rw [prc_len]; simp), List.take_of_length_le (by rw [prc_len]; simp)]

theorem prc_top (p : Nat × Nat) (st : List (Nat × Nat)) : (((p :: st).reverse.flatMap prc).drop (st.length * 2)).take 2 = prc p := by
  rw [List.reverse_cons, List.flatMap_append]
  rw [List.drop_append_of_le_length (by rw [prc_len]; simp), List.drop_of_length_le (by rw [prc_len]; simp)]
  simp [prc]

structure UA (w : World) (L : HL) (R1 : RH) (V : Value) (st : List (Nat × Nat)) (w' : World) : Prop where
  heap : HeapAt w'.heap L R1
  own : Own w'.heap V 201 2 st.length (st.reverse.flatMap prc)
  loc : ∀ b, V.ownBlock = some b → w.heap.size ≤ b
  fr : Fram L.foot w w'

theorem UA.none {w w1 w2 : World} {L : HL} {R1 : RH} {V : Value} {st : List (Nat × Nat)} (h : UA w L R1 V st w1) (hf : Fram none' w1 w2) : UA w L R1 V st w2 :=
  ⟨h.heap.fram0 hf, h.own.fram hf (fun _ _ h => h), h.loc, h.fr.trans (hf.mono (fun _ _ h => h.elim))⟩

theorem UA.next {w w1 w2 : World} {L : HL} {R R1 R2 : RH} {V : Value} {st : List (Nat × Nat)} (h : UA w L R1 V st w1) (H0 : HeapAt w.heap L R) (hp : HPost w1 L R2 w2) : UA w L R2 V st w2 :=
  ⟨hp.1, h.own.fram hp.2 (fun b hb hf => by have := h.loc b hb; have := H0.lt hf; omega), h.loc, h.fr.trans hp.2⟩

theorem hOf_var {R : RH} {a : Nat} (h : R.tags[a]? = some 0) : hOf R.abs a = [] := by simp [hOf, abs_of_var h]

/-- What the unification leaves. -/
def UPost (w : World) (L : HL) (R : RH) (a b : Nat) (r : Value) (w' : World) : Prop :=
  ∃ R', HPost w L R' w' ∧ WF R' ∧ R'.snaps = R.snaps ∧ R'.marks = R.marks ∧
    (if (uniS [(a, b)] R.abs 0).2.1 = 0 then r = .tuple #[i64c (uniS [(a, b)] R.abs 0).1, i64c 0] ∧ R'.abs = (uniS [(a, b)] R.abs 0).2.2
      else r = .tuple #[i64c 0, i64c (uniS [(a, b)] R.abs 0).2.1] ∧ R'.abs = R.abs)

set_option maxHeartbeats 1600000 in
theorem Unify78 {w : World} {L : HL} {R : RH} (H : HeapAt w.heap L R) (wf : WF R) {a b : Nat} (ha : a < R.tags.length) (hb : b < R.tags.length) :
    Ret Tryz.prog 78 [ptr L.h, i64c a, i64c b] w (UPost w L R a b) := by
  have hsz := wf.core.size
  have hB := H.st
  refine ret_of Tryz.func78 rfl Tryz.ntmps78 rfl ?_
  refine c_seq (fun K1 hK1 => ?_)
  refine c_reg ?_ -- region 0 unify.go:50
  refine wl (ro_assign rfl) ?_
  refine wl (ro_assign rfl) ?_
  refine wl_nil (x_then (hK1 _ _ ?_))
  clear hK1 K1
  -- scope@r1 label 0: live slots [0, 9, 11]
  refine c_scope (fun l m a' w' => l = 0 ∧ m = 0 ∧ ∃ (R1 : RH) (ec : Nat), HeapAt w'.heap L R1 ∧ Fram L.foot w w' ∧ Ext R R1 ∧ WFc R1 ∧ (uniS [(a, b)] R.abs 0).2.1 = ec ∧ ec ≠ 0 ∧ ∃ e, a' = Fr 184 (upds e [(0, ptr L.h), (9, i64c R.trail.length), (11, i64c ec)]) []) ?_ ?_
  · skip
    refine c_seq (fun K2 hK2 => ?_)
    refine c_reg ?_ -- region 1 unify.go:51
    refine wl (ro_move rfl) ?_
    refine wl (ro_nilCheck rfl) ?_
    refine wl (ro_fieldAddr (k := 0) rfl fo_69_0) ?_
    refine wl (ro_loadB rfl sc_64 (by assumption) rfl) ?_
    refine wl (ro_lenL rfl se_64) ?_
    refine wl (ro_assign rfl) ?_
    refine wl_nil (x_then (hK2 _ _ ?_))
    clear hK2 K2
    refine c_seq (fun K3 hK3 => ?_)
    refine c_seq (fun K4 hK4 => ?_)
    refine c_reg ?_ -- region 2 unify.go:52
    refine wl (ro_move rfl) ?_
    refine wl (ro_cmp (r := false) rfl rfl (by simp)) ?_
    refine wl (ro_move rfl) ?_
    refine wlg_yes rfl (ro_move rfl) ?_
    refine wlg_yes rfl (ro_move rfl) ?_
    refine wlg_yes rfl (ro_cmp (r := false) rfl rfl (by simp; omega)) ?_
    refine wl (ro_pick rfl rfl rfl) ?_
    refine wl (ro_move rfl) ?_
    refine wlg_yes rfl (ro_move rfl) ?_
    refine wlg_yes rfl (ro_cmp (r := false) rfl rfl (by simp)) ?_
    refine wl (ro_pick rfl rfl rfl) ?_
    refine wl (ro_move rfl) ?_
    refine wlg_yes rfl (ro_move rfl) ?_
    refine wlg_yes rfl (ro_move rfl) ?_
    refine wlg_yes rfl (ro_cmp (r := false) rfl rfl (by simp; omega)) ?_
    refine wl (ro_pick rfl rfl rfl) ?_
    refine wl_nil (x_then (hK4 _ _ ?_))
    clear hK4 K4
    refine wc_condF rfl ?_
    refine c_skip (x_then (hK3 _ _ ?_))
    clear hK3 K3
    refine forget [(0, _), (1, _), (2, _)] ⟨rfl, rfl, rfl, trivial⟩ (fun e => ?_)
    refine c_seq (fun K5 hK5 => ?_)
    refine c_reg ?_ -- region 4 unify.go:55
    refine wl (ro_move rfl) ?_
    refine wl (ro_nilCheck rfl) ?_
    refine wl (ro_fieldAddr (k := 4) rfl fo_69_4) ?_
    refine wl (ro_loadB rfl sc_65 (by assumption) rfl) ?_
    refine wl (ro_lenL rfl se_65) ?_
    refine wl (ro_assign rfl) ?_
    refine wl_nil (x_then (hK5 _ _ ?_))
    clear hK5 K5
    refine forget [(0, _), (1, _), (2, _), (9, _)] ⟨rfl, rfl, rfl, rfl, trivial⟩ (fun e => ?_)
    refine c_seq (fun K6 hK6 => ?_)
    refine c_reg ?_ -- region 5 unify.go:56
    refine wl (ro_assign rfl) ?_
    refine wl (ro_assign rfl) ?_
    refine wl_nil (x_then (hK6 _ _ ?_))
    clear hK6 K6
    refine forget [(0, _), (1, _), (2, _), (9, _), (10, _)] ⟨rfl, rfl, rfl, rfl, rfl, trivial⟩ (fun e => ?_)
    refine c_seq (fun K7 hK7 => ?_)
    refine c_reg ?_ -- region 6 unify.go:57
    refine wl (ro_move rfl) ?_
    refine wl (ro_conv rfl sc_3 in_21 (Go.IntWalk.i32_in _ (by omega))) ?_
    refine wl (ro_move rfl) ?_
    refine wl (ro_conv rfl sc_3 in_21 (Go.IntWalk.i32_in _ (by omega))) ?_
    refine wl (ro_build rfl bld_201_0_1) ?_
    refine wle (eo_bs1 rfl rfl se_202 zx_201 rfl rfl rfl) ?_
    refine wl (ro_assign rfl) ?_
    refine wl_nil (x_then (hK7 _ _ ?_))
    clear hK7 K7
    refine forget [(0, _), (9, _), (10, _), (12, _)] ⟨rfl, rfl, rfl, rfl, trivial⟩ (fun e => ?_)
    refine c_seq (fun K8 hK8 => ?_)
    refine c_block ?_
    -- loop@r7: live slots [0, 9, 10, 12]
    refine c_loopG (fun m a' w' => ∃ st n1 V R1, m = 41 - n1 ∧ n1 ≤ 40 ∧ (∀ p ∈ st, p.1 < R.tags.length ∧ p.2 < R.tags.length) ∧ uniS st R1.abs n1 = uniS [(a, b)] R.abs 0 ∧ st.length ≤ 4 * n1 + 1 ∧ UA w L R1 V st w' ∧ Ext R R1 ∧ WFc R1 ∧ ∃ e, a' = Fr 184 (upds e [(0, ptr L.h), (9, i64c R.trail.length), (10, i64c n1), (12, V)]) []) 41 ⟨[(a, b)], 0, _, R, rfl, by omega, by simp; exact ⟨ha, hb⟩, rfl, by simp, ⟨H.alloc _, Own.bs w [i32c a, i32c b] 201 2 1 rfl (by omega), (fun b hb => by cases hb; exact Nat.le_refl _), Fram.alloc _ _ _⟩, Ext.refl R, wf.core, kp _ ⟨rfl, rfl, rfl, rfl, trivial⟩⟩ ?_
    rintro m a' w1 ⟨st, n1, V, R1, rfl, hn1, hst, hinv, hlen, U, E1, C1, e, rfl⟩
    obtain ⟨a0, cap0, rfl⟩ := U.own.form
    have htl := E1.tlen
    refine c_block ?_
    refine c_seq (fun K9 hK9 => ?_)
    refine c_seq (fun K10 hK10 => ?_)
    refine c_reg ?_ -- region 7 unify.go:59
    refine wl (ro_move rfl) ?_
    refine wl (ro_lenL rfl se_202) ?_
    refine wl (ro_cmp rfl rfl rfl) ?_
    refine wl_nil (x_then (hK10 _ _ ?_))
    clear hK10 K10
    refine wc_cond rfl (fun hc55 => ?_) (fun hc55 => ?_)
    · try simp only [decide_eq_true_eq, decide_eq_false_iff_not, Bool.not_eq_true', Bool.not_eq_false', Bool.not_eq_eq_eq_not, Bool.not_true, Bool.not_false, beq_iff_eq, bne_iff_ne, ne_eq, beq_eq_false_iff_ne, bne_eq_false_iff_eq, gt_iff_lt, ge_iff_le, Int.not_lt, Int.not_le] at hc55
      have hnil : st = [] := by { cases st with | nil => rfl | cons a b => simp at hc55; omega }
      refine c_seq (fun K11 hK11 => ?_)
      refine c_reg ?_ -- region 8 unify.go:60
      refine wl (ro_move rfl) ?_
      refine wl (ro_assign rfl) ?_
      refine wl (ro_assign rfl) ?_
      refine wl_nil (x_then (hK11 _ _ ?_))
      clear hK11 K11
      refine c_ret (x_thenR (x_blkR (x_thenR (x_blkR (x_thenR (x_scR ?_))))))
      refine bp_ret Tryz.results78 rfl ?_
      refine ⟨R1, ⟨U.heap, U.fr⟩, wf_ext wf E1 C1, snaps_ext wf E1, E1.marks, ?_⟩
      rw [← hinv, hnil, uniS_nil _ _ hn1]
      exact ⟨rfl, rfl⟩
    · try simp only [decide_eq_true_eq, decide_eq_false_iff_not, Bool.not_eq_true', Bool.not_eq_false', Bool.not_eq_eq_eq_not, Bool.not_true, Bool.not_false, beq_iff_eq, bne_iff_ne, ne_eq, beq_eq_false_iff_ne, bne_eq_false_iff_eq, gt_iff_lt, ge_iff_le, Int.not_lt, Int.not_le] at hc55
      obtain ⟨⟨a1, b1⟩, st', rfl⟩ : ∃ t1 st', st = t1 :: st' := by { cases st with | nil => simp at hc55 | cons a b => exact ⟨a, b, rfl⟩ }
      obtain ⟨g, cap, l, hV, hBl, hc1, hc2, hl1, hl2⟩ := U.own.pos (by simp)
      cases hV
      obtain ⟨ha1, hb1⟩ := hst (a1, b1) (by simp)
      have hlen' : st'.length ≤ 4 * n1 := by simp at hlen; omega
      have hcons := uniS_cons a1 b1 st' R1.abs n1 hn1
      have hseg : (l.drop (0 + st'.length * 2)).take 2 = [i32c a1, i32c b1] := by
        rw [Nat.zero_add, own_seg hl2 (by simp; omega), prc_top]; rfl
      refine c_skip (x_then (hK9 _ _ ?_))
      clear hK9 K9
      refine forget [(0, _), (9, _), (10, _), (12, _)] ⟨rfl, rfl, rfl, rfl, trivial⟩ (fun e => ?_)
      refine c_seq (fun K12 hK12 => ?_)
      refine c_reg ?_ -- region 9 unify.go:62
      refine wl (ro_move rfl) ?_
      refine wl (ro_move rfl) ?_
      refine wl (ro_lenL rfl se_202) ?_
      refine wl (ro_arith rfl rfl rfl (Go.IntWalk.i64_in _ (by omega))) ?_
      refine wl (ro_indexAddr (et := 201) (k := 2) rfl rfl se_202 ((by show (_ : Int) = ((st'.length : Nat) : Int); simp)) ((by simp))) ?_
      refine wl (ro_loadAggB rfl ag_201 (hBl) (rfl) (hseg)) ?_
      refine wle (eo_alloc ze_201) ?_
      refine wls (so_storeAggB rfl rfl (by simp [Value.oneCell', i32c, u8c, i64c, i8c]) sz_201 rfl (Blk.new _ _ _) (by simp)) ?_
      have U1 := U.none (((Fram.refl none' w1).thenAlloc (o := .cells [Value.int .i32 0, .int .i32 0].toArray 201)).thenSet (b := w1.heap.size) (cs := [i32c a1, i32c b1].toArray) (.inr (Nat.le_refl _)))
      have B1 := (Blk.new w1 [Value.int .i32 0, .int .i32 0] 201).set [i32c a1, i32c b1]
      refine gen2 (A := fun w2 => UA w L R1 (.slice (some ⟨g, 0, none⟩) ((a1, b1) :: st').length cap0) ((a1, b1) :: st') w2) (B := fun w2 => Blk w2.heap w1.heap.size [i32c a1, i32c b1] 201) (C := fun w2 => WL _ _ _ _ _ w2) U1 B1 ?_
      clear U1 B1
      intro w2 U1 B1
      refine wl_nil (x_then (hK12 _ _ ?_))
      clear hK12 K12
      refine forget [(0, _), (9, _), (10, _), (12, _), (13, _)] ⟨rfl, rfl, rfl, rfl, rfl, trivial⟩ (fun e => ?_)
      refine c_seq (fun K13 hK13 => ?_)
      refine c_reg ?_ -- region 10 unify.go:63
      refine wl (ro_move rfl) ?_
      refine wl (ro_move rfl) ?_
      refine wl (ro_lenL rfl se_202) ?_
      refine wl (ro_arith rfl rfl rfl (Go.IntWalk.i64_in _ (by omega))) ?_
      refine wl (ro_sliceH (h := st'.length) rfl rfl se_202 (by simp) (by simp at hc1; omega)) ?_
      refine wl (ro_assign rfl) ?_
      have U2 : UA w L R1 (.slice (some ⟨g, 0, none⟩) st'.length cap0) st' w2 := ⟨U1.heap, by have := U1.own.take (m := st'.length) (by simp); rwa [prc_take] at this, fun b hb => U1.loc b hb, U1.fr⟩
      have H2 := U2.heap
      have hst' : ∀ p ∈ st', p.1 < R.tags.length ∧ p.2 < R.tags.length := fun p hp => hst p (by simp [hp])
      clear U U1 hBl hl2 hst hseg
      refine wl_nil (x_then (hK13 _ _ ?_))
      clear hK13 K13
      refine forget [(0, _), (9, _), (10, _), (12, _), (13, _)] ⟨rfl, rfl, rfl, rfl, rfl, trivial⟩ (fun e => ?_)
      refine c_seq (fun K14 hK14 => ?_)
      refine c_reg ?_ -- region 11 unify.go:64
      refine wl (ro_move rfl) ?_
      refine wl (ro_arith rfl rfl rfl (Go.IntWalk.i64_in _ (by omega))) ?_
      refine wl (ro_assign rfl) ?_
      refine wl_nil (x_then (hK14 _ _ ?_))
      clear hK14 K14
      refine c_seq (fun K15 hK15 => ?_)
      refine c_seq (fun K16 hK16 => ?_)
      refine c_reg ?_ -- region 12 unify.go:65
      refine wl (ro_move rfl) ?_
      refine wl (ro_cmp rfl rfl rfl) ?_
      refine wl_nil (x_then (hK16 _ _ ?_))
      clear hK16 K16
      refine wc_cond rfl (fun hc71 => ?_) (fun hc71 => ?_)
      · try simp only [decide_eq_true_eq, decide_eq_false_iff_not, Bool.not_eq_true', Bool.not_eq_false', Bool.not_eq_eq_eq_not, Bool.not_true, Bool.not_false, beq_iff_eq, bne_iff_ne, ne_eq, beq_eq_false_iff_ne, bne_eq_false_iff_eq, gt_iff_lt, ge_iff_le, Int.not_lt, Int.not_le] at hc71
        have hn40 : n1 = 40 := by omega
        refine c_seq (fun K17 hK17 => ?_)
        refine c_reg ?_ -- region 13 unify.go:66
        refine wl (ro_assign rfl) ?_
        refine wl_nil (x_then (hK17 _ _ ?_))
        clear hK17 K17
        refine c_goto (x_thenG (x_blkG (x_thenG (x_blkG (x_thenG (x_scG rfl ?_))))))
        refine ⟨0, rfl, rfl, R1, 8, U2.heap, U2.fr, E1, C1, ?_, by omega, kp _ ⟨rfl, rfl, rfl, trivial⟩⟩
        rw [← hinv, hcons, if_pos (by omega)]
      · try simp only [decide_eq_true_eq, decide_eq_false_iff_not, Bool.not_eq_true', Bool.not_eq_false', Bool.not_eq_eq_eq_not, Bool.not_true, Bool.not_false, beq_iff_eq, bne_iff_ne, ne_eq, beq_eq_false_iff_ne, bne_eq_false_iff_eq, gt_iff_lt, ge_iff_le, Int.not_lt, Int.not_le] at hc71
        have hn40 : n1 < 40 := by omega
        rw [if_neg (by omega)] at hcons
        obtain ⟨hdx, htx⟩ := deref_tag C1 (a := a1) (by omega)
        obtain ⟨hdy, hty⟩ := deref_tag C1 (a := b1) (by omega)
        refine c_skip (x_then (hK15 _ _ ?_))
        clear hK15 K15
        refine forget [(0, _), (9, _), (10, _), (12, _), (13, _)] ⟨rfl, rfl, rfl, rfl, rfl, trivial⟩ (fun e => ?_)
        refine c_seq (fun K18 hK18 => ?_)
        refine c_reg ?_ -- region 14 unify.go:69
        refine wl (ro_move rfl) ?_
        refine wl (ro_fieldAddr (k := 0) rfl fo_201_0) ?_
        refine wl (ro_loadB rfl sc_21 (by assumption) rfl) ?_
        refine wl_call rfl en_112 (deref112 H2 C1 (by omega)) ?_
        rintro _ w2 ⟨rfl, rfl⟩
        refine wl (ro_assign rfl) ?_
        refine wl_nil (x_then (hK18 _ _ ?_))
        clear hK18 K18
        refine forget [(0, _), (9, _), (10, _), (12, _), (13, _), (14, _)] ⟨rfl, rfl, rfl, rfl, rfl, rfl, trivial⟩ (fun e => ?_)
        refine c_seq (fun K19 hK19 => ?_)
        refine c_reg ?_ -- region 15 unify.go:70
        refine wl (ro_move rfl) ?_
        refine wl (ro_fieldAddr (k := 1) rfl fo_201_1) ?_
        refine wl (ro_loadB rfl sc_21 (by assumption) rfl) ?_
        refine wl_call rfl en_112 (deref112 H2 C1 (by omega)) ?_
        rintro _ w2 ⟨rfl, rfl⟩
        refine wl (ro_assign rfl) ?_
        refine wl_nil (x_then (hK19 _ _ ?_))
        clear hK19 K19
        refine c_seq (fun K20 hK20 => ?_)
        refine c_seq (fun K21 hK21 => ?_)
        generalize deref R1.abs a1 = x at *
        generalize deref R1.abs b1 = y at *
        refine c_reg ?_ -- region 16 unify.go:71
        refine wl (ro_move rfl) ?_
        refine wl (ro_move rfl) ?_
        refine wl (ro_cmp (r := decide (x = y)) rfl rfl (congrArg some (beqc _ _))) ?_
        refine wl_nil (x_then (hK21 _ _ ?_))
        clear hK21 K21
        refine wc_cond rfl (fun hc82 => ?_) (fun hc82 => ?_)
        · try simp only [decide_eq_true_eq, decide_eq_false_iff_not, Bool.not_eq_true', Bool.not_eq_false', Bool.not_eq_eq_eq_not, Bool.not_true, Bool.not_false, beq_iff_eq, bne_iff_ne, ne_eq, beq_eq_false_iff_ne, bne_eq_false_iff_eq, gt_iff_lt, ge_iff_le, Int.not_lt, Int.not_le] at hc82
          have hxy : x = y := by simpa using hc82
          refine c_exit (x_thenX (x_blkX (x_then ?_)))
          refine ⟨41 - (n1 + 1), by omega, st', n1 + 1, _, R1, rfl, by omega, hst', ?_, by omega, U2, E1, C1, kp _ ⟨rfl, rfl, rfl, rfl, trivial⟩⟩
          rw [← hinv, hcons, if_pos hxy]
        · try simp only [decide_eq_true_eq, decide_eq_false_iff_not, Bool.not_eq_true', Bool.not_eq_false', Bool.not_eq_eq_eq_not, Bool.not_true, Bool.not_false, beq_iff_eq, bne_iff_ne, ne_eq, beq_eq_false_iff_ne, bne_eq_false_iff_eq, gt_iff_lt, ge_iff_le, Int.not_lt, Int.not_le] at hc82
          have hxy : ¬ x = y := by simpa using hc82
          rw [if_neg hxy] at hcons
          obtain ⟨tx, hx, htx⟩ : ∃ tx, R1.tags[x]? = some tx ∧ (tx = 0 ∨ tx = 1) := by { rcases htx with h | h; exact ⟨0, h, .inl rfl⟩; exact ⟨1, h, .inr rfl⟩ }
          obtain ⟨ty, hy, hty⟩ : ∃ ty, R1.tags[y]? = some ty ∧ (ty = 0 ∨ ty = 1) := by { rcases hty with h | h; exact ⟨0, h, .inl rfl⟩; exact ⟨1, h, .inr rfl⟩ }
          have hB2 := H2.st
          obtain ⟨j1, hT, _⟩ := H2.tags
          refine c_skip (x_then (hK20 _ _ ?_))
          clear hK20 K20
          refine c_seq (fun K22 hK22 => ?_)
          refine c_seq (fun K23 hK23 => ?_)
          refine c_pi [(0, false), (1, false), (2, false), (3, false), (4, false), (5, false), (6, false), (7, false), (8, false), (9, false), (10, false), (11, false), (12, false), (13, false), (14, false), (15, false), (16, false), (17, false)] (SameH _) mixed (by kernel_rfl) rfl (by kernel_rfl) (po_then (po_then (po_blk (po_then (po_blk (po_then (po_sc (po_bp)))))))) (sameH_now _ _) ?_ -- region 17 unify.go:74
          refine pi_ro rfl (fun w hS => ro_move rfl) ?_
          refine pi_ro rfl (fun w hS => ro_nilCheck rfl) ?_
          refine pi_ro rfl (fun w hS => ro_fieldAddr (k := 0) rfl fo_69_0) ?_
          refine pi_ro rfl (fun w hS => ro_loadB rfl sc_64 (Blk.of_heap (by assumption) hS) rfl) ?_
          refine pi_ro rfl (fun w hS => ro_move rfl) ?_
          refine pi_ro rfl (fun w hS => ro_indexAddr (et := 177) (k := 1) rfl rfl se_64 rfl (hdx)) ?_
          refine pi_ro rfl (fun w hS => ro_loadB rfl sc_177 (Blk.of_heap hT hS) (getMap hx)) ?_
          refine pi_ro rfl (fun w hS => ro_bits (r := (tx : Int)) rfl rfl (by rcases htx with rfl | rfl <;> rfl)) ?_
          refine pi_ro rfl (fun w hS => ro_shl rfl rfl (by omega)) ?_
          refine pi_ro rfl (fun w hS => ro_move rfl) ?_
          refine pi_ro rfl (fun w hS => ro_nilCheck rfl) ?_
          refine pi_ro rfl (fun w hS => ro_fieldAddr (k := 0) rfl fo_69_0) ?_
          refine pi_ro rfl (fun w hS => ro_loadB rfl sc_64 (Blk.of_heap (by assumption) hS) rfl) ?_
          refine pi_ro rfl (fun w hS => ro_move rfl) ?_
          refine pi_ro rfl (fun w hS => ro_indexAddr (et := 177) (k := 1) rfl rfl se_64 rfl (hdy)) ?_
          refine pi_ro rfl (fun w hS => ro_loadB rfl sc_177 (Blk.of_heap hT hS) (getMap hy)) ?_
          refine pi_ro rfl (fun w hS => ro_bits (r := (ty : Int)) rfl rfl (by rcases hty with rfl | rfl <;> rfl)) ?_
          refine pi_ro rfl (fun w hS => ro_bits (r := ((2 * tx + ty : Nat) : Int)) rfl rfl (by rcases htx with rfl | rfl <;> rcases hty with rfl | rfl <;> rfl)) ?_
          refine pi_nil (x_then (hK23 _ _ ?_))
          clear hK23 K23
          refine c_block ?_
          refine forget [(0, _), (9, _), (10, _), (12, _), (14, _), (15, _), (100, _)] ⟨rfl, rfl, rfl, rfl, rfl, rfl, rfl, trivial⟩ (fun e => ?_)
          refine c_seq (fun K24 hK24 => ?_)
          have U3 := U2.none (Fram.drew none' _ (w2.drawn + 1))
          have H3 := U3.heap
          refine gen2 (A := fun w3 => UA w L R1 (.slice (some ⟨g, 0, none⟩) st'.length cap0) st' w3) (B := fun w3 => HeapAt w3.heap L R1) (C := fun w3 => WC _ _ _ _ w3) U3 H3 ?_
          clear U3 H3 U2 H2 hT hB2
          intro w3 U3 H3
          refine c_reg ?_ -- region 18 unify.go:75
          refine wl (ro_cmp (r := decide (tx = 0 ∧ ty = 0)) rfl rfl (by rcases htx with rfl | rfl <;> rcases hty with rfl | rfl <;> rfl)) ?_
          refine wl (ro_assign rfl) ?_
          refine wl_nil (x_then (hK24 _ _ ?_))
          clear hK24 K24
          refine wc_cond rfl (fun hc101 => ?_) (fun hc101 => ?_)
          · try simp only [decide_eq_true_eq, decide_eq_false_iff_not, Bool.not_eq_true', Bool.not_eq_false', Bool.not_eq_eq_eq_not, Bool.not_true, Bool.not_false, beq_iff_eq, bne_iff_ne, ne_eq, beq_eq_false_iff_ne, bne_eq_false_iff_eq, gt_iff_lt, ge_iff_le, Int.not_lt, Int.not_le] at hc101
            have h00 : tx = 0 ∧ ty = 0 := by simpa using hc101
            obtain ⟨rfl, rfl⟩ := h00
            rw [if_pos ⟨hOf_var hx, hOf_var hy⟩] at hcons
            refine c_seq (fun K25 hK25 => ?_)
            refine c_seq (fun K26 hK26 => ?_)
            refine c_reg ?_ -- region 19 unify.go:76
            refine wl (ro_move rfl) ?_
            refine wl (ro_move rfl) ?_
            refine wl (ro_cmp rfl rfl rfl) ?_
            refine wl_nil (x_then (hK26 _ _ ?_))
            clear hK26 K26
            refine wc_cond rfl (fun hc105 => ?_) (fun hc105 => ?_)
            · try simp only [decide_eq_true_eq, decide_eq_false_iff_not, Bool.not_eq_true', Bool.not_eq_false', Bool.not_eq_eq_eq_not, Bool.not_true, Bool.not_false, beq_iff_eq, bne_iff_ne, ne_eq, beq_eq_false_iff_ne, bne_eq_false_iff_eq, gt_iff_lt, ge_iff_le, Int.not_lt, Int.not_le] at hc105
              have hlt : x < y := by omega
              rw [if_pos hlt] at hcons
              refine c_reg ?_ -- region 20 unify.go:77
              refine wl (ro_move rfl) ?_
              refine wl (ro_move rfl) ?_
              refine wl (ro_assign rfl) ?_
              refine wl (ro_assign rfl) ?_
              refine wl_nil (x_then (hK25 _ _ ?_))
              clear hK25 K25
              refine forget [(0, _), (9, _), (10, _), (12, _), (14, _), (15, _)] ⟨rfl, rfl, rfl, rfl, rfl, rfl, trivial⟩ (fun e => ?_)
              refine c_seq (fun K27 hK27 => ?_)
              refine c_reg ?_ -- region 21 unify.go:79
              refine wl (ro_move rfl) ?_
              refine wl (ro_move rfl) ?_
              refine wl (ro_move rfl) ?_
              refine wl_call rfl en_113 (bind113 H3 C1 hy hdx) ?_
              intro r w4 hp
              refine wl_nil (x_then (hK27 _ _ ?_))
              clear hK27 K27
              refine c_exit (x_blkY rfl (x_thenX (x_blkX (x_then ?_))))
              refine ⟨41 - (n1 + 1), by omega, st', n1 + 1, _, R1.bind y x, rfl, by omega, hst', ?_, by omega, U3.next H hp, E1.bind hy, wfc_bind C1 hy hdx (.inr hlt), kp _ ⟨rfl, rfl, rfl, rfl, trivial⟩⟩
              rw [← hinv, hcons, abs_bind C1 hy]; rfl
            · try simp only [decide_eq_true_eq, decide_eq_false_iff_not, Bool.not_eq_true', Bool.not_eq_false', Bool.not_eq_eq_eq_not, Bool.not_true, Bool.not_false, beq_iff_eq, bne_iff_ne, ne_eq, beq_eq_false_iff_ne, bne_eq_false_iff_eq, gt_iff_lt, ge_iff_le, Int.not_lt, Int.not_le] at hc105
              have hlt : y < x := by omega
              rw [if_neg (by omega)] at hcons
              refine c_skip (x_then (hK25 _ _ ?_))
              clear hK25 K25
              refine forget [(0, _), (9, _), (10, _), (12, _), (14, _), (15, _)] ⟨rfl, rfl, rfl, rfl, rfl, rfl, trivial⟩ (fun e => ?_)
              refine c_seq (fun K28 hK28 => ?_)
              refine c_reg ?_ -- region 21 unify.go:79
              refine wl (ro_move rfl) ?_
              refine wl (ro_move rfl) ?_
              refine wl (ro_move rfl) ?_
              refine wl_call rfl en_113 (bind113 H3 C1 hx hdy) ?_
              intro r w4 hp
              refine wl_nil (x_then (hK28 _ _ ?_))
              clear hK28 K28
              refine c_exit (x_blkY rfl (x_thenX (x_blkX (x_then ?_))))
              refine ⟨41 - (n1 + 1), by omega, st', n1 + 1, _, R1.bind x y, rfl, by omega, hst', ?_, by omega, U3.next H hp, E1.bind hx, wfc_bind C1 hx hdy (.inr hlt), kp _ ⟨rfl, rfl, rfl, rfl, trivial⟩⟩
              rw [← hinv, hcons, abs_bind C1 hx]; rfl
          · try simp only [decide_eq_true_eq, decide_eq_false_iff_not, Bool.not_eq_true', Bool.not_eq_false', Bool.not_eq_eq_eq_not, Bool.not_true, Bool.not_false, beq_iff_eq, bne_iff_ne, ne_eq, beq_eq_false_iff_ne, bne_eq_false_iff_eq, gt_iff_lt, ge_iff_le, Int.not_lt, Int.not_le] at hc101
            have h00 : ¬ (tx = 0 ∧ ty = 0) := by simpa using hc101
            refine c_seq (fun K29 hK29 => ?_)
            refine c_reg ?_ -- region 22 unify.go:81
            refine wl (ro_cmp (r := decide (tx = 1 ∧ ty = 1)) rfl rfl (by rcases htx with rfl | rfl <;> rcases hty with rfl | rfl <;> rfl)) ?_
            refine wl (ro_assign rfl) ?_
            refine wl_nil (x_then (hK29 _ _ ?_))
            clear hK29 K29
            refine wc_cond rfl (fun hc112 => ?_) (fun hc112 => ?_)
            · try simp only [decide_eq_true_eq, decide_eq_false_iff_not, Bool.not_eq_true', Bool.not_eq_false', Bool.not_eq_eq_eq_not, Bool.not_true, Bool.not_false, beq_iff_eq, bne_iff_ne, ne_eq, beq_eq_false_iff_ne, bne_eq_false_iff_eq, gt_iff_lt, ge_iff_le, Int.not_lt, Int.not_le] at hc112
              have h11 : tx = 1 ∧ ty = 1 := by simpa using hc112
              obtain ⟨rfl, rfl⟩ := h11
              obtain ⟨ox, fx, dx, kx1, kx2, kx3, kx4, kx5, kx6, kx7⟩ := abs_of_str C1 hx
              obtain ⟨oy, fy, dy, ky1, ky2, ky3, ky4, ky5, ky6, ky7⟩ := abs_of_str C1 hy
              have hox : hOf R1.abs x = [fx, dx] := by simp [hOf, kx7]
              have hoy : hOf R1.abs y = [fy, dy] := by simp [hOf, ky7]
              rw [hox, hoy, if_neg (by simp), if_neg (by simp), if_neg (by simp)] at hcons
              have hl2 := C1.len2
              have hB3 := H3.st
              obtain ⟨j3, hHd, hj3⟩ := H3.heads
              have hsx : ((R1.heads.map u8c ++ j3).drop (0 + 2 * x * 1)).take 2 = [u8c fx, u8c dx] := by
                obtain ⟨l1, e1⟩ := List.getElem?_eq_some_iff.1 kx2
                obtain ⟨l2, e2⟩ := List.getElem?_eq_some_iff.1 kx3
                rw [List.drop_append_of_le_length (by simp; omega), List.take_append_of_le_length (by simp; omega)]
                rw [← List.map_drop, Nat.zero_add, Nat.mul_one, List.drop_eq_getElem_cons l1, List.drop_eq_getElem_cons l2]
                simp [e1, e2]
              have hsy : ((R1.heads.map u8c ++ j3).drop (0 + 2 * y * 1)).take 2 = [u8c fy, u8c dy] := by
                obtain ⟨l1, e1⟩ := List.getElem?_eq_some_iff.1 ky2
                obtain ⟨l2, e2⟩ := List.getElem?_eq_some_iff.1 ky3
                rw [List.drop_append_of_le_length (by simp; omega), List.take_append_of_le_length (by simp; omega)]
                rw [← List.map_drop, Nat.zero_add, Nat.mul_one, List.drop_eq_getElem_cons l1, List.drop_eq_getElem_cons l2]
                simp [e1, e2]
              have hcx : ¬ (128 = 2 * x) := by omega
              have hcy : ¬ (128 = 2 * y) := by omega
              refine c_seq (fun K30 hK30 => ?_)
              refine c_reg ?_ -- region 23 unify.go:82
              refine wl (ro_move rfl) ?_
              refine wl (ro_nilCheck rfl) ?_
              refine wl (ro_fieldAddr (k := 2) rfl fo_69_2) ?_
              refine wl (ro_loadB rfl sc_66 (by assumption) rfl) ?_
              refine wl (ro_move rfl) ?_
              refine wl (ro_arith rfl rfl rfl (Go.IntWalk.i32_in _ (by omega))) ?_
              refine wl (ro_sliceL (l := 2 * x) rfl rfl se_66 (by omega) (by omega)) ?_
              refine wl (ro_s2ap (by rw [if_neg hcx]; rfl) ar_157 (by omega)) ?_
              refine wl (ro_nilCheck rfl) ?_
              refine wl (ro_loadAggB rfl ag_157 (hHd) (rfl) (hsx)) ?_
              refine wle (eo_alloc ze_157) ?_
              refine wls (so_storeAggB rfl rfl (by simp [Value.oneCell', i32c, u8c, i64c, i8c]) sz_157 rfl (Blk.new _ _ _) (by simp)) ?_
              have U4 := U3.none (((Fram.refl none' w3).thenAlloc (o := .cells [Value.int .u8 0, .int .u8 0].toArray 157)).thenSet (b := w3.heap.size) (cs := [u8c fx, u8c dx].toArray) (.inr (Nat.le_refl _)))
              have Bx := (Blk.new w3 [Value.int .u8 0, .int .u8 0] 157).set [u8c fx, u8c dx]
              refine gen2 (A := fun w2 => UA w L R1 (.slice (some ⟨g, 0, none⟩) st'.length cap0) st' w2) (B := fun w2 => Blk w2.heap w3.heap.size [u8c fx, u8c dx] 157) (C := fun w2 => WL _ _ _ _ _ w2) U4 Bx ?_
              clear U4 Bx hHd hj3 hB3
              intro w4 U4 Bx
              have hB4 := U4.heap.st
              obtain ⟨j4, hHd4, _⟩ := U4.heap.heads
              have hsy : ((R1.heads.map u8c ++ j4).drop (0 + 2 * y * 1)).take 2 = [u8c fy, u8c dy] := by
                obtain ⟨l1, e1⟩ := List.getElem?_eq_some_iff.1 ky2
                obtain ⟨l2, e2⟩ := List.getElem?_eq_some_iff.1 ky3
                rw [List.drop_append_of_le_length (by simp; omega), List.take_append_of_le_length (by simp; omega)]
                rw [← List.map_drop, Nat.zero_add, Nat.mul_one, List.drop_eq_getElem_cons l1, List.drop_eq_getElem_cons l2]
                simp [e1, e2]
              refine wl_nil (x_then (hK30 _ _ ?_))
              clear hK30 K30
              refine forget [(0, _), (9, _), (10, _), (12, _), (14, _), (15, _), (16, _)] ⟨rfl, rfl, rfl, rfl, rfl, rfl, rfl, trivial⟩ (fun e => ?_)
              refine c_seq (fun K31 hK31 => ?_)
              refine c_reg ?_ -- region 24 unify.go:83
              refine wl (ro_move rfl) ?_
              refine wl (ro_nilCheck rfl) ?_
              refine wl (ro_fieldAddr (k := 2) rfl fo_69_2) ?_
              refine wl (ro_loadB rfl sc_66 (by assumption) rfl) ?_
              refine wl (ro_move rfl) ?_
              refine wl (ro_arith rfl rfl rfl (Go.IntWalk.i32_in _ (by omega))) ?_
              refine wl (ro_sliceL (l := 2 * y) rfl rfl se_66 (by omega) (by omega)) ?_
              refine wl (ro_s2ap (by rw [if_neg hcy]; rfl) ar_157 (by omega)) ?_
              refine wl (ro_nilCheck rfl) ?_
              refine wl (ro_loadAggB rfl ag_157 (hHd4) (rfl) (hsy)) ?_
              refine wle (eo_alloc ze_157) ?_
              refine wls (so_storeAggB rfl rfl (by simp [Value.oneCell', i32c, u8c, i64c, i8c]) sz_157 rfl (Blk.new _ _ _) (by simp)) ?_
              have U5 := U4.none (((Fram.refl none' w4).thenAlloc (o := .cells [Value.int .u8 0, .int .u8 0].toArray 157)).thenSet (b := w4.heap.size) (cs := [u8c fy, u8c dy].toArray) (.inr (Nat.le_refl _)))
              have By := (Blk.new w4 [Value.int .u8 0, .int .u8 0] 157).set [u8c fy, u8c dy]
              have Bx' := (Bx.alloc (.cells [Value.int .u8 0, .int .u8 0].toArray 157)).set_ne (b := w4.heap.size) [u8c fy, u8c dy].toArray (by have := Bx.lt; omega)
              refine gen3 (A := fun w2 => UA w L R1 (.slice (some ⟨g, 0, none⟩) st'.length cap0) st' w2) (B := fun w2 => Blk w2.heap w3.heap.size [u8c fx, u8c dx] 157) (D := fun w2 => Blk w2.heap w4.heap.size [u8c fy, u8c dy] 157) (C := fun w2 => WL _ _ _ _ _ w2) U5 Bx' By ?_
              clear U5 Bx Bx' By hB4 hHd4
              intro w5 U5 Bx By
              refine wl_nil (x_then (hK31 _ _ ?_))
              clear hK31 K31
              refine c_seq (fun K32 hK32 => ?_)
              refine c_seq (fun K33 hK33 => ?_)
              refine c_reg ?_ -- region 25 unify.go:84
              refine wl (ro_loadAggB rfl ag_157 (by assumption) rfl rfl) ?_
              refine wl (ro_loadAggB rfl ag_157 (by assumption) rfl rfl) ?_
              refine wl (ro_eqArr2 (r := decide ([fx, dx] ≠ [fy, dy])) rfl rfl ar_157 in_5 (by kernel_rfl) (by rw [beqc, beqc]; simp [UInt8.toNat_inj])) ?_
              refine wl_nil (x_then (hK33 _ _ ?_))
              clear hK33 K33
              refine wc_cond rfl (fun hc136 => ?_) (fun hc136 => ?_)
              · try simp only [decide_eq_true_eq, decide_eq_false_iff_not, Bool.not_eq_true', Bool.not_eq_false', Bool.not_eq_eq_eq_not, Bool.not_true, Bool.not_false, beq_iff_eq, bne_iff_ne, ne_eq, beq_eq_false_iff_ne, bne_eq_false_iff_eq, gt_iff_lt, ge_iff_le, Int.not_lt, Int.not_le] at hc136
                have hne : [fx, dx] ≠ [fy, dy] := by simpa using hc136
                rw [if_pos hne] at hcons
                refine c_seq (fun K34 hK34 => ?_)
                refine c_reg ?_ -- region 26 unify.go:85
                refine wl (ro_assign rfl) ?_
                refine wl_nil (x_then (hK34 _ _ ?_))
                clear hK34 K34
                refine c_goto (x_thenG (x_blkG (x_thenG (x_blkG (x_thenG (x_blkG (x_thenG (x_scG rfl ?_))))))))
                refine ⟨0, rfl, rfl, R1, 7, U5.heap, U5.fr, E1, C1, ?_, by omega, kp _ ⟨rfl, rfl, rfl, trivial⟩⟩
                rw [← hinv, hcons]
              · try simp only [decide_eq_true_eq, decide_eq_false_iff_not, Bool.not_eq_true', Bool.not_eq_false', Bool.not_eq_eq_eq_not, Bool.not_true, Bool.not_false, beq_iff_eq, bne_iff_ne, ne_eq, beq_eq_false_iff_ne, bne_eq_false_iff_eq, gt_iff_lt, ge_iff_le, Int.not_lt, Int.not_le] at hc136
                have hne : ¬ [fx, dx] ≠ [fy, dy] := by simpa using hc136
                rw [if_neg hne] at hcons
                have hdd : dx = dy := by simp at hne; exact hne.2
                have hkl := kidsOf_le C1 (.inr hx)
                have hkbx : ∀ z ∈ kidsOf R1.abs x, z < R.tags.length := fun z hz => by rw [← htl]; exact kidsOf_lt C1 (.inr hx) hz
                have hkby : ∀ z ∈ kidsOf R1.abs y, z < R.tags.length := fun z hz => by rw [← htl]; exact kidsOf_lt C1 (.inr hy) hz
                have hkle : (kidsOf R1.abs y).length = (kidsOf R1.abs x).length := by
                  rw [kidsOf_str C1 hx kx1 kx3, kidsOf_str C1 hy ky1 ky3]
                  subst hdd
                  simp; omega
                clear hox hoy hsx hsy kx7 ky7
                refine c_skip (x_then (hK32 _ _ ?_))
                clear hK32 K32
                refine forget [(0, _), (9, _), (10, _), (12, _), (14, _), (15, _)] ⟨rfl, rfl, rfl, rfl, rfl, rfl, trivial⟩ (fun e => ?_)
                refine c_seq (fun K35 hK35 => ?_)
                refine c_reg ?_ -- region 27 unify.go:88
                refine wl (ro_move rfl) ?_
                refine wl (ro_move rfl) ?_
                refine wl_call rfl en_102 (kids102k U5.heap C1 (.inr hx)) ?_
                rintro _ w5 ⟨oa, kc, rfl, hkv, rfl⟩
                refine wl (ro_assign rfl) ?_
                refine wl_nil (x_then (hK35 _ _ ?_))
                clear hK35 K35
                refine forget [(0, _), (9, _), (10, _), (12, _), (15, _), (18, _)] ⟨rfl, rfl, rfl, rfl, rfl, rfl, trivial⟩ (fun e => ?_)
                refine c_seq (fun K36 hK36 => ?_)
                refine c_reg ?_ -- region 28 unify.go:89
                refine wl (ro_move rfl) ?_
                refine wl (ro_move rfl) ?_
                refine wl_call rfl en_102 (kids102k U5.heap C1 (.inr hy)) ?_
                rintro _ w5 ⟨ob, kd, rfl, hkw, rfl⟩
                rw [hkle]
                generalize kidsOf R1.abs x = ks at *
                generalize kidsOf R1.abs y = us at *
                refine wl (ro_assign rfl) ?_
                refine wl_nil (x_then (hK36 _ _ ?_))
                clear hK36 K36
                refine c_seq (fun K37 hK37 => ?_)
                refine c_seq (fun K38 hK38 => ?_)
                refine c_reg ?_ -- region 29 unify.go:90
                refine wl (ro_move rfl) ?_
                refine wl (ro_lenL rfl se_65) ?_
                refine wl (ro_arith rfl rfl rfl (Go.IntWalk.i64_in _ (by omega))) ?_
                refine wl (ro_assign rfl) ?_
                refine wl_nil (x_then (hK38 _ _ ?_))
                clear hK38 K38
                refine c_block ?_
                -- loop@r30: live slots [0, 9, 10, 12, 18, 19, 20]
                refine c_loopG (fun m a' w' => ∃ k V, m = k ∧ k ≤ ks.length ∧ UA w L R1 V ((ks.zip us).drop k ++ st') w' ∧ KV w'.heap L oa ks ∧ KV w'.heap L ob us ∧ ∃ e, a' = Fr 184 (upds e [(0, ptr L.h), (9, i64c R.trail.length), (10, .int .i64 ((n1 : Int) + 1)), (12, V), (18, .slice oa ks.length kc), (19, .slice ob ks.length kd), (20, .int .i64 ((k : Int) - 1))]) []) ks.length ⟨ks.length, .slice (some ⟨g, 0, none⟩) st'.length cap0, rfl, Nat.le_refl _, by rw [List.drop_of_length_le (by simp; omega)]; exact U5, hkv, hkw, kp _ ⟨rfl, rfl, rfl, rfl, rfl, rfl, rfl, trivial⟩⟩ ?_
                clear hkv hkw U5 Bx By U3 H3
                rintro m a' w6 ⟨k, V, rfl, hk, U6, hkv, hkw, e, rfl⟩
                have hV6 := U6.own.form
                obtain ⟨a6, cap6, rfl⟩ := hV6
                refine c_seq (fun K39 hK39 => ?_)
                refine c_seq (fun K40 hK40 => ?_)
                refine c_reg ?_ -- region 30 unify.go:90
                refine wl (ro_move rfl) ?_
                refine wl (ro_cmp rfl rfl rfl) ?_
                refine wl_nil (x_then (hK40 _ _ ?_))
                clear hK40 K40
                refine wc_cond rfl (fun hc147 => ?_) (fun hc147 => ?_)
                · try simp only [decide_eq_true_eq, decide_eq_false_iff_not, Bool.not_eq_true', Bool.not_eq_false', Bool.not_eq_eq_eq_not, Bool.not_true, Bool.not_false, beq_iff_eq, bne_iff_ne, ne_eq, beq_eq_false_iff_ne, bne_eq_false_iff_eq, gt_iff_lt, ge_iff_le, Int.not_lt, Int.not_le] at hc147
                  have hm0 : 0 < m := by omega
                  obtain ⟨u, hu⟩ : ∃ u, ks[m - 1]? = some u := ⟨_, List.getElem?_eq_getElem (by omega)⟩
                  obtain ⟨z, hz⟩ : ∃ z, us[m - 1]? = some z := ⟨_, List.getElem?_eq_getElem (by omega)⟩
                  obtain ⟨o1, l1, rfl, hB1, hg1⟩ : ∃ o l, oa = some ⟨L.a, o, none⟩ ∧ Blk w6.heap L.a l 21 ∧ ∀ (i x : Nat), ks[i]? = some x → l[o + i * 1]? = some (i32c x) := by { rcases hkv with h | h; subst h; simp at hk; omega; exact h }
                  obtain ⟨o2, l2, rfl, hB2, hg2⟩ : ∃ o l, ob = some ⟨L.a, o, none⟩ ∧ Blk w6.heap L.a l 21 ∧ ∀ (i x : Nat), us[i]? = some x → l[o + i * 1]? = some (i32c x) := by { rcases hkw with h | h; subst h; simp at hkle; omega; exact h }
                  refine c_skip (x_then (hK39 _ _ ?_))
                  clear hK39 K39
                  refine forget [(0, _), (9, _), (10, _), (12, _), (18, _), (19, _), (20, _)] ⟨rfl, rfl, rfl, rfl, rfl, rfl, rfl, trivial⟩ (fun e => ?_)
                  refine c_seq (fun K41 hK41 => ?_)
                  refine c_block ?_
                  refine c_pi [(0, false), (1, false), (2, false), (3, false), (4, false), (5, false), (6, false), (7, false), (8, false), (9, false), (10, true), (11, true), (12, false)] (fun w' => Blk w'.heap L.a l1 21 ∧ Blk w'.heap L.a l2 21) mixed (by kernel_rfl) rfl (by kernel_rfl) (po_blk (po_then (po_then (po_blk (po_then (po_blk (po_then (po_blk (po_then (po_blk (po_then (po_sc (po_bp))))))))))))) (⟨hB1, hB2⟩) ?_ -- region 32 unify.go:91
                  refine pi_ro rfl (fun w hS => ro_move rfl) ?_
                  refine pi_ro rfl (fun w hS => ro_move rfl) ?_
                  refine pi_ro rfl (fun w hS => ro_move rfl) ?_
                  refine pi_ro rfl (fun w hS => ro_indexAddr (et := 21) (k := 1) rfl rfl se_65 ((by show (_ : Int) = ((m - 1 : Nat) : Int); omega)) ((by omega))) ?_
                  refine pi_ro rfl (fun w hS => ro_loadB rfl sc_21 (hS.1) (hg1 _ _ hu)) ?_
                  refine pi_ro rfl (fun w hS => ro_move rfl) ?_
                  refine pi_ro rfl (fun w hS => ro_move rfl) ?_
                  refine pi_ro rfl (fun w hS => ro_indexAddr (et := 21) (k := 1) rfl rfl se_65 ((by show (_ : Int) = ((m - 1 : Nat) : Int); omega)) ((by omega))) ?_
                  refine pi_ro rfl (fun w hS => ro_loadB rfl sc_21 (hS.2) (hg2 _ _ hz)) ?_
                  refine pi_ro rfl (fun w hS => ro_build rfl bld_201_0_1) ?_
                  refine pi_eo rfl (eo_bs1 rfl rfl se_202 zx_201 rfl rfl rfl) (⟨hB1.alloc _, hB2.alloc _⟩) ?_
                  have hN := Blk.new { w6 with drawn := w6.drawn + 1 } [i32c u, i32c z] 201
                  have U7 := (U6.none (Fram.drew none' _ (w6.drawn + 1))).none (Fram.alloc none' _ (.cells [i32c u, i32c z].toArray 201))
                  have hB1' := hB1.alloc (w := { w6 with drawn := w6.drawn + 1 }) (.cells [i32c u, i32c z].toArray 201)
                  have hB2' := hB2.alloc (w := { w6 with drawn := w6.drawn + 1 }) (.cells [i32c u, i32c z].toArray 201)
                  refine pi_app (news := [i32c u, i32c z]) rfl rfl rfl se_202 zx_201 by_201 rfl U7.own hN rfl rfl (by simp [i32c, Value.oneCell']) (by simp; omega) (by simp; omega) ?_
                  intro V3 w8 hown8 hgr hloc
                  have FF : Fram (fun b => w.heap.size ≤ b) w6 w8 := ((Fram.drew _ w6 (w6.drawn + 1)).thenAlloc).thenGrown hgr (fun b hb => .inl (U6.loc b hb))
                  have hla : ¬ (w.heap.size ≤ L.a) := by have := H.lt L.foot_a; omega
                  refine ⟨⟨hB1.fram FF hla, hB2.fram FF hla⟩, ?_⟩
                  refine pi_ro rfl (fun w hS => ro_assign rfl) ?_
                  refine pi_nil (x_blk (x_then (hK41 _ _ ?_)))
                  clear hK41 K41
                  refine c_reg ?_ -- region 31 unify.go:90
                  refine wl (ro_move rfl) ?_
                  refine wl (ro_arith rfl rfl rfl (Go.IntWalk.i64_in _ (by omega))) ?_
                  refine wl (ro_assign rfl) ?_
                  refine wl_nil (x_then ?_)
                  have hmd : (ks.zip us).drop (m - 1) = (u, z) :: (ks.zip us).drop m := by
                    have := List.drop_eq_getElem_cons (l := ks.zip us) (i := m - 1) (by simp; omega)
                    rw [this, show m - 1 + 1 = m by omega]
                    congr 1
                    simp [(List.getElem?_eq_some_iff.1 hu).2, (List.getElem?_eq_some_iff.1 hz).2]
                  refine ⟨m - 1, by omega, m - 1, V3, rfl, by omega, ⟨?_, ?_, ?_, ?_⟩, hkv.fram FF hla, hkw.fram FF hla, kp _ ⟨rfl, rfl, rfl, rfl, rfl, rfl, ?_, trivial⟩⟩
                  · exact U6.heap.fram FF (fun b hb h => by have := H.lt hb; omega)
                  · rw [hmd]
                    simpa [Nat.add_comm, Nat.add_assoc, Nat.add_left_comm, prc] using hown8
                  · intro b hb
                    rcases hloc with h | h
                    · rw [h] at hb; exact U6.loc b hb
                    · rw [h] at hb; cases hb; have := U6.fr.size; simp; omega
                  · exact U6.fr.trans' FF (fun k hk h => by omega)
                  · show some (Value.int .i64 ((m : Int) - 1 - 1)) = some (.int .i64 (((m - 1 : Nat) : Int) - 1))
                    rw [show ((m - 1 : Nat) : Int) = (m : Int) - 1 by omega]
                · try simp only [decide_eq_true_eq, decide_eq_false_iff_not, Bool.not_eq_true', Bool.not_eq_false', Bool.not_eq_eq_eq_not, Bool.not_true, Bool.not_false, beq_iff_eq, bne_iff_ne, ne_eq, beq_eq_false_iff_ne, bne_eq_false_iff_eq, gt_iff_lt, ge_iff_le, Int.not_lt, Int.not_le] at hc147
                  have hm0 : m = 0 := by omega
                  refine c_exit (x_thenX (x_thenX (x_blkX (x_then (hK37 _ _ ?_)))))
                  clear hK39 K39 hK37 K37
                  refine c_exit (x_blkY rfl (x_thenX (x_blkX (x_then ?_))))
                  subst hm0
                  refine ⟨41 - (n1 + 1), by omega, ks.zip us ++ st', n1 + 1, _, R1, rfl, by omega, ?_, ?_, ?_, by simpa using U6, E1, C1, kp _ ⟨rfl, rfl, rfl, rfl, trivial⟩⟩
                  · intro p hp
                    rcases List.mem_append.1 hp with h | h
                    · have := List.of_mem_zip h
                      exact ⟨hkbx _ this.1, hkby _ this.2⟩
                    · exact hst' p h
                  · rw [← hinv, hcons]
                  · simp; omega
            · try simp only [decide_eq_true_eq, decide_eq_false_iff_not, Bool.not_eq_true', Bool.not_eq_false', Bool.not_eq_eq_eq_not, Bool.not_true, Bool.not_false, beq_iff_eq, bne_iff_ne, ne_eq, beq_eq_false_iff_ne, bne_eq_false_iff_eq, gt_iff_lt, ge_iff_le, Int.not_lt, Int.not_le] at hc112
              have h11 : ¬ (tx = 1 ∧ ty = 1) := by simpa using hc112
              refine c_seq (fun K42 hK42 => ?_)
              refine c_reg ?_ -- region 33 unify.go:94
              refine wl (ro_cmp (r := decide (tx = 1)) rfl rfl (by rcases htx with rfl | rfl <;> rcases hty with rfl | rfl <;> simp at h00 h11 <;> rfl)) ?_
              refine wl (ro_assign rfl) ?_
              refine wl_nil (x_then (hK42 _ _ ?_))
              clear hK42 K42
              refine wc_cond rfl (fun hc162 => ?_) (fun hc162 => ?_)
              · try simp only [decide_eq_true_eq, decide_eq_false_iff_not, Bool.not_eq_true', Bool.not_eq_false', Bool.not_eq_eq_eq_not, Bool.not_true, Bool.not_false, beq_iff_eq, bne_iff_ne, ne_eq, beq_eq_false_iff_ne, bne_eq_false_iff_eq, gt_iff_lt, ge_iff_le, Int.not_lt, Int.not_le] at hc162
                have h1 : tx = 1 := by simpa using hc162
                have h0 : ty = 0 := by omega
                subst h1 h0
                obtain ⟨ox, fx, dx, kx1, kx2, kx3, kx4, kx5, kx6, kx7⟩ := abs_of_str C1 hx
                have hox : hOf R1.abs x = [fx, dx] := by simp [hOf, kx7]
                rw [hox, hOf_var hy, if_neg (by simp), if_neg (by simp), if_pos rfl] at hcons
                refine c_reg ?_ -- region 34 unify.go:95
                refine wl (ro_move rfl) ?_
                refine wl (ro_move rfl) ?_
                refine wl (ro_assign rfl) ?_
                refine wl (ro_assign rfl) ?_
                refine wl_nil (x_blk (x_then (hK22 _ _ ?_)))
                clear hK22 K22
                refine forget [(0, _), (9, _), (10, _), (12, _), (14, _), (15, _)] ⟨rfl, rfl, rfl, rfl, rfl, rfl, trivial⟩ (fun e => ?_)
                refine c_seq (fun K43 hK43 => ?_)
                refine c_reg ?_ -- region 35 unify.go:97
                refine wl (ro_move rfl) ?_
                refine wl (ro_move rfl) ?_
                refine wl (ro_move rfl) ?_
                refine wl (ro_move rfl) ?_
                refine wl_call rfl en_114 (occurs114 H3 C1 hdy hdx (n := n1 + 1) (by omega)) ?_
                rintro _ w4 ⟨rfl, F4⟩
                have U4 := U3.none F4
                have hk1 := occS_ok R1.abs y [x] (n1 + 1) (by omega)
                have hk2 := occS_steps R1.abs y [x] (n1 + 1)
                cases hocc : occS R1.abs y [x] (n1 + 1) with
                | mk m ec =>
                rw [hocc] at hk1 hk2 hcons
                simp only at hk1 hk2 hcons ⊢
                refine wl (ro_move rfl) ?_
                refine wl (ro_extract rfl rfl) ?_
                refine wl (ro_extract rfl rfl) ?_
                refine wl (ro_assign rfl) ?_
                refine wl (ro_assign rfl) ?_
                refine wl_nil (x_then (hK43 _ _ ?_))
                clear hK43 K43
                refine c_seq (fun K44 hK44 => ?_)
                refine c_seq (fun K45 hK45 => ?_)
                refine c_reg ?_ -- region 36 unify.go:98
                refine wl (ro_move rfl) ?_
                refine wl (ro_cmp (r := decide (ec ≠ 0)) rfl rfl (congrArg some (by have := beqc ec 0; simp [bne] at this ⊢; exact this))) ?_
                refine wl_nil (x_then (hK45 _ _ ?_))
                clear hK45 K45
                refine wc_cond rfl (fun hc175 => ?_) (fun hc175 => ?_)
                · try simp only [decide_eq_true_eq, decide_eq_false_iff_not, Bool.not_eq_true', Bool.not_eq_false', Bool.not_eq_eq_eq_not, Bool.not_true, Bool.not_false, beq_iff_eq, bne_iff_ne, ne_eq, beq_eq_false_iff_ne, bne_eq_false_iff_eq, gt_iff_lt, ge_iff_le, Int.not_lt, Int.not_le] at hc175
                  have hec : ec ≠ 0 := by simpa using hc175
                  obtain ⟨ec, rfl⟩ : ∃ k, ec = k + 1 := ⟨ec - 1, by omega⟩
                  refine c_goto (x_thenG (x_blkG (x_thenG (x_blkG (x_thenG (x_scG rfl ?_))))))
                  refine ⟨0, rfl, rfl, R1, ec + 1, U4.heap, U4.fr, E1, C1, ?_, by omega, kp _ ⟨rfl, rfl, rfl, trivial⟩⟩
                  rw [← hinv, hcons]; rfl
                · try simp only [decide_eq_true_eq, decide_eq_false_iff_not, Bool.not_eq_true', Bool.not_eq_false', Bool.not_eq_eq_eq_not, Bool.not_true, Bool.not_false, beq_iff_eq, bne_iff_ne, ne_eq, beq_eq_false_iff_ne, bne_eq_false_iff_eq, gt_iff_lt, ge_iff_le, Int.not_lt, Int.not_le] at hc175
                  have hec : ec = 0 := by simpa using hc175
                  subst hec
                  have hm40 := hk1 rfl
                  simp only at hcons
                  refine c_skip (x_then (hK44 _ _ ?_))
                  clear hK44 K44
                  refine c_reg ?_ -- region 37 unify.go:101
                  refine wl (ro_move rfl) ?_
                  refine wl (ro_move rfl) ?_
                  refine wl (ro_move rfl) ?_
                  refine wl_call rfl en_113 (bind113 U4.heap C1 hy hdx) ?_
                  intro r w5 hp
                  refine wl_nil (x_blk (x_then ?_))
                  refine ⟨41 - m, by simp at hk2; omega, st', m, _, R1.bind y x, rfl, by omega, hst', ?_, by simp at hk2; omega, U4.next H hp, E1.bind hy, wfc_bind C1 hy hdx (.inl hx), kp _ ⟨rfl, rfl, rfl, rfl, trivial⟩⟩
                  rw [← hinv, hcons, abs_bind C1 hy]; rfl
              · try simp only [decide_eq_true_eq, decide_eq_false_iff_not, Bool.not_eq_true', Bool.not_eq_false', Bool.not_eq_eq_eq_not, Bool.not_true, Bool.not_false, beq_iff_eq, bne_iff_ne, ne_eq, beq_eq_false_iff_ne, bne_eq_false_iff_eq, gt_iff_lt, ge_iff_le, Int.not_lt, Int.not_le] at hc162
                have h0 : tx = 0 := by omega
                have h1 : ty = 1 := by omega
                subst h1 h0
                obtain ⟨oy, fy, dy, ky1, ky2, ky3, ky4, ky5, ky6, ky7⟩ := abs_of_str C1 hy
                have hoy : hOf R1.abs y = [fy, dy] := by simp [hOf, ky7]
                rw [hoy, hOf_var hx, if_neg (by simp), if_pos rfl] at hcons
                refine c_skip (x_blk (x_then (hK22 _ _ ?_)))
                clear hK22 K22
                refine forget [(0, _), (9, _), (10, _), (12, _), (14, _), (15, _)] ⟨rfl, rfl, rfl, rfl, rfl, rfl, trivial⟩ (fun e => ?_)
                refine c_seq (fun K46 hK46 => ?_)
                refine c_reg ?_ -- region 35 unify.go:97
                refine wl (ro_move rfl) ?_
                refine wl (ro_move rfl) ?_
                refine wl (ro_move rfl) ?_
                refine wl (ro_move rfl) ?_
                refine wl_call rfl en_114 (occurs114 H3 C1 hdx hdy (n := n1 + 1) (by omega)) ?_
                rintro _ w4 ⟨rfl, F4⟩
                have U4 := U3.none F4
                have hk1 := occS_ok R1.abs x [y] (n1 + 1) (by omega)
                have hk2 := occS_steps R1.abs x [y] (n1 + 1)
                cases hocc : occS R1.abs x [y] (n1 + 1) with
                | mk m ec =>
                rw [hocc] at hk1 hk2 hcons
                simp only at hk1 hk2 hcons ⊢
                refine wl (ro_move rfl) ?_
                refine wl (ro_extract rfl rfl) ?_
                refine wl (ro_extract rfl rfl) ?_
                refine wl (ro_assign rfl) ?_
                refine wl (ro_assign rfl) ?_
                refine wl_nil (x_then (hK46 _ _ ?_))
                clear hK46 K46
                refine c_seq (fun K47 hK47 => ?_)
                refine c_seq (fun K48 hK48 => ?_)
                refine c_reg ?_ -- region 36 unify.go:98
                refine wl (ro_move rfl) ?_
                refine wl (ro_cmp (r := decide (ec ≠ 0)) rfl rfl (congrArg some (by have := beqc ec 0; simp [bne] at this ⊢; exact this))) ?_
                refine wl_nil (x_then (hK48 _ _ ?_))
                clear hK48 K48
                refine wc_cond rfl (fun hc175 => ?_) (fun hc175 => ?_)
                · try simp only [decide_eq_true_eq, decide_eq_false_iff_not, Bool.not_eq_true', Bool.not_eq_false', Bool.not_eq_eq_eq_not, Bool.not_true, Bool.not_false, beq_iff_eq, bne_iff_ne, ne_eq, beq_eq_false_iff_ne, bne_eq_false_iff_eq, gt_iff_lt, ge_iff_le, Int.not_lt, Int.not_le] at hc175
                  have hec : ec ≠ 0 := by simpa using hc175
                  obtain ⟨ec, rfl⟩ : ∃ k, ec = k + 1 := ⟨ec - 1, by omega⟩
                  refine c_goto (x_thenG (x_blkG (x_thenG (x_blkG (x_thenG (x_scG rfl ?_))))))
                  refine ⟨0, rfl, rfl, R1, ec + 1, U4.heap, U4.fr, E1, C1, ?_, by omega, kp _ ⟨rfl, rfl, rfl, trivial⟩⟩
                  rw [← hinv, hcons]; rfl
                · try simp only [decide_eq_true_eq, decide_eq_false_iff_not, Bool.not_eq_true', Bool.not_eq_false', Bool.not_eq_eq_eq_not, Bool.not_true, Bool.not_false, beq_iff_eq, bne_iff_ne, ne_eq, beq_eq_false_iff_ne, bne_eq_false_iff_eq, gt_iff_lt, ge_iff_le, Int.not_lt, Int.not_le] at hc175
                  have hec : ec = 0 := by simpa using hc175
                  subst hec
                  have hm40 := hk1 rfl
                  simp only at hcons
                  refine c_skip (x_then (hK47 _ _ ?_))
                  clear hK47 K47
                  refine c_reg ?_ -- region 37 unify.go:101
                  refine wl (ro_move rfl) ?_
                  refine wl (ro_move rfl) ?_
                  refine wl (ro_move rfl) ?_
                  refine wl_call rfl en_113 (bind113 U4.heap C1 hx hdy) ?_
                  intro r w5 hp
                  refine wl_nil (x_blk (x_then ?_))
                  refine ⟨41 - m, by simp at hk2; omega, st', m, _, R1.bind x y, rfl, by omega, hst', ?_, by simp at hk2; omega, U4.next H hp, E1.bind hx, wfc_bind C1 hx hdy (.inl hy), kp _ ⟨rfl, rfl, rfl, rfl, trivial⟩⟩
                  rw [← hinv, hcons, abs_bind C1 hx]; rfl
  rintro l m a' w' ⟨rfl, rfl, R1, ec, H1, F1, E1, C1, hec, hne, e, rfl⟩ rest hr
  obtain rfl := Option.some.inj hr
  · skip
    obtain ⟨vs, htr, hun⟩ := E1.trail
    refine c_seq (fun K49 hK49 => ?_)
    refine c_skip (x_then (hK49 _ _ ?_))
    clear hK49 K49
    refine forget [(0, _), (9, _), (11, _)] ⟨rfl, rfl, rfl, trivial⟩ (fun e => ?_)
    refine c_seq (fun K50 hK50 => ?_)
    refine c_reg ?_ -- region 38 unify.go:104
    refine wl (ro_move rfl) ?_
    refine wl (ro_move rfl) ?_
    refine wl_call rfl en_115 (unwind115 H1 C1.tmem (by have := C1.trl; have := List.count_le_length (a := 2) (l := R1.tags); have := C1.size; omega) (to := R.trail.length) (by rw [htr]; simp)) ?_
    intro r w2 hp
    refine wl_nil (x_then (hK50 _ _ ?_))
    clear hK50 K50
    refine forget [(11, _)] ⟨rfl, trivial⟩ (fun e => ?_)
    refine c_seq (fun K51 hK51 => ?_)
    refine c_reg ?_ -- region 39 unify.go:105
    refine wl (ro_move rfl) ?_
    refine wl (ro_assign rfl) ?_
    refine wl (ro_assign rfl) ?_
    refine wl_nil (x_then (hK51 _ _ ?_))
    clear hK51 K51
    refine c_ret (x_scR ?_)
    refine bp_ret Tryz.results78 rfl ?_
    obtain ⟨k1, k2, k3⟩ := wf_unw wf E1
    refine ⟨R1.unw R.trail.length, ⟨hp.1, F1.trans hp.2⟩, k1, k3, E1.marks, ?_⟩
    rw [if_neg (by rw [hec]; exact hne)]
    exact ⟨by rw [hec]; rfl, k2⟩

end Go.Proofs.Qxb6500569aGreat
