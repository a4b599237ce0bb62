import Derived.Test.Qxb6500570aGreatOa
/- The model's book: putting a snapshot, noting a command. -/
namespace Go.Proofs.Qxb6500570aGreat
set_option linter.unusedVariables false
set_option linter.unusedSimpArgs false

set_option maxHeartbeats 4000000 in
theorem put36 {w : World} {Y : MK} {V1 V2 : Value} {lo hi sb b : Nat} {T Z : List Tx} {SL : List Vl} (hb : MkB lo hi Y) (hhi : hi ≤ w.heap.size) (hK : Blk w.heap Y.k [ptr Y.N.e, V1, V2] 53) (hv : NaV w Y.N Y.h sb T SL) (hZ : TxOK Z) (hbb : hi ≤ b) (hB : Blk w.heap b (rws stc Z) 9) :
    Ret Tryz.prog 36 [ptr Y.k, sl b 24] w (fun v w' => (∃ sb' SL', (sb' = sb ∨ w.heap.size ≤ sb') ∧ NaV w' Y.N Y.h sb' Z SL') ∧ Fram (rng lo Y.h) w w') := by
  have hF : Fram (rng lo Y.h) w w := Fram.refl _ _
  have htl := hv.ok.tl
  have hzl := hZ.tl
  have h0 := hb.loh
  obtain ⟨hnb, b1, b2⟩ := hb
  refine ret_of Tryz.func36 rfl Tryz.ntmps36 rfl ?_
  refine c_seq (fun K1 hK1 => ?_)
  refine c_reg ?_ -- region 0 bookm.go:29
  refine wl (ro_assign rfl) ?_
  refine wl_nil (x_then (hK1 _ _ ?_))
  clear hK1 K1
  refine c_block ?_
  -- loop@r1: live slots [0, 1, 4]
  refine c_loopG (fun m a' w' => ∃ i sb1 SL, m = 24 - i ∧ i ≤ 24 ∧ (sb1 = sb ∨ w.heap.size ≤ sb1) ∧ Blk w'.heap Y.k [ptr Y.N.e, V1, V2] 53 ∧ Blk w'.heap b (rws stc Z) 9 ∧ NaV w' Y.N Y.h sb1 (mixT Z T i) SL ∧ Fram (rng lo Y.h) w w' ∧ ∃ e, a' = Fr 19 (upds e [(0, ptr Y.k), (1, sl b 24), (4, i64c i)]) []) 24 ⟨0, sb, SL, rfl, by omega, .inl rfl, hK, hB, by rw [mix_zero]; exact hv, hF, kp _ ⟨rfl, rfl, rfl, trivial⟩⟩ ?_
  clear hF hK hB hv
  rintro m a' u1 ⟨i, sb1, SL1, rfl, hi24, hsb1, hK, hB, hv, hF, e, rfl⟩
  have hsz := hF.size
  refine c_seq (fun K2 hK2 => ?_)
  refine c_seq (fun K3 hK3 => ?_)
  refine c_reg ?_ -- region 1 bookm.go:29
  refine wl (ro_move rfl) ?_
  refine wl (ro_cmp (r := decide (i < 24)) rfl rfl (congrArg some (decide_eq_decide.2 (by omega)))) ?_
  refine wl_nil (x_then (hK3 _ _ ?_))
  clear hK3 K3
  refine wc_cond rfl (fun hc6 => ?_) (fun hc6 => ?_)
  · try simp only [decide_eq_true_eq, decide_eq_false_iff_not, Bool.not_eq_true', Bool.not_eq_false', Bool.not_eq_eq_eq_not, Bool.not_true, Bool.not_false, beq_iff_eq, bne_iff_ne, ne_eq, beq_eq_false_iff_ne, bne_eq_false_iff_eq, gt_iff_lt, ge_iff_le, Int.not_lt, Int.not_le] at hc6
    refine c_skip (x_then (hK2 _ _ ?_))
    clear hK2 K2
    refine forget [(0, _), (1, _), (4, _)] ⟨rfl, rfl, rfl, trivial⟩ (fun e => ?_)
    refine c_seq (fun K4 hK4 => ?_)
    refine c_block ?_
    refine c_piL 9 [(0, false), (1, false), (2, false), (3, false), (4, false), (5, false), (6, false), (7, false), (8, false)] (fun w' => Blk w'.heap Y.k [ptr Y.N.e, V1, V2] 53 ∧ Blk w'.heap b (rws stc Z) 9) mixed (by kernel_rfl) rfl (by kernel_rfl) (po_blk (po_then (po_then (po_blk (po_bp))))) (⟨hK, hB⟩) ?_ -- region 3 bookm.go:30
    refine ql_ro rfl (fun w hS => ro_move rfl) ?_
    refine ql_ro rfl (fun w hS => ro_nilCheck rfl) ?_
    refine ql_ro rfl (fun w hS => ro_fieldAddr (k := 0) rfl fo_53_0) ?_
    refine ql_ro rfl (fun w hS => ro_loadB rfl sc_49 (hS.1) (rfl)) ?_
    refine ql_ro rfl (fun w hS => ro_move rfl) ?_
    refine ql_ro rfl (fun w hS => ro_move rfl) ?_
    refine ql_ro rfl (fun w hS => ro_move rfl) ?_
    refine ql_ro rfl (fun w hS => ro_indexAddr (et := 9) (k := 1) rfl rfl se_56 (rfl) ((by omega))) ?_
    refine ql_ro rfl (fun w hS => ro_loadB rfl sc_9 (hS.2) ((rw_get stc_len (tF_get (T := Z) (c := i) (by omega)) (j := 0) (by omega) rfl))) ?_
    refine ql_lastC rfl rfl en_45 (Set45 hnb (by show Y.h ≤ u1.heap.size; omega) (hv.farN hnb (Fram.drew none' u1 _))) ?_
    rintro _ u2 ⟨rfl, ⟨sb2, SL2, hsb2, hv2⟩, G2⟩
    replace hsb2 : sb2 = sb1 ∨ u1.heap.size ≤ sb2 := hsb2
    rw [setS_nat hc6 (hZ.le i), mix_set hzl htl hc6] at hv2
    replace hF := hF.transG G2 (by intro k hk h; simp only [rng] at h ⊢ <;> omega)
    replace hK := G2.blkF hK (by intro h; simp only [rng] at h <;> omega)
    replace hB := G2.blkF hB (by intro h; simp only [rng] at h <;> omega)
    refine x_blk (x_then (hK4 _ _ ?_))
    clear hK4 K4
    refine c_reg ?_ -- region 2 bookm.go:29
    refine wl (ro_move rfl) ?_
    refine wl (ro_arith (r := ((i + 1 : Nat) : Int)) rfl rfl rfl (Go.IntWalk.i64_in _ (by omega))) ?_
    refine wl (ro_assign rfl) ?_
    refine wl_nil (x_then ?_)
    exact ⟨24 - (i + 1), by omega, i + 1, sb2, SL2, rfl, by omega, by omega, hK, hB, hv2, hF, kp _ ⟨rfl, rfl, rfl, trivial⟩⟩
  · try simp only [decide_eq_true_eq, decide_eq_false_iff_not, Bool.not_eq_true', Bool.not_eq_false', Bool.not_eq_eq_eq_not, Bool.not_true, Bool.not_false, beq_iff_eq, bne_iff_ne, ne_eq, beq_eq_false_iff_ne, bne_eq_false_iff_eq, gt_iff_lt, ge_iff_le, Int.not_lt, Int.not_le] at hc6
    refine c_exit (x_thenX (x_thenX (x_blkX ?_)))
    refine bp_end Tryz.results36 rfl ?_
    have : i = 24 := by omega
    subst this
    rw [mix_all hzl htl] at hv
    exact ⟨⟨sb1, SL1, hsb1, hv⟩, hF⟩
def kvS (k : Nat) (V : Value) : Nat → Prop := fun x => x = k ∨ V.ownBlock = some x
theorem ow_drop {H : Array Obj} {g off cap : Nat} {l xs : List Value} {e : Nat} (hB : Blk H g l e) (h1 : 1 ≤ xs.length) (h3 : xs.length ≤ cap) (h4 : cap ≤ 9223372036854775807) (h5 : off + cap ≤ l.length) (h6 : (l.drop off).take xs.length = xs) : OwO H (.slice (some ⟨g, off + 1, none⟩) (xs.length - 1) (cap - 1)) e (xs.drop 1) := by
  refine .inr ⟨g, off + 1, cap - 1, l, by rw [List.length_drop], hB, by rw [List.length_drop]; omega, by omega, by omega, ?_⟩
  rw [List.length_drop]
  conv => rhs; rw [← h6]
  rw [List.drop_take, List.drop_drop]
set_option maxHeartbeats 4000000 in
theorem done46 {w : World} {Y : MK} {O : Nat → Prop} {V1 V2 : Value} {lo hi sb b : Nat} {T Z : List Tx} {past next : List (List Tx)} {SL : List Vl} {xs ys : List Value} (hb : MkB lo hi Y) (h : MkW w Y O lo hi T past next V1 V2 sb SL xs ys) (n6 : past.length ≤ 6) (hZ : TxOK Z) (hbb : hi ≤ b) (hOb : O b) (hB : Blk w.heap b (rws stc Z) 9) :
    Ret Tryz.prog 46 [ptr Y.k, sl b 24] w (fun v w' => (∃ V1', BkV w' Y O lo hi T (cutP (past ++ [Z])) [] V1' (.slice none 0 0) sb ∧ nob V1 V1' w) ∧ Fram (kvS Y.k V1) w w') := by
  have hF : Fram (kvS Y.k V1) w w := Fram.refl _ _
  have hm1 : kvS Y.k V1 Y.k := .inl rfl
  have h0 := hb.loh
  have hb1 := hb.hk
  have hb2 := hb.kh
  obtain ⟨hK, hv, o1, o2, q1, q2, df, s1, s2, hz⟩ := h
  have hxl : xs.length = past.length := s1.1
  have hsk : sb ≠ Y.k := hv.mv.hV.ne_type hK (by decide)
  refine ret_of Tryz.func46 rfl Tryz.ntmps46 rfl ?_
  refine c_seq (fun K1 hK1 => ?_)
  refine c_reg ?_ -- region 0 bookm.go:36
  refine wl (ro_move rfl) ?_
  refine wl (ro_move rfl) ?_
  refine wl (ro_nilCheck rfl) ?_
  refine wl (ro_fieldAddr (k := 1) rfl fo_53_1) ?_
  refine wl (ro_loadB rfl sc_51 (by assumption) rfl) ?_
  refine wl (ro_move rfl) ?_
  skip
  refine wl_app1 (u := sl b 24) (xs := xs) rfl rfl rfl rfl se_51 zx_56 by_56 rfl o1 (by omega) (by omega) (fun V' u1 o1' G1 hnb ↦ ?_)
  have e1 : ∀ c S, Blk w.heap c (rws stc S) 9 → ¬ own1 V1 c := fun c S q hq => o1.ne q (by decide) c hq rfl
  replace hF := hF.trans (G1.mono (fun k _ hk => .inr hk))
  have hv1 := hv.far hb.nb G1 (fun c z1 z2 q => by have := q1 c q; omega) (fun q => o1.ne hv.mv.hV (by decide) sb q rfl)
  have s1' := (s1.far G1 (fun c S _ _ q => e1 c S q)).snoc hZ hbb hOb (G1.blkF hB (e1 b Z hB))
  have hsz1 := G1.size
  replace hK := G1.blkF hK (fun q => by have := q1 _ q; omega)
  obtain ⟨g, off, cap, l, rfl, hBl, k3, k4, k5, k6⟩ := o1'.resolve_left (fun q => by simp at q)
  have hgk : hi ≤ g := by (rcases hnb g rfl with q | q; exact q1 g q; omega)
  have hlen : (xs ++ [sl b 24]).length = past.length + 1 := by simp [hxl]
  clear hv o1 s1
  refine wl (ro_nilCheck rfl) ?_
  refine wl (ro_fieldAddr (k := 1) rfl fo_53_1) ?_
  refine wl_put rfl rfl rfl sz_51 hK ((by simp)) ((show _ = [ptr Y.N.e, .slice (some ⟨g, off, none⟩) (xs ++ [sl b 24]).length cap, V2] from rfl)) (fun w1 hK F1 => ?_)
  replace hF := hF.thenDrew.thenO F1 (by first | exact .inr (by omega) | exact .inl rfl | exact .inl (by assumption))
  replace hv1 := hv1.far hb.nb F1 (fun c z1 z2 q ↦ absurd (show c = Y.k from q) (by omega)) (fun q ↦ absurd (show sb = Y.k from q) hsk)
  replace s1' := s1'.far F1 (fun c S z1 _ _ q ↦ absurd (show c = Y.k from q) (by omega))
  replace hBl := (F1).blkF hBl (fun q ↦ absurd (show g = Y.k from q) (by omega))
  refine wl_nil (x_then (hK1 _ _ ?_))
  clear hK1 K1
  refine c_seq (fun K2 hK2 => ?_)
  refine c_seq (fun K3 hK3 => ?_)
  refine c_reg ?_ -- region 1 bookm.go:37
  refine wl (ro_move rfl) ?_
  refine wl (ro_nilCheck rfl) ?_
  refine wl (ro_fieldAddr (k := 1) rfl fo_53_1) ?_
  refine wl (ro_loadB rfl sc_51 (by assumption) rfl) ?_
  refine wl (ro_lenL rfl se_51) ?_
  refine wl (ro_cmp (r := decide (6 < past.length + 1)) rfl rfl (congrArg some (decide_eq_decide.2 (by rw [hlen]; omega)))) ?_
  refine wl_nil (x_then (hK3 _ _ ?_))
  clear hK3 K3
  refine wc_cond rfl (fun hc19 => ?_) (fun hc19 => ?_)
  · try simp only [decide_eq_true_eq, decide_eq_false_iff_not, Bool.not_eq_true', Bool.not_eq_false', Bool.not_eq_eq_eq_not, Bool.not_true, Bool.not_false, beq_iff_eq, bne_iff_ne, ne_eq, beq_eq_false_iff_ne, bne_eq_false_iff_eq, gt_iff_lt, ge_iff_le, Int.not_lt, Int.not_le] at hc19
    refine c_reg ?_ -- region 2 bookm.go:38
    refine wl (ro_move rfl) ?_
    refine wl (ro_move rfl) ?_
    refine wl (ro_nilCheck rfl) ?_
    refine wl (ro_fieldAddr (k := 1) rfl fo_53_1) ?_
    refine wl (ro_loadB rfl sc_51 (by assumption) rfl) ?_
    refine wl (ro_sliceL (l := 1) rfl rfl se_51 rfl (by rw [hlen]; omega)) ?_
    refine wl (ro_nilCheck rfl) ?_
    refine wl (ro_fieldAddr (k := 1) rfl fo_53_1) ?_
    refine wl_put rfl rfl rfl sz_51 hK ((by simp)) ((show _ = [ptr Y.N.e, .slice (some ⟨g, off + 1, none⟩) ((xs ++ [sl b 24]).length - 1) (cap - 1), V2] by rw [if_neg (show ¬ cap = 1 by omega)]; rfl)) (fun w2 hK F2 => ?_)
    replace hF := hF.thenDrew.thenO F2 (by first | exact .inr (by omega) | exact .inl rfl | exact .inl (by assumption))
    replace hv1 := hv1.far hb.nb F2 (fun c z1 z2 q ↦ absurd (show c = Y.k from q) (by omega)) (fun q ↦ absurd (show sb = Y.k from q) hsk)
    replace s1' := s1'.far F2 (fun c S z1 _ _ q ↦ absurd (show c = Y.k from q) (by omega))
    replace hBl := (F2).blkF hBl (fun q ↦ absurd (show g = Y.k from q) (by omega))
    refine wl_nil (x_then (hK2 _ _ ?_))
    clear hK2 K2
    refine c_reg ?_ -- region 3 bookm.go:40
    refine wl (ro_move rfl) ?_
    refine wl (ro_nilCheck rfl) ?_
    refine wl (ro_fieldAddr (k := 2) rfl fo_53_2) ?_
    refine wl_put rfl rfl rfl sz_51 hK ((by simp)) (rfl) (fun w3 hK F3 => ?_)
    replace hF := hF.thenDrew.thenO F3 (by first | exact .inr (by omega) | exact .inl rfl | exact .inl (by assumption))
    replace hv1 := hv1.far hb.nb F3 (fun c z1 z2 q ↦ absurd (show c = Y.k from q) (by omega)) (fun q ↦ absurd (show sb = Y.k from q) hsk)
    replace s1' := s1'.far F3 (fun c S z1 _ _ q ↦ absurd (show c = Y.k from q) (by omega))
    replace hBl := (F3).blkF hBl (fun q ↦ absurd (show g = Y.k from q) (by omega))
    refine wl_nil ?_
    refine bp_end Tryz.results46 rfl ?_
    have ec : cutP (past ++ [Z]) = (past ++ [Z]).drop 1 := by unfold cutP; rw [if_pos (by simp; omega)]
    rw [ec]
    refine ⟨⟨_, ⟨SL, _, [], hK, hv1, ow_drop hBl (by rw [hlen]; omega) k3 k4 k5 k6, OwO.nil _ _, fun c q => ?_, (fun c q => (by cases q)), (fun c q z => (by cases z)), s1'.drop1, SnV.nil _ _ _, by have := hF.size; omega⟩, fun c q => ?_⟩, hF⟩
    · have : g = c := by simpa [Value.ownBlock] using q
      omega
    · exact hnb c q
  · try simp only [decide_eq_true_eq, decide_eq_false_iff_not, Bool.not_eq_true', Bool.not_eq_false', Bool.not_eq_eq_eq_not, Bool.not_true, Bool.not_false, beq_iff_eq, bne_iff_ne, ne_eq, beq_eq_false_iff_ne, bne_eq_false_iff_eq, gt_iff_lt, ge_iff_le, Int.not_lt, Int.not_le] at hc19
    refine c_skip (x_then (hK2 _ _ ?_))
    clear hK2 K2
    refine c_reg ?_ -- region 3 bookm.go:40
    refine wl (ro_move rfl) ?_
    refine wl (ro_nilCheck rfl) ?_
    refine wl (ro_fieldAddr (k := 2) rfl fo_53_2) ?_
    refine wl_put rfl rfl rfl sz_51 hK ((by simp)) (rfl) (fun w4 hK F4 => ?_)
    replace hF := hF.thenDrew.thenO F4 (by first | exact .inr (by omega) | exact .inl rfl | exact .inl (by assumption))
    replace hv1 := hv1.far hb.nb F4 (fun c z1 z2 q ↦ absurd (show c = Y.k from q) (by omega)) (fun q ↦ absurd (show sb = Y.k from q) hsk)
    replace s1' := s1'.far F4 (fun c S z1 _ _ q ↦ absurd (show c = Y.k from q) (by omega))
    replace hBl := (F4).blkF hBl (fun q ↦ absurd (show g = Y.k from q) (by omega))
    refine wl_nil ?_
    refine bp_end Tryz.results46 rfl ?_
    have ec : cutP (past ++ [Z]) = past ++ [Z] := by unfold cutP; rw [if_neg (by simp; omega)]
    rw [ec]
    refine ⟨⟨_, ⟨SL, _, [], hK, hv1, .inr ⟨g, off, cap, l, rfl, hBl, k3, k4, k5, k6⟩, OwO.nil _ _, fun c q => ?_, (fun c q => (by cases q)), (fun c q z => (by cases z)), s1', SnV.nil _ _ _, by have := hF.size; omega⟩, hnb⟩, hF⟩
    have : g = c := by simpa [Value.ownBlock] using q
    omega

/-- What a function of the model's book leaves. -/
def MkP (w w' : World) (Y : MK) (O : Nat → Prop) (lo hi : Nat) (T : List Tx) (past next : List (List Tx)) (V1 V2 : Value) (sb : Nat) : Prop := (∃ V1' V2' sb', BkV w' Y (ups O w) lo hi T past next V1' V2' sb' ∧ nob V1 V1' w ∧ nob V2 V2' w ∧ (sb' = sb ∨ w.heap.size ≤ sb')) ∧ Fram (MkS lo hi V1 V2) w w'
theorem nob.nil (V : Value) (w : World) : nob V (.slice none 0 0) w := fun b h => by cases h
theorem MkW.ed {w w' : World} {Y : MK} {O : Nat → Prop} {lo hi : Nat} {T T' : List Tx} {past next : List (List Tx)} {V1 V2 : Value} {sb sb' : Nat} {SL SL' : List Vl} {xs ys : List Value} (hb : MkB lo hi Y) (h : MkW w Y O lo hi T past next V1 V2 sb SL xs ys) (F : Fram (rng lo Y.h) w w') (hv : NaV w' Y.N Y.h sb' T' SL') : MkW w' Y O lo hi T' past next V1 V2 sb' SL' xs ys := by
  have hk := hb.hk
  have hk2 := hb.kh
  have q1 := h.b1
  have q2 := h.b2
  exact ⟨F.blkF h.hK (fun q => by have := q.2; omega), hv, h.o1.fram F (fun b q z => by have := q1 b q; have := z.2; omega), h.o2.fram F (fun b q z => by have := q2 b q; have := z.2; omega), q1, q2, h.df, h.s1.far F (fun b S z1 _ _ z => by have := z.2; omega), h.s2.far F (fun b S z1 _ _ z => by have := z.2; omega), by have := F.size; have := h.hz; omega⟩
theorem MkW.own {w : World} {Y : MK} {O O' : Nat → Prop} {lo hi : Nat} {T : List Tx} {past next : List (List Tx)} {V1 V2 : Value} {sb : Nat} {SL : List Vl} {xs ys : List Value} (h : MkW w Y O lo hi T past next V1 V2 sb SL xs ys) (hO : ∀ b, b < w.heap.size → O b → O' b) : MkW w Y O' lo hi T past next V1 V2 sb SL xs ys :=
  ⟨h.hK, h.hv, h.o1, h.o2, h.b1, h.b2, h.df, h.s1.own hO, h.s2.own hO, h.hz⟩
theorem MkW.up {w : World} {Y : MK} {O : Nat → Prop} {lo hi : Nat} {T : List Tx} {past next : List (List Tx)} {V1 V2 : Value} {sb : Nat} {SL : List Vl} {xs ys : List Value} (h : MkW w Y O lo hi T past next V1 V2 sb SL xs ys) (u : World) : MkW w Y (ups O u) lo hi T past next V1 V2 sb SL xs ys := h.own (fun b _ q => .inl q)
theorem MkW.farN {w w' : World} {Y : MK} {O : Nat → Prop} {lo hi : Nat} {T : List Tx} {past next : List (List Tx)} {V1 V2 : Value} {sb : Nat} {SL : List Vl} {xs ys : List Value} (hb : MkB lo hi Y) (h : MkW w Y O lo hi T past next V1 V2 sb SL xs ys) (F : Fram none' w w') : MkW w' Y O lo hi T past next V1 V2 sb SL xs ys :=
  h.far hb F (fun _ _ _ q => q) (fun _ _ q => q) (fun _ _ q => q) (fun q => q) (fun _ _ _ _ _ q => q)
theorem MkW.ok {w : World} {Y : MK} {O : Nat → Prop} {lo hi : Nat} {T : List Tx} {past next : List (List Tx)} {V1 V2 : Value} {sb : Nat} {SL : List Vl} {xs ys : List Value} (h : MkW w Y O lo hi T past next V1 V2 sb SL xs ys) : TxOK T := h.hv.ok
set_option maxHeartbeats 4000000 in
theorem Set11 {w : World} {Y : MK} {O : Nat → Prop} {lo hi : Nat} {T : List Tx} {past next : List (List Tx)} {V1 V2 : Value} {sb : Nat} {c : Int} {raw : Tx} (hb : MkB lo hi Y) (h : BkV w Y O lo hi T past next V1 V2 sb) (n6 : past.length ≤ 6) :
    Ret Tryz.prog 11 [ptr Y.k, icv c, S raw] w (fun v w' => v = icv (setE c raw) ∧ MkP w w' Y O lo hi (setS T c raw) (cmdP (setE c raw) past T) (cmdN (setE c raw) next) V1 V2 sb) := by
  have hF : Fram (MkS lo hi V1 V2) w w := Fram.refl _ _
  obtain ⟨SL, xs, ys, h⟩ := h
  have hT := h.ok
  have hk := hb.hk
  have hk2 := hb.kh
  have hlo := hb.loh
  have hz := h.hz
  have hK := h.hK
  have herr : setE c raw ≠ 0 → setS T c raw = T := fun q => by
    unfold setE at q
    unfold setS
    rw [if_neg]
    intro z
    rw [if_neg (by omega), if_neg (by omega)] at q
    exact q rfl
  refine ret_of Tryz.func11 rfl Tryz.ntmps11 rfl ?_
  refine c_seq (fun K1 hK1 => ?_)
  refine c_reg ?_ -- region 0 bookm.go:43
  refine wl (ro_assign rfl) ?_
  refine wl_nil (x_then (hK1 _ _ ?_))
  clear hK1 K1
  refine c_seq (fun K2 hK2 => ?_)
  refine c_seq (fun K3 hK3 => ?_)
  refine c_reg ?_ -- region 1 bookm.go:44
  refine wl (ro_move rfl) ?_
  refine wl (ro_lenS rfl st_9) ?_
  refine wl (ro_cmp (r := decide (40 < raw.length)) rfl rfl (congrArg some (decide_eq_decide.2 (by show ((raw.length : Nat) : Int) > 40 ↔ _; omega)))) ?_
  refine wl_nil (x_then (hK3 _ _ ?_))
  clear hK3 K3
  refine wc_cond rfl (fun hc11 => ?_) (fun hc11 => ?_)
  · try simp only [decide_eq_true_eq, decide_eq_false_iff_not, Bool.not_eq_true', Bool.not_eq_false', Bool.not_eq_eq_eq_not, Bool.not_true, Bool.not_false, beq_iff_eq, bne_iff_ne, ne_eq, beq_eq_false_iff_ne, bne_eq_false_iff_eq, gt_iff_lt, ge_iff_le, Int.not_lt, Int.not_le] at hc11
    refine c_seq (fun K4 hK4 => ?_)
    refine c_reg ?_ -- region 2 bookm.go:45
    refine wl (ro_assign rfl) ?_
    refine wl_nil (x_then (hK4 _ _ ?_))
    clear hK4 K4
    refine c_ret (x_thenR ?_)
    refine bp_ret Tryz.results11 rfl ?_
    have e1 : setE c raw = 1 := by unfold setE; rw [if_pos hc11]
    rw [herr (by omega), e1]
    exact ⟨rfl, ⟨V1, V2, sb, ⟨SL, xs, ys, h.up _⟩, nob.refl _ _, nob.refl _ _, .inl rfl⟩, hF⟩
  · try simp only [decide_eq_true_eq, decide_eq_false_iff_not, Bool.not_eq_true', Bool.not_eq_false', Bool.not_eq_eq_eq_not, Bool.not_true, Bool.not_false, beq_iff_eq, bne_iff_ne, ne_eq, beq_eq_false_iff_ne, bne_eq_false_iff_eq, gt_iff_lt, ge_iff_le, Int.not_lt, Int.not_le] at hc11
    refine c_skip (x_then (hK2 _ _ ?_))
    clear hK2 K2
    refine forget [(0, _), (1, _), (2, _)] ⟨rfl, rfl, rfl, trivial⟩ (fun e => ?_)
    refine c_seq (fun K5 hK5 => ?_)
    refine c_reg ?_ -- region 3 bookm.go:47
    refine wl (ro_move rfl) ?_
    refine wl_call rfl en_44 (snap44 hb.nb (by omega) h.hK h.hv) ?_
    rintro _ u1 ⟨⟨xb, rfl, hxb, hU⟩, G1⟩
    replace h := h.farN hb G1
    replace hK := G1.blkF hK (by intro h; simp only [none', rng] at h <;> omega)
    replace hF := hF.trans (G1.mono (fun _ _ q => q.elim))
    have hsz1 := G1.size
    refine wl (ro_assign rfl) ?_
    refine wl_nil (x_then (hK5 _ _ ?_))
    clear hK5 K5
    refine forget [(0, _), (1, _), (2, _), (7, _)] ⟨rfl, rfl, rfl, rfl, trivial⟩ (fun e => ?_)
    refine c_seq (fun K6 hK6 => ?_)
    refine c_reg ?_ -- region 4 bookm.go:48
    refine wl (ro_move rfl) ?_
    refine wl (ro_nilCheck rfl) ?_
    refine wl (ro_fieldAddr (k := 0) rfl fo_53_0) ?_
    refine wl (ro_loadB rfl sc_49 (by assumption) rfl) ?_
    refine wl (ro_move rfl) ?_
    refine wl (ro_move rfl) ?_
    refine wl_call rfl en_45 (Set45 hb.nb (by omega) h.hv) ?_
    rintro _ u2 ⟨rfl, ⟨sb2, SL2, hs2, hv2⟩, G2⟩
    replace h := h.ed hb G2 hv2
    replace hU := G2.blkF hU (fun q => by have := q.2; omega)
    replace hF := hF.trans (G2.mono (fun k _ hk => .inl ⟨hk.1, by have := hk.2; omega⟩))
    have hsz2 := G2.size
    clear hK
    refine wl (ro_assign rfl) ?_
    refine wl_nil (x_then (hK6 _ _ ?_))
    clear hK6 K6
    refine c_seq (fun K7 hK7 => ?_)
    refine c_seq (fun K8 hK8 => ?_)
    refine c_reg ?_ -- region 5 bookm.go:49
    refine wl (ro_move rfl) ?_
    refine wl (ro_cmp (r := decide (setE c raw = 0)) rfl rfl rfl) ?_
    refine wl_nil (x_then (hK8 _ _ ?_))
    clear hK8 K8
    refine wc_cond rfl (fun hc22 => ?_) (fun hc22 => ?_)
    · try simp only [decide_eq_true_eq, decide_eq_false_iff_not, Bool.not_eq_true', Bool.not_eq_false', Bool.not_eq_eq_eq_not, Bool.not_true, Bool.not_false, beq_iff_eq, bne_iff_ne, ne_eq, beq_eq_false_iff_ne, bne_eq_false_iff_eq, gt_iff_lt, ge_iff_le, Int.not_lt, Int.not_le] at hc22
      refine c_reg ?_ -- region 6 bookm.go:50
      refine wl (ro_move rfl) ?_
      refine wl (ro_move rfl) ?_
      refine wl_call rfl en_46 (done46 hb (h.up w) n6 hT (by omega) (.inr hxb) hU) ?_
      rintro _ u3 ⟨⟨V1', hB3, hnb⟩, G3⟩
      refine wl_nil (x_then (hK7 _ _ ?_))
      clear hK7 K7
      refine forget [(8, _)] ⟨rfl, trivial⟩ (fun e => ?_)
      refine c_seq (fun K9 hK9 => ?_)
      refine c_reg ?_ -- region 7 bookm.go:52
      refine wl (ro_move rfl) ?_
      refine wl (ro_assign rfl) ?_
      refine wl_nil (x_then (hK9 _ _ ?_))
      clear hK9 K9
      refine c_ret ?_
      refine bp_ret Tryz.results11 rfl ?_
      unfold cmdP cmdN
      rw [if_pos hc22, if_pos hc22]
      exact ⟨rfl, ⟨V1', _, sb2, hB3, (hnb.after G2).after G1, nob.nil _ _, by omega⟩, hF.trans (G3.mono (fun k _ hk => by rcases hk with rfl | q; exact .inl ⟨by omega, by omega⟩; exact .inr (.inl q)))⟩
    · try simp only [decide_eq_true_eq, decide_eq_false_iff_not, Bool.not_eq_true', Bool.not_eq_false', Bool.not_eq_eq_eq_not, Bool.not_true, Bool.not_false, beq_iff_eq, bne_iff_ne, ne_eq, beq_eq_false_iff_ne, bne_eq_false_iff_eq, gt_iff_lt, ge_iff_le, Int.not_lt, Int.not_le] at hc22
      refine c_skip (x_then (hK7 _ _ ?_))
      clear hK7 K7
      refine forget [(8, _)] ⟨rfl, trivial⟩ (fun e => ?_)
      refine c_seq (fun K10 hK10 => ?_)
      refine c_reg ?_ -- region 7 bookm.go:52
      refine wl (ro_move rfl) ?_
      refine wl (ro_assign rfl) ?_
      refine wl_nil (x_then (hK10 _ _ ?_))
      clear hK10 K10
      refine c_ret ?_
      refine bp_ret Tryz.results11 rfl ?_
      unfold cmdP cmdN
      rw [if_neg hc22, if_neg hc22]
      rw [herr hc22] at h ⊢
      exact ⟨rfl, ⟨V1, V2, sb2, ⟨SL2, xs, ys, h.up _⟩, nob.refl _ _, nob.refl _ _, by omega⟩, hF⟩

end Go.Proofs.Qxb6500570aGreat
