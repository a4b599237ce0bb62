import Derived.Test.Qxb6500570aGreatOb
/- The model's book: Edit, Copy, Undo, Redo. -/
namespace Go.Proofs.Qxb6500570aGreat
set_option linter.unusedVariables false
set_option linter.unusedSimpArgs false

theorem Edit48G {w : World} {N : EM} {lo hi sb : Nat} {kind a : Int} {T : List Tx} {SL : List Vl} (hb : NaB lo hi N) (hhi : hi ≤ w.heap.size) (h : NaV w N hi sb T SL) :
    Ret Tryz.prog 48 [ptr N.e, icv kind, icv a] w (fun v w' => v = icv (edE kind a) ∧ (∃ sb' SL', (sb' = sb ∨ w.heap.size ≤ sb') ∧ NaV w' N hi sb' (edS T kind a) SL') ∧ Fram (rng lo hi) w w') := by
  unfold edE edS
  cases hok : edOK kind a with
  | true => exact (Edit48 hb hhi h hok)
  | false => exact (Edit48N hok).mono (fun v w' q => ⟨q.1, by rw [q.2]; exact ⟨sb, SL, .inl rfl, h⟩, by rw [q.2]; exact Fram.refl _ _⟩)
theorem Copy50G {w : World} {N : EM} {lo hi sb : Nat} {s d : Int} {T : List Tx} {SL : List Vl} (hb : NaB lo hi N) (hhi : hi ≤ w.heap.size) (h : NaV w N hi sb T SL) :
    Ret Tryz.prog 50 [ptr N.e, icv s, icv d] w (fun v w' => v = icv (cpE T s d) ∧ (∃ sb' SL', (sb' = sb ∨ w.heap.size ≤ sb') ∧ NaV w' N hi sb' (cpS T s d) SL') ∧ Fram (rng lo hi) w w') := by
  unfold cpE cpS
  by_cases hc : s < 0 ∨ 24 ≤ s ∨ d < 0 ∨ 24 ≤ d
  · rw [if_pos hc, if_pos hc]
    exact (Copy50N hc).mono (fun v w' q => ⟨q.1, by rw [q.2]; exact ⟨sb, SL, .inl rfl, h⟩, by rw [q.2]; exact Fram.refl _ _⟩)
  · rw [if_neg hc, if_neg hc]
    obtain ⟨s, rfl⟩ : ∃ d : Nat, s = (d : Int) := ⟨s.toNat, by omega⟩
    obtain ⟨d, rfl⟩ : ∃ e : Nat, d = (e : Int) := ⟨d.toNat, by omega⟩
    rw [Int.toNat_natCast, Int.toNat_natCast]
    exact Copy50 hb hhi h (by omega) (by omega)
set_option maxHeartbeats 4000000 in
theorem Edit13 {w : World} {Y : MK} {O : Nat → Prop} {lo hi : Nat} {T : List Tx} {past next : List (List Tx)} {V1 V2 : Value} {sb : Nat} {kind a : Int} (hb : MkB lo hi Y) (h : BkV w Y O lo hi T past next V1 V2 sb) (n6 : past.length ≤ 6) :
    Ret Tryz.prog 13 [ptr Y.k, icv kind, icv a] w (fun v w' => v = icv (edE kind a) ∧ MkP w w' Y O lo hi (edS T kind a) (cmdP (edE kind a) past T) (cmdN (edE kind a) next) V1 V2 sb) := by
  have hF : Fram (MkS lo hi V1 V2) w w := Fram.refl _ _
  obtain ⟨SL, xs, ys, h⟩ := h
  have hT := h.ok
  have hk := hb.hk
  have hk2 := hb.kh
  have hlo := hb.loh
  have hz := h.hz
  have hK := h.hK
  refine ret_of Tryz.func13 rfl Tryz.ntmps13 rfl ?_
  refine c_seq (fun K1 hK1 => ?_)
  refine c_reg ?_ -- region 0 bookm.go:55
  refine wl (ro_assign rfl) ?_
  refine wl_nil (x_then (hK1 _ _ ?_))
  clear hK1 K1
  refine forget [(0, _), (1, _), (2, _)] ⟨rfl, rfl, rfl, trivial⟩ (fun e => ?_)
  refine c_seq (fun K2 hK2 => ?_)
  refine c_reg ?_ -- region 1 bookm.go:56
  refine wl (ro_move rfl) ?_
  refine wl_call rfl en_44 (snap44 hb.nb (by omega) h.hK h.hv) ?_
  rintro _ u1 ⟨⟨xb, rfl, hxb, hU⟩, G1⟩
  replace h := h.farN hb G1
  replace hK := G1.blkF hK (by intro h; simp only [none', rng] at h <;> omega)
  replace hF := hF.trans (G1.mono (fun _ _ q => q.elim))
  have hsz1 := G1.size
  refine wl (ro_assign rfl) ?_
  refine wl_nil (x_then (hK2 _ _ ?_))
  clear hK2 K2
  refine forget [(0, _), (1, _), (2, _), (7, _)] ⟨rfl, rfl, rfl, rfl, trivial⟩ (fun e => ?_)
  refine c_seq (fun K3 hK3 => ?_)
  refine c_reg ?_ -- region 2 bookm.go:57
  refine wl (ro_move rfl) ?_
  refine wl (ro_nilCheck rfl) ?_
  refine wl (ro_fieldAddr (k := 0) rfl fo_53_0) ?_
  refine wl (ro_loadB rfl sc_49 (by assumption) rfl) ?_
  refine wl (ro_move rfl) ?_
  refine wl (ro_move rfl) ?_
  refine wl_call rfl en_48 (Edit48G hb.nb (by omega) h.hv) ?_
  rintro _ u2 ⟨rfl, ⟨sb2, SL2, hs2, hv2⟩, G2⟩
  replace h := h.ed hb G2 hv2
  replace hU := G2.blkF hU (fun q => by have := q.2; omega)
  replace hF := hF.trans (G2.mono (fun k _ hk => .inl ⟨hk.1, by have := hk.2; omega⟩))
  have hsz2 := G2.size
  clear hK
  refine wl (ro_assign rfl) ?_
  refine wl_nil (x_then (hK3 _ _ ?_))
  clear hK3 K3
  refine c_seq (fun K4 hK4 => ?_)
  refine c_seq (fun K5 hK5 => ?_)
  refine c_reg ?_ -- region 3 bookm.go:58
  refine wl (ro_move rfl) ?_
  refine wl (ro_cmp (r := decide (edE kind a = 0)) rfl rfl rfl) ?_
  refine wl_nil (x_then (hK5 _ _ ?_))
  clear hK5 K5
  refine wc_cond rfl (fun hc19 => ?_) (fun hc19 => ?_)
  · try simp only [decide_eq_true_eq, decide_eq_false_iff_not, Bool.not_eq_true', Bool.not_eq_false', Bool.not_eq_eq_eq_not, Bool.not_true, Bool.not_false, beq_iff_eq, bne_iff_ne, ne_eq, beq_eq_false_iff_ne, bne_eq_false_iff_eq, gt_iff_lt, ge_iff_le, Int.not_lt, Int.not_le] at hc19
    refine c_reg ?_ -- region 4 bookm.go:59
    refine wl (ro_move rfl) ?_
    refine wl (ro_move rfl) ?_
    refine wl_call rfl en_46 (done46 hb (h.up w) n6 hT (by omega) (.inr hxb) hU) ?_
    rintro _ u3 ⟨⟨V1', hB3, hnb⟩, G3⟩
    refine wl_nil (x_then (hK4 _ _ ?_))
    clear hK4 K4
    refine forget [(8, _)] ⟨rfl, trivial⟩ (fun e => ?_)
    refine c_seq (fun K6 hK6 => ?_)
    refine c_reg ?_ -- region 5 bookm.go:61
    refine wl (ro_move rfl) ?_
    refine wl (ro_assign rfl) ?_
    refine wl_nil (x_then (hK6 _ _ ?_))
    clear hK6 K6
    refine c_ret ?_
    refine bp_ret Tryz.results13 rfl ?_
    unfold cmdP cmdN
    rw [if_pos hc19, if_pos hc19]
    exact ⟨rfl, ⟨V1', _, sb2, hB3, (hnb.after G2).after G1, nob.nil _ _, by omega⟩, hF.trans (G3.mono (fun k _ hk => by rcases hk with rfl | q; exact .inl ⟨by omega, by omega⟩; exact .inr (.inl q)))⟩
  · try simp only [decide_eq_true_eq, decide_eq_false_iff_not, Bool.not_eq_true', Bool.not_eq_false', Bool.not_eq_eq_eq_not, Bool.not_true, Bool.not_false, beq_iff_eq, bne_iff_ne, ne_eq, beq_eq_false_iff_ne, bne_eq_false_iff_eq, gt_iff_lt, ge_iff_le, Int.not_lt, Int.not_le] at hc19
    refine c_skip (x_then (hK4 _ _ ?_))
    clear hK4 K4
    refine forget [(8, _)] ⟨rfl, trivial⟩ (fun e => ?_)
    refine c_seq (fun K7 hK7 => ?_)
    refine c_reg ?_ -- region 5 bookm.go:61
    refine wl (ro_move rfl) ?_
    refine wl (ro_assign rfl) ?_
    refine wl_nil (x_then (hK7 _ _ ?_))
    clear hK7 K7
    refine c_ret ?_
    refine bp_ret Tryz.results13 rfl ?_
    unfold cmdP cmdN
    rw [if_neg hc19, if_neg hc19]
    rw [ed_err hc19] at h ⊢
    exact ⟨rfl, ⟨V1, V2, sb2, ⟨SL2, xs, ys, h.up _⟩, nob.refl _ _, nob.refl _ _, by omega⟩, hF⟩
set_option maxHeartbeats 4000000 in
theorem Copy15 {w : World} {Y : MK} {O : Nat → Prop} {lo hi : Nat} {T : List Tx} {past next : List (List Tx)} {V1 V2 : Value} {sb : Nat} {s d : Int} (hb : MkB lo hi Y) (h : BkV w Y O lo hi T past next V1 V2 sb) (n6 : past.length ≤ 6) :
    Ret Tryz.prog 15 [ptr Y.k, icv s, icv d] w (fun v w' => v = icv (cpE T s d) ∧ MkP w w' Y O lo hi (cpS T s d) (cmdP (cpE T s d) past T) (cmdN (cpE T s d) next) V1 V2 sb) := by
  have hF : Fram (MkS lo hi V1 V2) w w := Fram.refl _ _
  obtain ⟨SL, xs, ys, h⟩ := h
  have hT := h.ok
  have hk := hb.hk
  have hk2 := hb.kh
  have hlo := hb.loh
  have hz := h.hz
  have hK := h.hK
  refine ret_of Tryz.func15 rfl Tryz.ntmps15 rfl ?_
  refine c_seq (fun K1 hK1 => ?_)
  refine c_reg ?_ -- region 0 bookm.go:64
  refine wl (ro_assign rfl) ?_
  refine wl_nil (x_then (hK1 _ _ ?_))
  clear hK1 K1
  refine forget [(0, _), (1, _), (2, _)] ⟨rfl, rfl, rfl, trivial⟩ (fun e => ?_)
  refine c_seq (fun K2 hK2 => ?_)
  refine c_reg ?_ -- region 1 bookm.go:65
  refine wl (ro_move rfl) ?_
  refine wl_call rfl en_44 (snap44 hb.nb (by omega) h.hK h.hv) ?_
  rintro _ u1 ⟨⟨xb, rfl, hxb, hU⟩, G1⟩
  replace h := h.farN hb G1
  replace hK := G1.blkF hK (by intro h; simp only [none', rng] at h <;> omega)
  replace hF := hF.trans (G1.mono (fun _ _ q => q.elim))
  have hsz1 := G1.size
  refine wl (ro_assign rfl) ?_
  refine wl_nil (x_then (hK2 _ _ ?_))
  clear hK2 K2
  refine forget [(0, _), (1, _), (2, _), (7, _)] ⟨rfl, rfl, rfl, rfl, trivial⟩ (fun e => ?_)
  refine c_seq (fun K3 hK3 => ?_)
  refine c_reg ?_ -- region 2 bookm.go:66
  refine wl (ro_move rfl) ?_
  refine wl (ro_nilCheck rfl) ?_
  refine wl (ro_fieldAddr (k := 0) rfl fo_53_0) ?_
  refine wl (ro_loadB rfl sc_49 (by assumption) rfl) ?_
  refine wl (ro_move rfl) ?_
  refine wl (ro_move rfl) ?_
  refine wl_call rfl en_50 (Copy50G hb.nb (by omega) h.hv) ?_
  rintro _ u2 ⟨rfl, ⟨sb2, SL2, hs2, hv2⟩, G2⟩
  replace h := h.ed hb G2 hv2
  replace hU := G2.blkF hU (fun q => by have := q.2; omega)
  replace hF := hF.trans (G2.mono (fun k _ hk => .inl ⟨hk.1, by have := hk.2; omega⟩))
  have hsz2 := G2.size
  clear hK
  refine wl (ro_assign rfl) ?_
  refine wl_nil (x_then (hK3 _ _ ?_))
  clear hK3 K3
  refine c_seq (fun K4 hK4 => ?_)
  refine c_seq (fun K5 hK5 => ?_)
  refine c_reg ?_ -- region 3 bookm.go:67
  refine wl (ro_move rfl) ?_
  refine wl (ro_cmp (r := decide (cpE T s d = 0)) rfl rfl rfl) ?_
  refine wl_nil (x_then (hK5 _ _ ?_))
  clear hK5 K5
  refine wc_cond rfl (fun hc19 => ?_) (fun hc19 => ?_)
  · try simp only [decide_eq_true_eq, decide_eq_false_iff_not, Bool.not_eq_true', Bool.not_eq_false', Bool.not_eq_eq_eq_not, Bool.not_true, Bool.not_false, beq_iff_eq, bne_iff_ne, ne_eq, beq_eq_false_iff_ne, bne_eq_false_iff_eq, gt_iff_lt, ge_iff_le, Int.not_lt, Int.not_le] at hc19
    refine c_reg ?_ -- region 4 bookm.go:68
    refine wl (ro_move rfl) ?_
    refine wl (ro_move rfl) ?_
    refine wl_call rfl en_46 (done46 hb (h.up w) n6 hT (by omega) (.inr hxb) hU) ?_
    rintro _ u3 ⟨⟨V1', hB3, hnb⟩, G3⟩
    refine wl_nil (x_then (hK4 _ _ ?_))
    clear hK4 K4
    refine forget [(8, _)] ⟨rfl, trivial⟩ (fun e => ?_)
    refine c_seq (fun K6 hK6 => ?_)
    refine c_reg ?_ -- region 5 bookm.go:70
    refine wl (ro_move rfl) ?_
    refine wl (ro_assign rfl) ?_
    refine wl_nil (x_then (hK6 _ _ ?_))
    clear hK6 K6
    refine c_ret ?_
    refine bp_ret Tryz.results15 rfl ?_
    unfold cmdP cmdN
    rw [if_pos hc19, if_pos hc19]
    exact ⟨rfl, ⟨V1', _, sb2, hB3, (hnb.after G2).after G1, nob.nil _ _, by omega⟩, hF.trans (G3.mono (fun k _ hk => by rcases hk with rfl | q; exact .inl ⟨by omega, by omega⟩; exact .inr (.inl q)))⟩
  · try simp only [decide_eq_true_eq, decide_eq_false_iff_not, Bool.not_eq_true', Bool.not_eq_false', Bool.not_eq_eq_eq_not, Bool.not_true, Bool.not_false, beq_iff_eq, bne_iff_ne, ne_eq, beq_eq_false_iff_ne, bne_eq_false_iff_eq, gt_iff_lt, ge_iff_le, Int.not_lt, Int.not_le] at hc19
    refine c_skip (x_then (hK4 _ _ ?_))
    clear hK4 K4
    refine forget [(8, _)] ⟨rfl, trivial⟩ (fun e => ?_)
    refine c_seq (fun K7 hK7 => ?_)
    refine c_reg ?_ -- region 5 bookm.go:70
    refine wl (ro_move rfl) ?_
    refine wl (ro_assign rfl) ?_
    refine wl_nil (x_then (hK7 _ _ ?_))
    clear hK7 K7
    refine c_ret ?_
    refine bp_ret Tryz.results15 rfl ?_
    unfold cmdP cmdN
    rw [if_neg hc19, if_neg hc19]
    rw [cp_err hc19] at h ⊢
    exact ⟨rfl, ⟨V1, V2, sb2, ⟨SL2, xs, ys, h.up _⟩, nob.refl _ _, nob.refl _ _, by omega⟩, hF⟩

theorem Undo17N {w : World} {Y : MK} {O : Nat → Prop} {lo hi : Nat} {T : List Tx} {next : List (List Tx)} {V1 V2 : Value} {sb : Nat} (h : BkV w Y O lo hi T [] next V1 V2 sb) : Ret Tryz.prog 17 [ptr Y.k] w (fun v w' => v = icv 11 ∧ w' = w) := by
  obtain ⟨SL, xs, ys, h⟩ := h
  have hK := h.hK
  obtain ⟨a, cap, rfl⟩ := h.o1.form
  have hxl : xs.length = 0 := h.s1.1
  rw [hxl] at hK
  refine ret_of Tryz.func17 rfl Tryz.ntmps17 rfl ?_
  refine c_seq (fun K1 hK1 => ?_)
  refine c_reg ?_ -- region 0 bookm.go:73
  refine wl (ro_assign rfl) ?_
  refine wl_nil (x_then (hK1 _ _ ?_))
  clear hK1 K1
  refine c_seq (fun K2 hK2 => ?_)
  refine c_seq (fun K3 hK3 => ?_)
  refine c_reg ?_ -- region 1 bookm.go:74
  refine wl (ro_move rfl) ?_
  refine wl (ro_nilCheck rfl) ?_
  refine wl (ro_fieldAddr (k := 1) rfl fo_53_1) ?_
  refine wl (ro_loadB rfl sc_51 (by assumption) rfl) ?_
  refine wl (ro_lenL rfl se_51) ?_
  refine wl (ro_cmp (r := true) rfl rfl rfl) ?_
  refine wl_nil (x_then (hK3 _ _ ?_))
  clear hK3 K3
  refine wc_condT rfl ?_
  refine c_seq (fun K4 hK4 => ?_)
  refine c_reg ?_ -- region 2 bookm.go:75
  refine wl (ro_assign rfl) ?_
  refine wl_nil (x_then (hK4 _ _ ?_))
  clear hK4 K4
  refine c_ret (x_thenR ?_)
  refine bp_ret Tryz.results17 rfl ?_
  exact ⟨rfl, rfl⟩
theorem Redo19N {w : World} {Y : MK} {O : Nat → Prop} {lo hi : Nat} {T : List Tx} {past : List (List Tx)} {V1 V2 : Value} {sb : Nat} (h : BkV w Y O lo hi T past [] V1 V2 sb) : Ret Tryz.prog 19 [ptr Y.k] w (fun v w' => v = icv 11 ∧ w' = w) := by
  obtain ⟨SL, xs, ys, h⟩ := h
  have hK := h.hK
  obtain ⟨a, cap, rfl⟩ := h.o2.form
  have hxl : ys.length = 0 := h.s2.1
  rw [hxl] at hK
  refine ret_of Tryz.func19 rfl Tryz.ntmps19 rfl ?_
  refine c_seq (fun K1 hK1 => ?_)
  refine c_reg ?_ -- region 0 bookm.go:84
  refine wl (ro_assign rfl) ?_
  refine wl_nil (x_then (hK1 _ _ ?_))
  clear hK1 K1
  refine c_seq (fun K2 hK2 => ?_)
  refine c_seq (fun K3 hK3 => ?_)
  refine c_reg ?_ -- region 1 bookm.go:85
  refine wl (ro_move rfl) ?_
  refine wl (ro_nilCheck rfl) ?_
  refine wl (ro_fieldAddr (k := 2) rfl fo_53_2) ?_
  refine wl (ro_loadB rfl sc_51 (by assumption) rfl) ?_
  refine wl (ro_lenL rfl se_51) ?_
  refine wl (ro_cmp (r := true) rfl rfl rfl) ?_
  refine wl_nil (x_then (hK3 _ _ ?_))
  clear hK3 K3
  refine wc_condT rfl ?_
  refine c_seq (fun K4 hK4 => ?_)
  refine c_reg ?_ -- region 2 bookm.go:86
  refine wl (ro_assign rfl) ?_
  refine wl_nil (x_then (hK4 _ _ ?_))
  clear hK4 K4
  refine c_ret (x_thenR ?_)
  refine bp_ret Tryz.results19 rfl ?_
  exact ⟨rfl, rfl⟩
theorem MkW.push2 {w w1 w2 : World} {Y : MK} {O : Nat → Prop} {lo hi xb : Nat} {T Z : List Tx} {past next : List (List Tx)} {V1 V2 V2' : Value} {sb : Nat} {SL : List Vl} {xs ys : List Value} (hb : MkB lo hi Y) (h : MkW w Y O lo hi T past next V1 V2 sb SL xs ys) (G : Fram (own1 V2) w w1) (F : Fram (one Y.k) w1 w2) (o2 : OwO w1.heap V2' 56 (ys ++ [sl xb 24])) (hnb : nob V2 V2' w) (hK : Blk w2.heap Y.k [ptr Y.N.e, V1, V2'] 53) (hZ : TxOK Z) (hxb : hi ≤ xb) (hOx : O xb) (hU : Blk w.heap xb (rws stc Z) 9) :
    MkW w2 Y O lo hi T past (next ++ [Z]) V1 V2' sb SL xs (ys ++ [sl xb 24]) := by
  have hk := hb.hk
  have hk2 := hb.kh
  have hlo := hb.loh
  obtain ⟨_, hv, o1, o2', q1, q2, df, s1, s2, hz⟩ := id h
  have hsk : sb ≠ Y.k := hv.mv.hV.ne_type h.hK (by decide)
  have e1 : ∀ c S, Blk w.heap c (rws stc S) 9 → ¬ own1 V2 c := fun c S q hq => o2'.ne q (by decide) c hq rfl
  have b2' : ∀ b, V2'.ownBlock = some b → hi ≤ b := fun b q => by
    rcases hnb b q with z | z
    · exact q2 b z
    · omega
  have sz1 := G.size
  have sz2 := F.size
  refine ⟨hK, (hv.far hb.nb G (fun c z1 z2 q => by have := q2 c q; omega) (fun q => o2'.ne hv.mv.hV (by decide) sb q rfl)).far hb.nb F (fun c z1 z2 q => absurd (show c = Y.k from q) (by omega)) (fun q => absurd (show sb = Y.k from q) hsk), (o1.fram G (fun b z q => df b z q)).fram F (fun b z q => by have := q1 b z; have : b = Y.k := q; omega), o2.fram F (fun b z q => by have := b2' b z; have : b = Y.k := q; omega), q1, b2', fun b z1 z2 => ?_, ?_, ?_, by omega⟩
  · rcases hnb b z2 with z | z
    · exact df b z1 z
    · have := o1.lt z1; omega
  · exact (s1.far G (fun c S _ _ q => e1 c S q)).far F (fun c S z _ _ q => absurd (show c = Y.k from q) (by omega))
  · exact ((s2.far G (fun c S _ _ q => e1 c S q)).snoc hZ hxb hOx (G.blkF hU (e1 xb Z hU))).far F (fun c S z _ _ q => absurd (show c = Y.k from q) (by omega))
theorem MkW.push1 {w w1 w2 : World} {Y : MK} {O : Nat → Prop} {lo hi xb : Nat} {T Z : List Tx} {past next : List (List Tx)} {V1 V2 V1' : Value} {sb : Nat} {SL : List Vl} {xs ys : List Value} (hb : MkB lo hi Y) (h : MkW w Y O lo hi T past next V1 V2 sb SL xs ys) (G : Fram (own1 V1) w w1) (F : Fram (one Y.k) w1 w2) (o1' : OwO w1.heap V1' 56 (xs ++ [sl xb 24])) (hnb : nob V1 V1' w) (hK : Blk w2.heap Y.k [ptr Y.N.e, V1', V2] 53) (hZ : TxOK Z) (hxb : hi ≤ xb) (hOx : O xb) (hU : Blk w.heap xb (rws stc Z) 9) :
    MkW w2 Y O lo hi T (past ++ [Z]) next V1' V2 sb SL (xs ++ [sl xb 24]) ys := by
  have hk := hb.hk
  have hk2 := hb.kh
  have hlo := hb.loh
  obtain ⟨_, hv, o1, o2, q1, q2, df, s1, s2, hz⟩ := id h
  have hsk : sb ≠ Y.k := hv.mv.hV.ne_type h.hK (by decide)
  have e1 : ∀ c S, Blk w.heap c (rws stc S) 9 → ¬ own1 V1 c := fun c S q hq => o1.ne q (by decide) c hq rfl
  have b1' : ∀ b, V1'.ownBlock = some b → hi ≤ b := fun b q => by
    rcases hnb b q with z | z
    · exact q1 b z
    · omega
  have sz1 := G.size
  have sz2 := F.size
  refine ⟨hK, (hv.far hb.nb G (fun c z1 z2 q => by have := q1 c q; omega) (fun q => o1.ne hv.mv.hV (by decide) sb q rfl)).far hb.nb F (fun c z1 z2 q => absurd (show c = Y.k from q) (by omega)) (fun q => absurd (show sb = Y.k from q) hsk), o1'.fram F (fun b z q => by have := b1' b z; have : b = Y.k := q; omega), (o2.fram G (fun b z q => df b q z)).fram F (fun b z q => by have := q2 b z; have : b = Y.k := q; omega), b1', q2, fun b z1 z2 => ?_, ?_, ?_, by omega⟩
  · rcases hnb b z1 with z | z
    · exact df b z z2
    · have := o2.lt z2; omega
  · exact ((s1.far G (fun c S _ _ q => e1 c S q)).snoc hZ hxb hOx (G.blkF hU (e1 xb Z hU))).far F (fun c S z _ _ q => absurd (show c = Y.k from q) (by omega))
  · exact (s2.far G (fun c S _ _ q => e1 c S q)).far F (fun c S z _ _ q => absurd (show c = Y.k from q) (by omega))
/-- The struct alone is written; the blocks stay the same. -/
theorem MkW.st {w w' : World} {Y : MK} {O : Nat → Prop} {lo hi : Nat} {T : List Tx} {past next past' next' : List (List Tx)} {V1 V2 V1' V2' : Value} {sb : Nat} {SL : List Vl} {xs ys xs' ys' : List Value} (hb : MkB lo hi Y) (h : MkW w Y O lo hi T past next V1 V2 sb SL xs ys) (F : Fram (one Y.k) w w') (hK : Blk w'.heap Y.k [ptr Y.N.e, V1', V2'] 53) (o1 : OwO w.heap V1' 56 xs') (o2 : OwO w.heap V2' 56 ys') (e1 : ∀ b, V1'.ownBlock = some b → V1.ownBlock = some b) (e2 : ∀ b, V2'.ownBlock = some b → V2.ownBlock = some b) (s1 : SnV w O hi xs' past') (s2 : SnV w O hi ys' next') :
    MkW w' Y O lo hi T past' next' V1' V2' sb SL xs' ys' := by
  have hk := hb.hk
  have hk2 := hb.kh
  have hlo := hb.loh
  obtain ⟨_, hv, _, _, q1, q2, df, _, _, hz⟩ := id h
  have hsk : sb ≠ Y.k := hv.mv.hV.ne_type h.hK (by decide)
  have sz := F.size
  exact ⟨hK, hv.far hb.nb F (fun c z1 z2 q => absurd (show c = Y.k from q) (by omega)) (fun q => absurd (show sb = Y.k from q) hsk), o1.fram F (fun b z q => by have := q1 b (e1 b z); have : b = Y.k := q; omega), o2.fram F (fun b z q => by have := q2 b (e2 b z); have : b = Y.k := q; omega), fun b z => q1 b (e1 b z), fun b z => q2 b (e2 b z), fun b z1 z2 => df b (e1 b z1) (e2 b z2), s1.far F (fun c S z _ _ q => absurd (show c = Y.k from q) (by omega)), s2.far F (fun c S z _ _ q => absurd (show c = Y.k from q) (by omega)), by omega⟩
theorem ow_take {H : Array Obj} {g off cap m : Nat} {l xs : List Value} {e : Nat} (hB : Blk H g l e) (h1 : m ≤ xs.length) (h3 : xs.length ≤ cap) (h4 : cap ≤ 9223372036854775807) (h5 : off + cap ≤ l.length) (h6 : (l.drop off).take xs.length = xs) : OwO H (.slice (some ⟨g, off, none⟩) m cap) e (xs.take m) := by
  have hm : (xs.take m).length = m := by rw [List.length_take]; omega
  refine .inr ⟨g, off, cap, l, by rw [hm], hB, by omega, h4, h5, ?_⟩
  rw [hm]
  conv => rhs; rw [← h6]
  rw [List.take_take, Nat.min_eq_left h1]
theorem ow_get {off : Nat} {l xs : List Value} {i : Nat} {v : Value} (h6 : (l.drop off).take xs.length = xs) (hv : xs[i]? = some v) : l[off + i]? = some v := by
  have hi := (List.getElem?_eq_some_iff.1 hv).1
  rw [← h6, List.getElem?_take_of_lt hi, List.getElem?_drop] at hv
  exact hv
set_option maxHeartbeats 8000000 in
theorem Undo17 {w : World} {Y : MK} {O : Nat → Prop} {lo hi : Nat} {T A : List Tx} {past next : List (List Tx)} {V1 V2 : Value} {sb : Nat} (hb : MkB lo hi Y) (h : BkV w Y O lo hi T (past ++ [A]) next V1 V2 sb) (n6 : past.length + next.length ≤ 6) :
    Ret Tryz.prog 17 [ptr Y.k] w (fun v w' => v = icv 0 ∧ MkP w w' Y O lo hi A past (next ++ [T]) V1 V2 sb) := by
  have hF : Fram (MkS lo hi V1 V2) w w := Fram.refl _ _
  obtain ⟨SL, xs, ys, h⟩ := h
  have hT := h.ok
  have hk := hb.hk
  have hk2 := hb.kh
  have hlo := hb.loh
  have hz := h.hz
  have hK := h.hK
  have hxl : xs.length = past.length + 1 := by rw [h.s1.1]; simp
  have hyl : ys.length = next.length := h.s2.1
  obtain ⟨g1, f1, c1, l1, rfl, _, j3, j4, j5, j6⟩ := (id h.o1).resolve_left (fun q => by rw [q.2] at hxl; simp at hxl)
  have hget : ∃ l1', True := ⟨l1, trivial⟩
  refine ret_of Tryz.func17 rfl Tryz.ntmps17 rfl ?_
  refine c_seq (fun K1 hK1 => ?_)
  refine c_reg ?_ -- region 0 bookm.go:73
  refine wl (ro_assign rfl) ?_
  refine wl_nil (x_then (hK1 _ _ ?_))
  clear hK1 K1
  refine c_seq (fun K2 hK2 => ?_)
  refine c_seq (fun K3 hK3 => ?_)
  refine c_reg ?_ -- region 1 bookm.go:74
  refine wl (ro_move rfl) ?_
  refine wl (ro_nilCheck rfl) ?_
  refine wl (ro_fieldAddr (k := 1) rfl fo_53_1) ?_
  refine wl (ro_loadB rfl sc_51 (by assumption) rfl) ?_
  refine wl (ro_lenL rfl se_51) ?_
  refine wl (ro_cmp (r := false) rfl rfl (congrArg some (by rw [hxl]; simp; omega))) ?_
  refine wl_nil (x_then (hK3 _ _ ?_))
  clear hK3 K3
  refine wc_condF rfl ?_
  refine c_skip (x_then (hK2 _ _ ?_))
  clear hK2 K2
  refine forget [(0, _)] ⟨rfl, trivial⟩ (fun e => ?_)
  refine c_seq (fun K4 hK4 => ?_)
  refine c_reg ?_ -- region 3 bookm.go:77
  refine wl (ro_move rfl) ?_
  refine wl_call rfl en_44 (snap44 hb.nb (by omega) h.hK h.hv) ?_
  rintro _ u1 ⟨⟨xb, rfl, hxb, hU⟩, G1⟩
  replace h := h.farN hb G1
  replace hK := G1.blkF hK (by intro h; simp only [none', rng] at h <;> omega)
  replace hF := hF.trans (G1.mono (fun _ _ q => q.elim))
  have hsz1 := G1.size
  refine wl (ro_assign rfl) ?_
  refine wl_nil (x_then (hK4 _ _ ?_))
  clear hK4 K4
  refine forget [(0, _), (3, _)] ⟨rfl, rfl, trivial⟩ (fun e => ?_)
  refine c_seq (fun K5 hK5 => ?_)
  refine c_reg ?_ -- region 4 bookm.go:78
  refine wl (ro_move rfl) ?_
  refine wl (ro_move rfl) ?_
  refine wl (ro_nilCheck rfl) ?_
  refine wl (ro_fieldAddr (k := 2) rfl fo_53_2) ?_
  refine wl (ro_loadB rfl sc_51 (by assumption) rfl) ?_
  refine wl (ro_move rfl) ?_
  skip
  refine wl_app1 (u := sl xb 24) (xs := ys) rfl rfl rfl rfl se_51 zx_56 by_56 rfl h.o2 (by omega) (by omega) (fun V' u2 o2' G2 hnb ↦ ?_)
  replace hF := hF.trans (G2.mono (fun k _ hk => .inr (.inr hk)))
  have hq2 := h.b2
  replace hK := G2.blkF hK (fun q => by have := hq2 _ q; omega)
  obtain ⟨g2, f2, c2, l2, rfl, hB2, k3, k4, k5, k6⟩ := (id o2').resolve_left (fun q => by simp at q)
  have hsz2 := G2.size
  refine wl (ro_nilCheck rfl) ?_
  refine wl (ro_fieldAddr (k := 2) rfl fo_53_2) ?_
  refine wl_put rfl rfl rfl sz_51 hK ((by simp)) (rfl) (fun w1 hK F1 => ?_)
  replace h := (h.up w).push2 hb G2 F1 o2' hnb hK hT (by omega) (.inr hxb) hU
  replace hF := hF.trans ((F1).mono (fun k _ hk ↦ by have : k = Y.k := hk; exact .inl ⟨by omega, by omega⟩))
  obtain ⟨hsn, hAok, ab, hab1, hab2, habO, hab3⟩ := h.s1.last
  obtain ⟨l1', hB1, j5', j6'⟩ : ∃ l1', Blk (w1).heap g1 l1' 56 ∧ f1 + c1 ≤ l1'.length ∧ (l1'.drop f1).take xs.length = xs := by
    obtain ⟨g, off, cap, l, e1, e2, e3, e4, e5, e6⟩ := (id h.o1).resolve_left (fun q => by rw [q.2] at hxl; simp at hxl)
    cases e1
    exact ⟨l, e2, e5, e6⟩
  have hsz3 := (F1).size
  refine wl_nil (x_then (hK5 _ _ ?_))
  clear hK5 K5
  refine forget [(0, _)] ⟨rfl, trivial⟩ (fun e => ?_)
  refine c_seq (fun K6 hK6 => ?_)
  refine c_piL9 13 [(0, false), (1, false), (2, false), (3, false), (4, false), (5, false), (6, false), (7, false), (8, false), (9, false), (10, false), (11, false), (12, false)] (fun w' => Blk w'.heap Y.k [ptr Y.N.e, .slice (some ⟨g1, f1, none⟩) xs.length c1, .slice (some ⟨g2, f2, none⟩) (ys ++ [sl xb 24]).length c2] 53 ∧ Blk w'.heap g1 l1' 56) mixed (by kernel_rfl) rfl (by kernel_rfl) (po_then (po_bp)) (⟨hK, hB1⟩) ?_ -- region 5 bookm.go:79
  refine ql_ro rfl (fun w hS => ro_move rfl) ?_
  refine ql_ro rfl (fun w hS => ro_move rfl) ?_
  refine ql_ro rfl (fun w hS => ro_nilCheck rfl) ?_
  refine ql_ro rfl (fun w hS => ro_fieldAddr (k := 1) rfl fo_53_1) ?_
  refine ql_ro rfl (fun w hS => ro_loadB rfl sc_51 (hS.1) (rfl)) ?_
  refine ql_ro rfl (fun w hS => ro_move rfl) ?_
  refine ql_ro rfl (fun w hS => ro_nilCheck rfl) ?_
  refine ql_ro rfl (fun w hS => ro_fieldAddr (k := 1) rfl fo_53_1) ?_
  refine ql_ro rfl (fun w hS => ro_loadB rfl sc_51 (hS.1) (rfl)) ?_
  refine ql_ro rfl (fun w hS => ro_lenL rfl se_51) ?_
  refine ql_ro rfl (fun w hS => ro_arith (r := ((past.length : Nat) : Int)) rfl rfl (congrArg some (by omega)) (Go.IntWalk.i64_in _ (by omega))) ?_
  refine ql_ro rfl (fun w hS => ro_indexAddr (et := 56) (k := 1) rfl rfl se_51 (rfl) ((by omega))) ?_
  refine ql_ro rfl (fun w hS => ro_loadB rfl sc_56 (hS.2) ((by rw [Nat.mul_one]; exact ow_get j6' hab1))) ?_
  refine ql_lastC rfl rfl en_36 (put36 (Z := A) hb (show hi ≤ _ from h.hz) hK (h.hv.farN hb.nb (Fram.drew none' _ _)) hAok hab2 hab3) ?_
  rintro _ u4 ⟨⟨sb4, SL4, hs4, hv4⟩, G4⟩
  have h4 := (h.farN hb (Fram.drew none' _ _)).ed hb G4 hv4
  have hg1 : hi ≤ g1 := h.b1 g1 rfl
  replace hB1 := G4.blkF hB1 (fun q => by have := q.2; omega)
  have hsn4 := hsn.far ((Fram.drew (rng lo Y.h) _ _).trans G4) (fun b S z _ _ q => by have := q.2; omega)
  replace hF := hF.thenDrew.trans (G4.mono (fun k _ hk => .inl ⟨hk.1, by have := hk.2; omega⟩))
  have hsz4 := G4.size
  clear hK
  have hK := h4.hK
  refine x_then (hK6 _ _ ?_)
  clear hK6 K6
  refine forget [(0, _)] ⟨rfl, trivial⟩ (fun e => ?_)
  refine c_seq (fun K7 hK7 => ?_)
  refine c_piL 14 [(0, false), (1, false), (2, false), (3, false), (4, false), (5, false), (6, false), (7, false), (8, false), (9, false), (10, false), (11, false), (12, false), (13, false)] (fun w' => Blk w'.heap Y.k [ptr Y.N.e, .slice (some ⟨g1, f1, none⟩) xs.length c1, .slice (some ⟨g2, f2, none⟩) (ys ++ [sl xb 24]).length c2] 53) mixed (by kernel_rfl) rfl (by kernel_rfl) (po_then (po_bp)) (hK) ?_ -- region 6 bookm.go:80
  refine ql_ro rfl (fun w hS => ro_move rfl) ?_
  refine ql_ro rfl (fun w hS => ro_move rfl) ?_
  refine ql_ro rfl (fun w hS => ro_nilCheck rfl) ?_
  refine ql_ro rfl (fun w hS => ro_fieldAddr (k := 1) rfl fo_53_1) ?_
  refine ql_ro rfl (fun w hS => ro_loadB rfl sc_51 (hS) (rfl)) ?_
  refine ql_ro rfl (fun w hS => ro_move rfl) ?_
  refine ql_ro rfl (fun w hS => ro_nilCheck rfl) ?_
  refine ql_ro rfl (fun w hS => ro_fieldAddr (k := 1) rfl fo_53_1) ?_
  refine ql_ro rfl (fun w hS => ro_loadB rfl sc_51 (hS) (rfl)) ?_
  refine ql_ro rfl (fun w hS => ro_lenL rfl se_51) ?_
  refine ql_ro rfl (fun w hS => ro_arith (r := ((past.length : Nat) : Int)) rfl rfl (congrArg some (by omega)) (Go.IntWalk.i64_in _ (by omega))) ?_
  refine ql_ro rfl (fun w hS => ro_sliceH (h := past.length) rfl rfl se_51 rfl (by omega)) ?_
  refine ql_ro rfl (fun w hS => ro_nilCheck rfl) ?_
  refine ql_ro rfl (fun w hS => ro_fieldAddr (k := 1) rfl fo_53_1) ?_
  refine ql_put rfl rfl rfl rfl sz_51 hK ((by simp)) (rfl) (fun w2 hK F2 => ?_)
  have h5 := (h4.farN hb (Fram.drew none' u4 _)).st hb F2 hK (ow_take (m := past.length) hB1 (by omega) j3 j4 j5' j6') (h4.farN hb (Fram.drew none' u4 _)).o2 (fun b q ↦ q) (fun b q ↦ q) (hsn4.far (Fram.drew none' u4 _) (fun _ _ _ _ _ q ↦ q)) (h4.farN hb (Fram.drew none' u4 _)).s2
  replace hF := hF.thenDrew.trans ((F2).mono (fun k _ hk ↦ by have : k = Y.k := hk; exact .inl ⟨by omega, by omega⟩))
  refine x_then (hK7 _ _ ?_)
  clear hK7 K7
  refine forget [] trivial (fun e => ?_)
  refine c_seq (fun K8 hK8 => ?_)
  refine c_reg ?_ -- region 7 bookm.go:81
  refine wl (ro_assign rfl) ?_
  refine wl_nil (x_then (hK8 _ _ ?_))
  clear hK8 K8
  refine c_ret ?_
  refine bp_ret Tryz.results17 rfl ?_
  exact ⟨rfl, ⟨_, _, sb4, ⟨SL4, _, _, h5⟩, fun b q => .inl q, hnb.after G1, by (have q2 : sb4 = sb ∨ w1.heap.size ≤ sb4 := hs4; omega)⟩, hF⟩
set_option maxHeartbeats 8000000 in
theorem Redo19 {w : World} {Y : MK} {O : Nat → Prop} {lo hi : Nat} {T A : List Tx} {past next : List (List Tx)} {V1 V2 : Value} {sb : Nat} (hb : MkB lo hi Y) (h : BkV w Y O lo hi T past (next ++ [A]) V1 V2 sb) (n6 : past.length + next.length ≤ 6) :
    Ret Tryz.prog 19 [ptr Y.k] w (fun v w' => v = icv 0 ∧ MkP w w' Y O lo hi A (past ++ [T]) next V1 V2 sb) := by
  have hF : Fram (MkS lo hi V1 V2) w w := Fram.refl _ _
  obtain ⟨SL, xs, ys, h⟩ := h
  have hT := h.ok
  have hk := hb.hk
  have hk2 := hb.kh
  have hlo := hb.loh
  have hz := h.hz
  have hK := h.hK
  have hxl : ys.length = next.length + 1 := by rw [h.s2.1]; simp
  have hyl : xs.length = past.length := h.s1.1
  obtain ⟨g1, f1, c1, l1, rfl, _, j3, j4, j5, j6⟩ := (id h.o2).resolve_left (fun q => by rw [q.2] at hxl; simp at hxl)
  have hget : ∃ l1', True := ⟨l1, trivial⟩
  refine ret_of Tryz.func19 rfl Tryz.ntmps19 rfl ?_
  refine c_seq (fun K1 hK1 => ?_)
  refine c_reg ?_ -- region 0 bookm.go:84
  refine wl (ro_assign rfl) ?_
  refine wl_nil (x_then (hK1 _ _ ?_))
  clear hK1 K1
  refine c_seq (fun K2 hK2 => ?_)
  refine c_seq (fun K3 hK3 => ?_)
  refine c_reg ?_ -- region 1 bookm.go:85
  refine wl (ro_move rfl) ?_
  refine wl (ro_nilCheck rfl) ?_
  refine wl (ro_fieldAddr (k := 2) rfl fo_53_2) ?_
  refine wl (ro_loadB rfl sc_51 (by assumption) rfl) ?_
  refine wl (ro_lenL rfl se_51) ?_
  refine wl (ro_cmp (r := false) rfl rfl (congrArg some (by rw [hxl]; simp; omega))) ?_
  refine wl_nil (x_then (hK3 _ _ ?_))
  clear hK3 K3
  refine wc_condF rfl ?_
  refine c_skip (x_then (hK2 _ _ ?_))
  clear hK2 K2
  refine forget [(0, _)] ⟨rfl, trivial⟩ (fun e => ?_)
  refine c_seq (fun K4 hK4 => ?_)
  refine c_reg ?_ -- region 3 bookm.go:88
  refine wl (ro_move rfl) ?_
  refine wl_call rfl en_44 (snap44 hb.nb (by omega) h.hK h.hv) ?_
  rintro _ u1 ⟨⟨xb, rfl, hxb, hU⟩, G1⟩
  replace h := h.farN hb G1
  replace hK := G1.blkF hK (by intro h; simp only [none', rng] at h <;> omega)
  replace hF := hF.trans (G1.mono (fun _ _ q => q.elim))
  have hsz1 := G1.size
  refine wl (ro_assign rfl) ?_
  refine wl_nil (x_then (hK4 _ _ ?_))
  clear hK4 K4
  refine forget [(0, _), (3, _)] ⟨rfl, rfl, trivial⟩ (fun e => ?_)
  refine c_seq (fun K5 hK5 => ?_)
  refine c_reg ?_ -- region 4 bookm.go:89
  refine wl (ro_move rfl) ?_
  refine wl (ro_move rfl) ?_
  refine wl (ro_nilCheck rfl) ?_
  refine wl (ro_fieldAddr (k := 1) rfl fo_53_1) ?_
  refine wl (ro_loadB rfl sc_51 (by assumption) rfl) ?_
  refine wl (ro_move rfl) ?_
  skip
  refine wl_app1 (u := sl xb 24) (xs := xs) rfl rfl rfl rfl se_51 zx_56 by_56 rfl h.o1 (by omega) (by omega) (fun V' u2 o2' G2 hnb ↦ ?_)
  replace hF := hF.trans (G2.mono (fun k _ hk => .inr (.inl hk)))
  have hq2 := h.b1
  replace hK := G2.blkF hK (fun q => by have := hq2 _ q; omega)
  obtain ⟨g2, f2, c2, l2, rfl, hB2, k3, k4, k5, k6⟩ := (id o2').resolve_left (fun q => by simp at q)
  have hsz2 := G2.size
  refine wl (ro_nilCheck rfl) ?_
  refine wl (ro_fieldAddr (k := 1) rfl fo_53_1) ?_
  refine wl_put rfl rfl rfl sz_51 hK ((by simp)) (rfl) (fun w1 hK F1 => ?_)
  replace h := (h.up w).push1 hb G2 F1 o2' hnb hK hT (by omega) (.inr hxb) hU
  replace hF := hF.trans ((F1).mono (fun k _ hk ↦ by have : k = Y.k := hk; exact .inl ⟨by omega, by omega⟩))
  obtain ⟨hsn, hAok, ab, hab1, hab2, habO, hab3⟩ := h.s2.last
  obtain ⟨l1', hB1, j5', j6'⟩ : ∃ l1', Blk (w1).heap g1 l1' 56 ∧ f1 + c1 ≤ l1'.length ∧ (l1'.drop f1).take ys.length = ys := by
    obtain ⟨g, off, cap, l, e1, e2, e3, e4, e5, e6⟩ := (id h.o2).resolve_left (fun q => by rw [q.2] at hxl; simp at hxl)
    cases e1
    exact ⟨l, e2, e5, e6⟩
  have hsz3 := (F1).size
  refine wl_nil (x_then (hK5 _ _ ?_))
  clear hK5 K5
  refine forget [(0, _)] ⟨rfl, trivial⟩ (fun e => ?_)
  refine c_seq (fun K6 hK6 => ?_)
  refine c_piL9 13 [(0, false), (1, false), (2, false), (3, false), (4, false), (5, false), (6, false), (7, false), (8, false), (9, false), (10, false), (11, false), (12, false)] (fun w' => Blk w'.heap Y.k [ptr Y.N.e, .slice (some ⟨g2, f2, none⟩) (xs ++ [sl xb 24]).length c2, .slice (some ⟨g1, f1, none⟩) ys.length c1] 53 ∧ Blk w'.heap g1 l1' 56) mixed (by kernel_rfl) rfl (by kernel_rfl) (po_then (po_bp)) (⟨hK, hB1⟩) ?_ -- region 5 bookm.go:90
  refine ql_ro rfl (fun w hS => ro_move rfl) ?_
  refine ql_ro rfl (fun w hS => ro_move rfl) ?_
  refine ql_ro rfl (fun w hS => ro_nilCheck rfl) ?_
  refine ql_ro rfl (fun w hS => ro_fieldAddr (k := 2) rfl fo_53_2) ?_
  refine ql_ro rfl (fun w hS => ro_loadB rfl sc_51 (hS.1) (rfl)) ?_
  refine ql_ro rfl (fun w hS => ro_move rfl) ?_
  refine ql_ro rfl (fun w hS => ro_nilCheck rfl) ?_
  refine ql_ro rfl (fun w hS => ro_fieldAddr (k := 2) rfl fo_53_2) ?_
  refine ql_ro rfl (fun w hS => ro_loadB rfl sc_51 (hS.1) (rfl)) ?_
  refine ql_ro rfl (fun w hS => ro_lenL rfl se_51) ?_
  refine ql_ro rfl (fun w hS => ro_arith (r := ((next.length : Nat) : Int)) rfl rfl (congrArg some (by omega)) (Go.IntWalk.i64_in _ (by omega))) ?_
  refine ql_ro rfl (fun w hS => ro_indexAddr (et := 56) (k := 1) rfl rfl se_51 (rfl) ((by omega))) ?_
  refine ql_ro rfl (fun w hS => ro_loadB rfl sc_56 (hS.2) ((by rw [Nat.mul_one]; exact ow_get j6' hab1))) ?_
  refine ql_lastC rfl rfl en_36 (put36 (Z := A) hb (show hi ≤ _ from h.hz) hK (h.hv.farN hb.nb (Fram.drew none' _ _)) hAok hab2 hab3) ?_
  rintro _ u4 ⟨⟨sb4, SL4, hs4, hv4⟩, G4⟩
  have h4 := (h.farN hb (Fram.drew none' _ _)).ed hb G4 hv4
  have hg1 : hi ≤ g1 := h.b2 g1 rfl
  replace hB1 := G4.blkF hB1 (fun q => by have := q.2; omega)
  have hsn4 := hsn.far ((Fram.drew (rng lo Y.h) _ _).trans G4) (fun b S z _ _ q => by have := q.2; omega)
  replace hF := hF.thenDrew.trans (G4.mono (fun k _ hk => .inl ⟨hk.1, by have := hk.2; omega⟩))
  have hsz4 := G4.size
  clear hK
  have hK := h4.hK
  refine x_then (hK6 _ _ ?_)
  clear hK6 K6
  refine forget [(0, _)] ⟨rfl, trivial⟩ (fun e => ?_)
  refine c_seq (fun K7 hK7 => ?_)
  refine c_piL 14 [(0, false), (1, false), (2, false), (3, false), (4, false), (5, false), (6, false), (7, false), (8, false), (9, false), (10, false), (11, false), (12, false), (13, false)] (fun w' => Blk w'.heap Y.k [ptr Y.N.e, .slice (some ⟨g2, f2, none⟩) (xs ++ [sl xb 24]).length c2, .slice (some ⟨g1, f1, none⟩) ys.length c1] 53) mixed (by kernel_rfl) rfl (by kernel_rfl) (po_then (po_bp)) (hK) ?_ -- region 6 bookm.go:91
  refine ql_ro rfl (fun w hS => ro_move rfl) ?_
  refine ql_ro rfl (fun w hS => ro_move rfl) ?_
  refine ql_ro rfl (fun w hS => ro_nilCheck rfl) ?_
  refine ql_ro rfl (fun w hS => ro_fieldAddr (k := 2) rfl fo_53_2) ?_
  refine ql_ro rfl (fun w hS => ro_loadB rfl sc_51 (hS) (rfl)) ?_
  refine ql_ro rfl (fun w hS => ro_move rfl) ?_
  refine ql_ro rfl (fun w hS => ro_nilCheck rfl) ?_
  refine ql_ro rfl (fun w hS => ro_fieldAddr (k := 2) rfl fo_53_2) ?_
  refine ql_ro rfl (fun w hS => ro_loadB rfl sc_51 (hS) (rfl)) ?_
  refine ql_ro rfl (fun w hS => ro_lenL rfl se_51) ?_
  refine ql_ro rfl (fun w hS => ro_arith (r := ((next.length : Nat) : Int)) rfl rfl (congrArg some (by omega)) (Go.IntWalk.i64_in _ (by omega))) ?_
  refine ql_ro rfl (fun w hS => ro_sliceH (h := next.length) rfl rfl se_51 rfl (by omega)) ?_
  refine ql_ro rfl (fun w hS => ro_nilCheck rfl) ?_
  refine ql_ro rfl (fun w hS => ro_fieldAddr (k := 2) rfl fo_53_2) ?_
  refine ql_put rfl rfl rfl rfl sz_51 hK ((by simp)) (rfl) (fun w2 hK F2 => ?_)
  have h5 := (h4.farN hb (Fram.drew none' u4 _)).st hb F2 hK (h4.farN hb (Fram.drew none' u4 _)).o1 (ow_take (m := next.length) hB1 (by omega) j3 j4 j5' j6') (fun b q ↦ q) (fun b q ↦ q) (h4.farN hb (Fram.drew none' u4 _)).s1 (hsn4.far (Fram.drew none' u4 _) (fun _ _ _ _ _ q ↦ q))
  replace hF := hF.thenDrew.trans ((F2).mono (fun k _ hk ↦ by have : k = Y.k := hk; exact .inl ⟨by omega, by omega⟩))
  refine x_then (hK7 _ _ ?_)
  clear hK7 K7
  refine forget [] trivial (fun e => ?_)
  refine c_seq (fun K8 hK8 => ?_)
  refine c_reg ?_ -- region 7 bookm.go:92
  refine wl (ro_assign rfl) ?_
  refine wl_nil (x_then (hK8 _ _ ?_))
  clear hK8 K8
  refine c_ret ?_
  refine bp_ret Tryz.results19 rfl ?_
  exact ⟨rfl, ⟨_, _, sb4, ⟨SL4, _, _, h5⟩, hnb.after G1, fun b q => .inl q, by (have q2 : sb4 = sb ∨ w1.heap.size ≤ sb4 := hs4; omega)⟩, hF⟩

end Go.Proofs.Qxb6500570aGreat
