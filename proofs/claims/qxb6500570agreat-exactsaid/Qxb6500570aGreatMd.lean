import Derived.Test.Qxb6500570aGreatMc
import Derived.Test.Qxb6500570aGreatLe
/- The real book: commands, undo and redo. -/
namespace Go.Proofs.Qxb6500570aGreat
set_option linter.unusedVariables false
set_option linter.unusedSimpArgs false

structure BaW (w : World) (X : BB) (T : List Tx) (past next : List (List Tx)) (b : Nat) (P : List Tx) (M : List Nat) (W : List Tx) (O : Nat → Value) (SL : List Vl) : Prop where
  hK : Blk w.heap X.k (bst X b past.length next.length) 60
  hP : Blk w.heap X.p (rws stc P) 9
  hM : Blk w.heap X.t (rws msc M) 85
  hW : Blk w.heap X.s (rws stc W) 9
  hO : FB w.heap X.o 1056 O 5
  wl : W.length = 24
  rg : Rg P M b (fun k => decide (k < past.length + next.length)) (hst past T next)
  n6 : past.length + next.length ≤ 6
  dv : DaV w X.D zL T SL
  po : ∀ S ∈ past, TxOK S
  no : ∀ S ∈ next, TxOK S
def BaV (w : World) (X : BB) (T : List Tx) (past next : List (List Tx)) : Prop := ∃ b P M W O SL, BaW w X T past next b P M W O SL
theorem BaW.ok {w : World} {X : BB} {T : List Tx} {past next : List (List Tx)} {b : Nat} {P : List Tx} {M : List Nat} {W : List Tx} {O : Nat → Value} {SL : List Vl} (h : BaW w X T past next b P M W O SL) : TxOK T := ⟨h.dv.cv.tl, h.dv.cv.t40⟩
theorem BaV.far {w w' : World} {lo hi : Nat} {X : BB} {T : List Tx} {past next : List (List Tx)} {G : Nat → Prop} (hb : BaB lo hi X) (h : BaV w X T past next) (F : Fram G w w') (hn : ∀ b, lo ≤ b → b < hi → ¬ G b) : BaV w' X T past next := by
  obtain ⟨b, P, M, W, O, SL, h⟩ := h
  obtain ⟨hdb, b1, b2, b3, b4, b5, b6⟩ := hb
  have h0 := hdb.lom
  have h1 := hdb.mb
  have h2 := hdb.be
  have h3 := hdb.eh
  exact ⟨b, P, M, W, O, SL, F.blkF h.hK (hn _ (by omega) (by omega)), F.blkF h.hP (hn _ (by omega) (by omega)), F.blkF h.hM (hn _ (by omega) (by omega)), F.blkF h.hW (hn _ (by omega) (by omega)), F.blkF h.hO (hn _ (by omega) (by omega)), h.wl, h.rg, h.n6, h.dv.far hdb F (fun b q1 q2 => hn b q1 (by omega)), h.po, h.no⟩
def cmdP (e : Int) (past : List (List Tx)) (T : List Tx) : List (List Tx) := if e = 0 then cutP (past ++ [T]) else past
def cmdN (e : Int) (next : List (List Tx)) : List (List Tx) := if e = 0 then [] else next
theorem cut_len {l : List (List Tx)} (h : l.length ≤ 7) : (cutP l).length ≤ 6 := by
  unfold cutP
  split
  · rw [List.length_drop]; omega
  · omega
theorem cut_ok {past : List (List Tx)} {T : List Tx} (hp : ∀ S ∈ past, TxOK S) (hT : TxOK T) : ∀ S ∈ cutP (past ++ [T]), TxOK S := by
  have h : ∀ S ∈ past ++ [T], TxOK S := fun S hS => by
    rcases List.mem_append.1 hS with q | q
    · exact hp S q
    · rw [List.mem_singleton.1 q]; exact hT
  unfold cutP
  split
  · exact fun S hS => h S (List.mem_of_mem_drop hS)
  · exact h
theorem BaV.noted {w : World} {X : BB} {T T' : List Tx} {past next : List (List Tx)} {b : Nat} {P : List Tx} {M : List Nat} {W : List Tx} {O : Nat → Value} {SL : List Vl} (hR : RgV w X b (cutP (past ++ [T])).length 0 (fun k => decide (k < (cutP (past ++ [T])).length + 0)) (hst (cutP (past ++ [T])) T' []) P M)
    (hW : Blk w.heap X.s (rws stc W) 9) (hO : FB w.heap X.o 1056 O 5) (hwl : W.length = 24) (h : DaV w X.D zL T' SL) (hp : ∀ S ∈ past, TxOK S) (hT : TxOK T) (hn : past.length + next.length ≤ 6) : BaV w X T' (cutP (past ++ [T])) [] := by
  obtain ⟨hK, hP, hM, rg⟩ := hR
  exact ⟨b, P, M, W, O, SL, hK, hP, hM, hW, hO, hwl, rg, by have := cut_len (l := past ++ [T]) (by simp; omega); simpa using this, h, cut_ok hp hT, fun S hS => by cases hS⟩
theorem Raw61 {w : World} {X : BB} {T : List Tx} {past next : List (List Tx)} {c : Int} (h : BaV w X T past next) : Ret Tryz.prog 61 [ptr X.k, icv c] w (fun v w' => v = S (getS T c) ∧ w' = w) := by
  obtain ⟨b, P, M, W, O, SL, h⟩ := h
  have hK := h.hK
  refine ret_of Tryz.func61 rfl Tryz.ntmps61 rfl ?_
  refine c_seq (fun K1 hK1 => ?_)
  refine c_reg ?_ -- region 0 book.go:91
  refine wl (ro_assign rfl) ?_
  refine wl_nil (x_then (hK1 _ _ ?_))
  clear hK1 K1
  refine forget [(0, _), (1, _)] ⟨rfl, rfl, trivial⟩ (fun e => ?_)
  refine c_seq (fun K2 hK2 => ?_)
  refine c_reg ?_ -- region 1 book.go:91
  refine wl (ro_move rfl) ?_
  refine wl (ro_nilCheck rfl) ?_
  refine wl (ro_fieldAddr (k := 0) rfl fo_60_0) ?_
  refine wl (ro_loadB rfl sc_46 (by assumption) rfl) ?_
  refine wl (ro_move rfl) ?_
  refine wl_call rfl en_32 (Raw32 h.dv) ?_
  rintro _ _ ⟨rfl, rfl⟩
  refine wl (ro_assign rfl) ?_
  refine wl_nil (x_then (hK2 _ _ ?_))
  clear hK2 K2
  refine c_ret ?_
  refine bp_ret Tryz.results61 rfl ?_
  exact ⟨rfl, rfl⟩
theorem Undos38 {w : World} {X : BB} {T : List Tx} {past next : List (List Tx)} (h : BaV w X T past next) : Ret Tryz.prog 38 [ptr X.k] w (fun v w' => v = i64c past.length ∧ w' = w) := by
  obtain ⟨b, P, M, W, O, SL, h⟩ := h
  have hK := h.hK
  refine ret_of Tryz.func38 rfl Tryz.ntmps38 rfl ?_
  refine c_seq (fun K1 hK1 => ?_)
  refine c_reg ?_ -- region 0 book.go:97
  refine wl (ro_assign rfl) ?_
  refine wl_nil (x_then (hK1 _ _ ?_))
  clear hK1 K1
  refine forget [(0, _)] ⟨rfl, trivial⟩ (fun e => ?_)
  refine c_seq (fun K2 hK2 => ?_)
  refine c_reg ?_ -- region 1 book.go:97
  refine wl (ro_move rfl) ?_
  refine wl (ro_nilCheck rfl) ?_
  refine wl (ro_fieldAddr (k := 4) rfl fo_60_4) ?_
  refine wl (ro_loadB rfl sc_3 (by assumption) rfl) ?_
  refine wl (ro_assign rfl) ?_
  refine wl_nil (x_then (hK2 _ _ ?_))
  clear hK2 K2
  refine c_ret ?_
  refine bp_ret Tryz.results38 rfl ?_
  exact ⟨rfl, rfl⟩
theorem Redos40 {w : World} {X : BB} {T : List Tx} {past next : List (List Tx)} (h : BaV w X T past next) : Ret Tryz.prog 40 [ptr X.k] w (fun v w' => v = i64c next.length ∧ w' = w) := by
  obtain ⟨b, P, M, W, O, SL, h⟩ := h
  have hK := h.hK
  refine ret_of Tryz.func40 rfl Tryz.ntmps40 rfl ?_
  refine c_seq (fun K1 hK1 => ?_)
  refine c_reg ?_ -- region 0 book.go:100
  refine wl (ro_assign rfl) ?_
  refine wl_nil (x_then (hK1 _ _ ?_))
  clear hK1 K1
  refine forget [(0, _)] ⟨rfl, trivial⟩ (fun e => ?_)
  refine c_seq (fun K2 hK2 => ?_)
  refine c_reg ?_ -- region 1 book.go:100
  refine wl (ro_move rfl) ?_
  refine wl (ro_nilCheck rfl) ?_
  refine wl (ro_fieldAddr (k := 5) rfl fo_60_5) ?_
  refine wl (ro_loadB rfl sc_3 (by assumption) rfl) ?_
  refine wl (ro_assign rfl) ?_
  refine wl_nil (x_then (hK2 _ _ ?_))
  clear hK2 K2
  refine c_ret ?_
  refine bp_ret Tryz.results40 rfl ?_
  exact ⟨rfl, rfl⟩
theorem Value63 {w : World} {lo hi : Nat} {X : BB} {T : List Tx} {past next : List (List Tx)} {c : Int} (hb : BaB lo hi X) (h : BaV w X T past next) : Ret Tryz.prog 63 [ptr X.k, icv c] w (fun v w' => (∃ SL L, SL.length = 24 ∧ ShOK (tF T) L (envF SL) ∧ v = vlA (getV SL c)) ∧ Fram none' w w') := by
  have hF : Fram none' w w := Fram.refl _ _
  obtain ⟨b, P, M, W, O, SL, h⟩ := h
  have hK := h.hK
  have hdv := h.dv
  obtain ⟨L, hL⟩ := h.dv.cv.sh
  refine ret_of Tryz.func63 rfl Tryz.ntmps63 rfl ?_
  refine c_seq (fun K1 hK1 => ?_)
  refine c_reg ?_ -- region 0 book.go:94
  refine wl_new (ze_104) (fun b4 w1 hbb4 h4 F1 => ?_)
  have hbsb4 := Nat.le_trans hF.size hbb4
  have hneX.kb4 : X.k < b4 := Nat.lt_of_lt_of_le hK.lt hbb4
  replace hF := hF.thenDrew.thenN F1
  replace hK := F1.blkN hK
  replace hdv := DaV.far hb.db hdv F1 (fun _ _ _ q ↦ q)
  refine wl_nil (x_then (hK1 _ _ ?_))
  clear hK1 K1
  refine forget [(0, _), (1, _), (4, _)] ⟨rfl, rfl, rfl, trivial⟩ (fun e => ?_)
  refine c_seq (fun K2 hK2 => ?_)
  refine c_reg ?_ -- region 1 book.go:94
  refine wl (ro_move rfl) ?_
  refine wl (ro_nilCheck rfl) ?_
  refine wl (ro_fieldAddr (k := 0) rfl fo_60_0) ?_
  refine wl (ro_loadB rfl sc_46 (by assumption) rfl) ?_
  refine wl (ro_move rfl) ?_
  refine wl_call rfl en_94 (Value94 hb.db hdv) ?_
  rintro _ u1 ⟨rfl, G1⟩
  replace hF := hF.transG G1 (by intro k hk h; simp only [none'] at h ⊢ <;> omega)
  replace hK := G1.blkF hK (by intro h; simp only [none'] at h <;> omega)
  replace h4 := G1.blkF h4 (by intro h; simp only [none'] at h <;> omega)
  refine wl_puta rfl rfl ((by (try exact vlc_cells _); all_goals simp [Value.oneCell', i64c, icv, u64c, u8c, ptr, S])) sz_104 (rfl) h4 ((by simp)) (rfl) (fun w2 h4 F2 => ?_)
  replace hF := hF.thenDrew.thenO F2 (by first | exact .inr (by omega) | exact .inl rfl | exact .inl (by assumption))
  replace hK := F2.blkO hK (by omega)
  refine wl_nil (x_then (hK2 _ _ ?_))
  clear hK2 K2
  refine c_ret ?_
  refine bq_ret (res1 Tryz.results63 (rv_c rfl ag_104 (h4) (rfl))) ?_
  exact ⟨⟨SL, L, h.dv.cv.sl, hL, rfl⟩, hF⟩
set_option maxHeartbeats 8000000 in
theorem Set10 {w : World} {lo hi : Nat} {X : BB} {T : List Tx} {past next : List (List Tx)} {c : Int} {raw : Tx} (hb : BaB lo hi X) (hhi : hi ≤ w.heap.size) (h : BaV w X T past next) :
    Ret Tryz.prog 10 [ptr X.k, icv c, S raw] w (fun v w' => v = icv (setE c raw) ∧ BaV w' X (setS T c raw) (cmdP (setE c raw) past T) (cmdN (setE c raw) next) ∧ Fram (rng lo hi) w w') := by
  have hF : Fram (rng lo hi) w w := Fram.refl _ _
  obtain ⟨b, P, M, W, O, SL, h⟩ := h
  have hT := h.ok
  obtain ⟨hK, hP, hM, hW, hO, hwl, hR, hn6, hd, hpo, hno⟩ := id h
  have hbb := hb
  obtain ⟨hdb, b1, b2, b3, b4, b5, b6⟩ := hb
  have hlo := hdb.lom
  have hlo1 := hdb.mb
  have hlo2 := hdb.be
  have hlo3 := hdb.eh
  have herr : setE c raw ≠ 0 → setS T c raw = T := fun q => by
    unfold setE at q
    unfold setS
    rw [if_neg]
    intro z
    rw [if_neg (by omega), if_neg (by omega)] at q
    exact q rfl
  refine ret_of Tryz.func10 rfl Tryz.ntmps10 rfl ?_
  refine c_seq (fun K1 hK1 => ?_)
  refine c_reg ?_ -- region 0 book.go:34
  refine wl (ro_assign rfl) ?_
  refine wl_nil (x_then (hK1 _ _ ?_))
  clear hK1 K1
  refine c_seq (fun K2 hK2 => ?_)
  refine c_seq (fun K3 hK3 => ?_)
  refine c_reg ?_ -- region 1 book.go:35
  refine wl (ro_move rfl) ?_
  refine wl (ro_lenS rfl st_9) ?_
  refine wl (ro_cmp (r := decide (40 < raw.length)) rfl rfl (congrArg some (decide_eq_decide.2 (by show ((raw.length : Nat) : Int) > 40 ↔ _; omega)))) ?_
  refine wl_nil (x_then (hK3 _ _ ?_))
  clear hK3 K3
  refine wc_cond rfl (fun hc10 => ?_) (fun hc10 => ?_)
  · try simp only [decide_eq_true_eq, decide_eq_false_iff_not, Bool.not_eq_true', Bool.not_eq_false', Bool.not_eq_eq_eq_not, Bool.not_true, Bool.not_false, beq_iff_eq, bne_iff_ne, ne_eq, beq_eq_false_iff_ne, bne_eq_false_iff_eq, gt_iff_lt, ge_iff_le, Int.not_lt, Int.not_le] at hc10
    refine c_seq (fun K4 hK4 => ?_)
    refine c_reg ?_ -- region 2 book.go:36
    refine wl (ro_assign rfl) ?_
    refine wl_nil (x_then (hK4 _ _ ?_))
    clear hK4 K4
    refine c_ret (x_thenR ?_)
    refine bp_ret Tryz.results10 rfl ?_
    have e1 : setE c raw = 1 := by unfold setE; rw [if_pos hc10]
    rw [herr (by omega), e1]
    exact ⟨rfl, ⟨b, P, M, W, O, SL, h⟩, hF⟩
  · try simp only [decide_eq_true_eq, decide_eq_false_iff_not, Bool.not_eq_true', Bool.not_eq_false', Bool.not_eq_eq_eq_not, Bool.not_true, Bool.not_false, beq_iff_eq, bne_iff_ne, ne_eq, beq_eq_false_iff_ne, bne_eq_false_iff_eq, gt_iff_lt, ge_iff_le, Int.not_lt, Int.not_le] at hc10
    refine c_skip (x_then (hK2 _ _ ?_))
    clear hK2 K2
    refine forget [(0, _), (1, _), (2, _)] ⟨rfl, rfl, rfl, trivial⟩ (fun e => ?_)
    refine c_seq (fun K5 hK5 => ?_)
    refine c_reg ?_ -- region 3 book.go:38
    refine wl (ro_move rfl) ?_
    refine wl_call rfl en_42 (ahead42 hbb hK hW hwl hd) ?_
    rintro _ u1 ⟨hW1, G1⟩
    replace hF := hF.transG G1 (by intro k hk h; simp only [rng, one] at h ⊢ <;> omega)
    replace hK := G1.blkF hK (by intro h; simp only [rng, one] at h <;> omega)
    replace hP := G1.blkF hP (by intro h; simp only [rng, one] at h <;> omega)
    replace hM := G1.blkF hM (by intro h; simp only [rng, one] at h <;> omega)
    replace hO := G1.blkF hO (by intro h; simp only [rng, one] at h <;> omega)
    replace hd := hd.far hdb G1 (fun b q1 q2 q => absurd (show b = X.s from q) (by omega))
    clear hW
    have hW := hW1
    refine wl_nil (x_then (hK5 _ _ ?_))
    clear hK5 K5
    refine forget [(0, _), (1, _), (2, _)] ⟨rfl, rfl, rfl, trivial⟩ (fun e => ?_)
    refine c_seq (fun K6 hK6 => ?_)
    refine c_reg ?_ -- region 4 book.go:39
    refine wl (ro_move rfl) ?_
    refine wl (ro_nilCheck rfl) ?_
    refine wl (ro_fieldAddr (k := 0) rfl fo_60_0) ?_
    refine wl (ro_loadB rfl sc_46 (by assumption) rfl) ?_
    refine wl (ro_move rfl) ?_
    refine wl (ro_move rfl) ?_
    refine wl_call rfl en_33 (Set33 hdb (by have := hF.size; omega) hd) ?_
    rintro _ u2 ⟨rfl, ⟨SL2, h2⟩, G2⟩
    replace hF := hF.transG G2 (by intro k hk h; simp only [rng, one] at h ⊢ <;> omega)
    replace hK := G2.blkF hK (by intro h; simp only [rng, one] at h <;> omega)
    replace hP := G2.blkF hP (by intro h; simp only [rng, one] at h <;> omega)
    replace hM := G2.blkF hM (by intro h; simp only [rng, one] at h <;> omega)
    replace hW := G2.blkF hW (by intro h; simp only [rng, one] at h <;> omega)
    replace hO := G2.blkF hO (by intro h; simp only [rng, one] at h <;> omega)
    refine wl (ro_assign rfl) ?_
    refine wl_nil (x_then (hK6 _ _ ?_))
    clear hK6 K6
    refine c_seq (fun K7 hK7 => ?_)
    refine c_seq (fun K8 hK8 => ?_)
    refine c_reg ?_ -- region 5 book.go:40
    refine wl (ro_move rfl) ?_
    refine wl (ro_cmp (r := decide (setE c raw = 0)) rfl rfl rfl) ?_
    refine wl_nil (x_then (hK8 _ _ ?_))
    clear hK8 K8
    refine wc_cond rfl (fun hc21 => ?_) (fun hc21 => ?_)
    · try simp only [decide_eq_true_eq, decide_eq_false_iff_not, Bool.not_eq_true', Bool.not_eq_false', Bool.not_eq_eq_eq_not, Bool.not_true, Bool.not_false, beq_iff_eq, bne_iff_ne, ne_eq, beq_eq_false_iff_ne, bne_eq_false_iff_eq, gt_iff_lt, ge_iff_le, Int.not_lt, Int.not_le] at hc21
      refine c_reg ?_ -- region 6 book.go:41
      refine wl (ro_move rfl) ?_
      refine wl_call rfl en_43 (note43 hbb hT.tl hK hP hM hW hR hn6 h2) ?_
      rintro _ u3 ⟨⟨bb, P3, M3, hR3⟩, G3⟩
      have hW3 := G3.blkF hW (fun q => by rcases q with q | q | q <;> omega)
      have hO3 := G3.blkF hO (fun q => by rcases q with q | q | q <;> omega)
      have hd3 := h2.far hdb G3 (fun b q1 q2 q => by rcases q with q | q | q <;> omega)
      refine wl_nil (x_then (hK7 _ _ ?_))
      clear hK7 K7
      refine forget [(7, _)] ⟨rfl, trivial⟩ (fun e => ?_)
      refine c_seq (fun K9 hK9 => ?_)
      refine c_reg ?_ -- region 7 book.go:43
      refine wl (ro_move rfl) ?_
      refine wl (ro_assign rfl) ?_
      refine wl_nil (x_then (hK9 _ _ ?_))
      clear hK9 K9
      refine c_ret ?_
      refine bp_ret Tryz.results10 rfl ?_
      unfold cmdP cmdN
      rw [if_pos hc21, if_pos hc21]
      exact ⟨rfl, BaV.noted hR3 hW3 hO3 hT.tl hd3 hpo hT hn6, hF.trans (G3.mono (fun k _ hk => by rcases hk with rfl | rfl | rfl <;> exact ⟨by omega, by omega⟩))⟩
    · try simp only [decide_eq_true_eq, decide_eq_false_iff_not, Bool.not_eq_true', Bool.not_eq_false', Bool.not_eq_eq_eq_not, Bool.not_true, Bool.not_false, beq_iff_eq, bne_iff_ne, ne_eq, beq_eq_false_iff_ne, bne_eq_false_iff_eq, gt_iff_lt, ge_iff_le, Int.not_lt, Int.not_le] at hc21
      refine c_skip (x_then (hK7 _ _ ?_))
      clear hK7 K7
      refine forget [(7, _)] ⟨rfl, trivial⟩ (fun e => ?_)
      refine c_seq (fun K10 hK10 => ?_)
      refine c_reg ?_ -- region 7 book.go:43
      refine wl (ro_move rfl) ?_
      refine wl (ro_assign rfl) ?_
      refine wl_nil (x_then (hK10 _ _ ?_))
      clear hK10 K10
      refine c_ret ?_
      refine bp_ret Tryz.results10 rfl ?_
      unfold cmdP cmdN
      rw [if_neg hc21, if_neg hc21]
      rw [herr hc21] at h2 ⊢
      exact ⟨rfl, ⟨b, P, M, T, O, SL2, hK, hP, hM, hW, hO, hT.tl, hR, hn6, h2, hpo, hno⟩, hF⟩

end Go.Proofs.Qxb6500570aGreat
