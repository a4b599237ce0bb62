import Derived.Test.Qxb6500570aGreatMd
/- The real book: Edit, Copy, Undo, Redo. -/
namespace Go.Proofs.Qxb6500570aGreat
set_option linter.unusedVariables false
set_option linter.unusedSimpArgs false

def edE (kind a : Int) : Int := if edOK kind a = true then 0 else 9
def edS (T : List Tx) (kind a : Int) : List Tx := if edOK kind a = true then editT T kind a else T
def cpE (T : List Tx) (s d : Int) : Int := if s < 0 ∨ 24 ≤ s ∨ d < 0 ∨ 24 ≤ d then 9 else if 40 < (cpyT T s.toNat d.toNat).length then 1 else 0
def cpS (T : List Tx) (s d : Int) : List Tx := if s < 0 ∨ 24 ≤ s ∨ d < 0 ∨ 24 ≤ d then T else stT T d.toNat (cpyT T s.toNat d.toNat)
theorem ed_err {T : List Tx} {kind a : Int} (h : edE kind a ≠ 0) : edS T kind a = T := by
  unfold edE at h
  unfold edS
  rw [if_neg]
  intro z
  rw [if_pos z] at h
  exact h rfl
theorem cp_err {T : List Tx} {s d : Int} (h : cpE T s d ≠ 0) : cpS T s d = T := by
  unfold cpE at h
  unfold cpS
  split
  · rfl
  · rename_i q
    rw [if_neg q] at h
    unfold stT
    rw [if_neg]
    intro z
    rw [if_neg (by omega)] at h
    exact h rfl
theorem Edit47G {w : World} {D : DB} {lo hi : Nat} {kind a : Int} {T : List Tx} {SL : List Vl} (hb : DaB lo hi D) (hhi : hi ≤ w.heap.size) (h : DaV w D zL T SL) :
    Ret Tryz.prog 47 [ptr D.e, icv kind, icv a] w (fun v w' => v = icv (edE kind a) ∧ (∃ SL', DaV w' D zL (edS T kind a) SL') ∧ Fram (rng lo hi) w w') := by
  unfold edE edS
  cases hok : edOK kind a with
  | true => exact (Edit47 hb hhi h hok)
  | false => exact (Edit47N hok).mono (fun v w' q => ⟨q.1, by rw [q.2]; exact ⟨SL, h⟩, by rw [q.2]; exact Fram.refl _ _⟩)
theorem Copy49G {w : World} {D : DB} {lo hi : Nat} {s d : Int} {T : List Tx} {SL : List Vl} (hb : DaB lo hi D) (hhi : hi ≤ w.heap.size) (h : DaV w D zL T SL) :
    Ret Tryz.prog 49 [ptr D.e, icv s, icv d] w (fun v w' => v = icv (cpE T s d) ∧ (∃ SL', DaV w' D zL (cpS T s d) SL') ∧ Fram (rng lo hi) w w') := by
  unfold cpE cpS
  by_cases hc : s < 0 ∨ 24 ≤ s ∨ d < 0 ∨ 24 ≤ d
  · rw [if_pos hc, if_pos hc]
    exact (Copy49N hc).mono (fun v w' q => ⟨q.1, by rw [q.2]; exact ⟨SL, h⟩, by rw [q.2]; exact Fram.refl _ _⟩)
  · rw [if_neg hc, if_neg hc]
    obtain ⟨s, rfl⟩ : ∃ d : Nat, s = (d : Int) := ⟨s.toNat, by omega⟩
    obtain ⟨d, rfl⟩ : ∃ e : Nat, d = (e : Int) := ⟨d.toNat, by omega⟩
    rw [Int.toNat_natCast, Int.toNat_natCast]
    exact Copy49 hb hhi h (by omega) (by omega)
set_option maxHeartbeats 8000000 in
theorem Edit12 {w : World} {lo hi : Nat} {X : BB} {T : List Tx} {past next : List (List Tx)} {kind a : Int} (hb : BaB lo hi X) (hhi : hi ≤ w.heap.size) (h : BaV w X T past next) :
    Ret Tryz.prog 12 [ptr X.k, icv kind, icv a] w (fun v w' => v = icv (edE kind a) ∧ BaV w' X (edS T kind a) (cmdP (edE kind a) past T) (cmdN (edE kind a) next) ∧ Fram (rng lo hi) w w') := by
  have hF : Fram (rng lo hi) w w := Fram.refl _ _
  obtain ⟨b, P, M, W, O, SL, h⟩ := h
  have hT := h.ok
  obtain ⟨hK, hP, hM, hW, hO, hwl, hR, hn6, hd, hpo, hno⟩ := id h
  have hbb := hb
  obtain ⟨hdb, b1, b2, b3, b4, b5, b6⟩ := hb
  have hlo := hdb.lom
  have hlo1 := hdb.mb
  have hlo2 := hdb.be
  have hlo3 := hdb.eh
  refine ret_of Tryz.func12 rfl Tryz.ntmps12 rfl ?_
  refine c_seq (fun K1 hK1 => ?_)
  refine c_reg ?_ -- region 0 book.go:47
  refine wl (ro_assign rfl) ?_
  refine wl_nil (x_then (hK1 _ _ ?_))
  clear hK1 K1
  refine forget [(0, _), (1, _), (2, _)] ⟨rfl, rfl, rfl, trivial⟩ (fun e => ?_)
  refine c_seq (fun K2 hK2 => ?_)
  refine c_reg ?_ -- region 1 book.go:48
  refine wl (ro_move rfl) ?_
  refine wl_call rfl en_42 (ahead42 hbb hK hW hwl hd) ?_
  rintro _ u1 ⟨hW1, G1⟩
  replace hF := hF.transG G1 (by intro k hk h; simp only [rng, one] at h ⊢ <;> omega)
  replace hK := G1.blkF hK (by intro h; simp only [rng, one] at h <;> omega)
  replace hP := G1.blkF hP (by intro h; simp only [rng, one] at h <;> omega)
  replace hM := G1.blkF hM (by intro h; simp only [rng, one] at h <;> omega)
  replace hO := G1.blkF hO (by intro h; simp only [rng, one] at h <;> omega)
  replace hd := hd.far hdb G1 (fun b q1 q2 q => absurd (show b = X.s from q) (by omega))
  clear hW
  have hW := hW1
  refine wl_nil (x_then (hK2 _ _ ?_))
  clear hK2 K2
  refine forget [(0, _), (1, _), (2, _)] ⟨rfl, rfl, rfl, trivial⟩ (fun e => ?_)
  refine c_seq (fun K3 hK3 => ?_)
  refine c_reg ?_ -- region 2 book.go:49
  refine wl (ro_move rfl) ?_
  refine wl (ro_nilCheck rfl) ?_
  refine wl (ro_fieldAddr (k := 0) rfl fo_60_0) ?_
  refine wl (ro_loadB rfl sc_46 (by assumption) rfl) ?_
  refine wl (ro_move rfl) ?_
  refine wl (ro_move rfl) ?_
  refine wl_call rfl en_47 (Edit47G hdb (by have := hF.size; omega) hd) ?_
  rintro _ u2 ⟨rfl, ⟨SL2, h2⟩, G2⟩
  replace hF := hF.transG G2 (by intro k hk h; simp only [rng, one] at h ⊢ <;> omega)
  replace hK := G2.blkF hK (by intro h; simp only [rng, one] at h <;> omega)
  replace hP := G2.blkF hP (by intro h; simp only [rng, one] at h <;> omega)
  replace hM := G2.blkF hM (by intro h; simp only [rng, one] at h <;> omega)
  replace hW := G2.blkF hW (by intro h; simp only [rng, one] at h <;> omega)
  replace hO := G2.blkF hO (by intro h; simp only [rng, one] at h <;> omega)
  refine wl (ro_assign rfl) ?_
  refine wl_nil (x_then (hK3 _ _ ?_))
  clear hK3 K3
  refine c_seq (fun K4 hK4 => ?_)
  refine c_seq (fun K5 hK5 => ?_)
  refine c_reg ?_ -- region 3 book.go:50
  refine wl (ro_move rfl) ?_
  refine wl (ro_cmp (r := decide (edE kind a = 0)) rfl rfl rfl) ?_
  refine wl_nil (x_then (hK5 _ _ ?_))
  clear hK5 K5
  refine wc_cond rfl (fun hc18 => ?_) (fun hc18 => ?_)
  · try simp only [decide_eq_true_eq, decide_eq_false_iff_not, Bool.not_eq_true', Bool.not_eq_false', Bool.not_eq_eq_eq_not, Bool.not_true, Bool.not_false, beq_iff_eq, bne_iff_ne, ne_eq, beq_eq_false_iff_ne, bne_eq_false_iff_eq, gt_iff_lt, ge_iff_le, Int.not_lt, Int.not_le] at hc18
    refine c_reg ?_ -- region 4 book.go:51
    refine wl (ro_move rfl) ?_
    refine wl_call rfl en_43 (note43 hbb hT.tl hK hP hM hW hR hn6 h2) ?_
    rintro _ u3 ⟨⟨bb, P3, M3, hR3⟩, G3⟩
    have hW3 := G3.blkF hW (fun q => by rcases q with q | q | q <;> omega)
    have hO3 := G3.blkF hO (fun q => by rcases q with q | q | q <;> omega)
    have hd3 := h2.far hdb G3 (fun b q1 q2 q => by rcases q with q | q | q <;> omega)
    refine wl_nil (x_then (hK4 _ _ ?_))
    clear hK4 K4
    refine forget [(7, _)] ⟨rfl, trivial⟩ (fun e => ?_)
    refine c_seq (fun K6 hK6 => ?_)
    refine c_reg ?_ -- region 5 book.go:53
    refine wl (ro_move rfl) ?_
    refine wl (ro_assign rfl) ?_
    refine wl_nil (x_then (hK6 _ _ ?_))
    clear hK6 K6
    refine c_ret ?_
    refine bp_ret Tryz.results12 rfl ?_
    unfold cmdP cmdN
    rw [if_pos hc18, if_pos hc18]
    exact ⟨rfl, BaV.noted hR3 hW3 hO3 hT.tl hd3 hpo hT hn6, hF.trans (G3.mono (fun k _ hk => by rcases hk with rfl | rfl | rfl <;> exact ⟨by omega, by omega⟩))⟩
  · try simp only [decide_eq_true_eq, decide_eq_false_iff_not, Bool.not_eq_true', Bool.not_eq_false', Bool.not_eq_eq_eq_not, Bool.not_true, Bool.not_false, beq_iff_eq, bne_iff_ne, ne_eq, beq_eq_false_iff_ne, bne_eq_false_iff_eq, gt_iff_lt, ge_iff_le, Int.not_lt, Int.not_le] at hc18
    refine c_skip (x_then (hK4 _ _ ?_))
    clear hK4 K4
    refine forget [(7, _)] ⟨rfl, trivial⟩ (fun e => ?_)
    refine c_seq (fun K7 hK7 => ?_)
    refine c_reg ?_ -- region 5 book.go:53
    refine wl (ro_move rfl) ?_
    refine wl (ro_assign rfl) ?_
    refine wl_nil (x_then (hK7 _ _ ?_))
    clear hK7 K7
    refine c_ret ?_
    refine bp_ret Tryz.results12 rfl ?_
    unfold cmdP cmdN
    rw [if_neg hc18, if_neg hc18]
    rw [ed_err hc18] at h2 ⊢
    exact ⟨rfl, ⟨b, P, M, T, O, SL2, hK, hP, hM, hW, hO, hT.tl, hR, hn6, h2, hpo, hno⟩, hF⟩
set_option maxHeartbeats 8000000 in
theorem Copy14 {w : World} {lo hi : Nat} {X : BB} {T : List Tx} {past next : List (List Tx)} {s d : Int} (hb : BaB lo hi X) (hhi : hi ≤ w.heap.size) (h : BaV w X T past next) :
    Ret Tryz.prog 14 [ptr X.k, icv s, icv d] w (fun v w' => v = icv (cpE T s d) ∧ BaV w' X (cpS T s d) (cmdP (cpE T s d) past T) (cmdN (cpE T s d) next) ∧ Fram (rng lo hi) w w') := by
  have hF : Fram (rng lo hi) w w := Fram.refl _ _
  obtain ⟨b, P, M, W, O, SL, h⟩ := h
  have hT := h.ok
  obtain ⟨hK, hP, hM, hW, hO, hwl, hR, hn6, hd, hpo, hno⟩ := id h
  have hbb := hb
  obtain ⟨hdb, b1, b2, b3, b4, b5, b6⟩ := hb
  have hlo := hdb.lom
  have hlo1 := hdb.mb
  have hlo2 := hdb.be
  have hlo3 := hdb.eh
  refine ret_of Tryz.func14 rfl Tryz.ntmps14 rfl ?_
  refine c_seq (fun K1 hK1 => ?_)
  refine c_reg ?_ -- region 0 book.go:57
  refine wl (ro_assign rfl) ?_
  refine wl_nil (x_then (hK1 _ _ ?_))
  clear hK1 K1
  refine forget [(0, _), (1, _), (2, _)] ⟨rfl, rfl, rfl, trivial⟩ (fun e => ?_)
  refine c_seq (fun K2 hK2 => ?_)
  refine c_reg ?_ -- region 1 book.go:58
  refine wl (ro_move rfl) ?_
  refine wl_call rfl en_42 (ahead42 hbb hK hW hwl hd) ?_
  rintro _ u1 ⟨hW1, G1⟩
  replace hF := hF.transG G1 (by intro k hk h; simp only [rng, one] at h ⊢ <;> omega)
  replace hK := G1.blkF hK (by intro h; simp only [rng, one] at h <;> omega)
  replace hP := G1.blkF hP (by intro h; simp only [rng, one] at h <;> omega)
  replace hM := G1.blkF hM (by intro h; simp only [rng, one] at h <;> omega)
  replace hO := G1.blkF hO (by intro h; simp only [rng, one] at h <;> omega)
  replace hd := hd.far hdb G1 (fun b q1 q2 q => absurd (show b = X.s from q) (by omega))
  clear hW
  have hW := hW1
  refine wl_nil (x_then (hK2 _ _ ?_))
  clear hK2 K2
  refine forget [(0, _), (1, _), (2, _)] ⟨rfl, rfl, rfl, trivial⟩ (fun e => ?_)
  refine c_seq (fun K3 hK3 => ?_)
  refine c_reg ?_ -- region 2 book.go:59
  refine wl (ro_move rfl) ?_
  refine wl (ro_nilCheck rfl) ?_
  refine wl (ro_fieldAddr (k := 0) rfl fo_60_0) ?_
  refine wl (ro_loadB rfl sc_46 (by assumption) rfl) ?_
  refine wl (ro_move rfl) ?_
  refine wl (ro_move rfl) ?_
  refine wl_call rfl en_49 (Copy49G hdb (by have := hF.size; omega) hd) ?_
  rintro _ u2 ⟨rfl, ⟨SL2, h2⟩, G2⟩
  replace hF := hF.transG G2 (by intro k hk h; simp only [rng, one] at h ⊢ <;> omega)
  replace hK := G2.blkF hK (by intro h; simp only [rng, one] at h <;> omega)
  replace hP := G2.blkF hP (by intro h; simp only [rng, one] at h <;> omega)
  replace hM := G2.blkF hM (by intro h; simp only [rng, one] at h <;> omega)
  replace hW := G2.blkF hW (by intro h; simp only [rng, one] at h <;> omega)
  replace hO := G2.blkF hO (by intro h; simp only [rng, one] at h <;> omega)
  refine wl (ro_assign rfl) ?_
  refine wl_nil (x_then (hK3 _ _ ?_))
  clear hK3 K3
  refine c_seq (fun K4 hK4 => ?_)
  refine c_seq (fun K5 hK5 => ?_)
  refine c_reg ?_ -- region 3 book.go:60
  refine wl (ro_move rfl) ?_
  refine wl (ro_cmp (r := decide (cpE T s d = 0)) rfl rfl rfl) ?_
  refine wl_nil (x_then (hK5 _ _ ?_))
  clear hK5 K5
  refine wc_cond rfl (fun hc18 => ?_) (fun hc18 => ?_)
  · try simp only [decide_eq_true_eq, decide_eq_false_iff_not, Bool.not_eq_true', Bool.not_eq_false', Bool.not_eq_eq_eq_not, Bool.not_true, Bool.not_false, beq_iff_eq, bne_iff_ne, ne_eq, beq_eq_false_iff_ne, bne_eq_false_iff_eq, gt_iff_lt, ge_iff_le, Int.not_lt, Int.not_le] at hc18
    refine c_reg ?_ -- region 4 book.go:61
    refine wl (ro_move rfl) ?_
    refine wl_call rfl en_43 (note43 hbb hT.tl hK hP hM hW hR hn6 h2) ?_
    rintro _ u3 ⟨⟨bb, P3, M3, hR3⟩, G3⟩
    have hW3 := G3.blkF hW (fun q => by rcases q with q | q | q <;> omega)
    have hO3 := G3.blkF hO (fun q => by rcases q with q | q | q <;> omega)
    have hd3 := h2.far hdb G3 (fun b q1 q2 q => by rcases q with q | q | q <;> omega)
    refine wl_nil (x_then (hK4 _ _ ?_))
    clear hK4 K4
    refine forget [(7, _)] ⟨rfl, trivial⟩ (fun e => ?_)
    refine c_seq (fun K6 hK6 => ?_)
    refine c_reg ?_ -- region 5 book.go:63
    refine wl (ro_move rfl) ?_
    refine wl (ro_assign rfl) ?_
    refine wl_nil (x_then (hK6 _ _ ?_))
    clear hK6 K6
    refine c_ret ?_
    refine bp_ret Tryz.results14 rfl ?_
    unfold cmdP cmdN
    rw [if_pos hc18, if_pos hc18]
    exact ⟨rfl, BaV.noted hR3 hW3 hO3 hT.tl hd3 hpo hT hn6, hF.trans (G3.mono (fun k _ hk => by rcases hk with rfl | rfl | rfl <;> exact ⟨by omega, by omega⟩))⟩
  · try simp only [decide_eq_true_eq, decide_eq_false_iff_not, Bool.not_eq_true', Bool.not_eq_false', Bool.not_eq_eq_eq_not, Bool.not_true, Bool.not_false, beq_iff_eq, bne_iff_ne, ne_eq, beq_eq_false_iff_ne, bne_eq_false_iff_eq, gt_iff_lt, ge_iff_le, Int.not_lt, Int.not_le] at hc18
    refine c_skip (x_then (hK4 _ _ ?_))
    clear hK4 K4
    refine forget [(7, _)] ⟨rfl, trivial⟩ (fun e => ?_)
    refine c_seq (fun K7 hK7 => ?_)
    refine c_reg ?_ -- region 5 book.go:63
    refine wl (ro_move rfl) ?_
    refine wl (ro_assign rfl) ?_
    refine wl_nil (x_then (hK7 _ _ ?_))
    clear hK7 K7
    refine c_ret ?_
    refine bp_ret Tryz.results14 rfl ?_
    unfold cmdP cmdN
    rw [if_neg hc18, if_neg hc18]
    rw [cp_err hc18] at h2 ⊢
    exact ⟨rfl, ⟨b, P, M, T, O, SL2, hK, hP, hM, hW, hO, hT.tl, hR, hn6, h2, hpo, hno⟩, hF⟩

theorem Undo16N {w : World} {X : BB} {T : List Tx} {next : List (List Tx)} (h : BaV w X T [] next) : Ret Tryz.prog 16 [ptr X.k] w (fun v w' => v = icv 11 ∧ w' = w) := by
  obtain ⟨b, P, M, W, O, SL, h⟩ := h
  have hK := h.hK
  refine ret_of Tryz.func16 rfl Tryz.ntmps16 rfl ?_
  refine c_seq (fun K1 hK1 => ?_)
  refine c_reg ?_ -- region 0 book.go:67
  refine wl (ro_assign rfl) ?_
  refine wl_nil (x_then (hK1 _ _ ?_))
  clear hK1 K1
  refine c_seq (fun K2 hK2 => ?_)
  refine c_seq (fun K3 hK3 => ?_)
  refine c_reg ?_ -- region 1 book.go:68
  refine wl (ro_move rfl) ?_
  refine wl (ro_nilCheck rfl) ?_
  refine wl (ro_fieldAddr (k := 4) rfl fo_60_4) ?_
  refine wl (ro_loadB rfl sc_3 (by assumption) rfl) ?_
  refine wl (ro_cmp (r := true) rfl rfl rfl) ?_
  refine wl_nil (x_then (hK3 _ _ ?_))
  clear hK3 K3
  refine wc_condT rfl ?_
  refine c_seq (fun K4 hK4 => ?_)
  refine c_reg ?_ -- region 2 book.go:69
  refine wl (ro_assign rfl) ?_
  refine wl_nil (x_then (hK4 _ _ ?_))
  clear hK4 K4
  refine c_ret (x_thenR ?_)
  refine bp_ret Tryz.results16 rfl ?_
  exact ⟨rfl, rfl⟩
theorem Redo18N {w : World} {X : BB} {T : List Tx} {past : List (List Tx)} (h : BaV w X T past []) : Ret Tryz.prog 18 [ptr X.k] w (fun v w' => v = icv 11 ∧ w' = w) := by
  obtain ⟨b, P, M, W, O, SL, h⟩ := h
  have hK := h.hK
  refine ret_of Tryz.func18 rfl Tryz.ntmps18 rfl ?_
  refine c_seq (fun K1 hK1 => ?_)
  refine c_reg ?_ -- region 0 book.go:79
  refine wl (ro_assign rfl) ?_
  refine wl_nil (x_then (hK1 _ _ ?_))
  clear hK1 K1
  refine c_seq (fun K2 hK2 => ?_)
  refine c_seq (fun K3 hK3 => ?_)
  refine c_reg ?_ -- region 1 book.go:80
  refine wl (ro_move rfl) ?_
  refine wl (ro_nilCheck rfl) ?_
  refine wl (ro_fieldAddr (k := 5) rfl fo_60_5) ?_
  refine wl (ro_loadB rfl sc_3 (by assumption) rfl) ?_
  refine wl (ro_cmp (r := true) rfl rfl rfl) ?_
  refine wl_nil (x_then (hK3 _ _ ?_))
  clear hK3 K3
  refine wc_condT rfl ?_
  refine c_seq (fun K4 hK4 => ?_)
  refine c_reg ?_ -- region 2 book.go:81
  refine wl (ro_assign rfl) ?_
  refine wl_nil (x_then (hK4 _ _ ?_))
  clear hK4 K4
  refine c_ret (x_thenR ?_)
  refine bp_ret Tryz.results18 rfl ?_
  exact ⟨rfl, rfl⟩
set_option maxHeartbeats 8000000 in
theorem Undo16 {w : World} {lo hi : Nat} {X : BB} {T A : List Tx} {past next : List (List Tx)} (hb : BaB lo hi X) (hhi : hi ≤ w.heap.size) (h : BaV w X T (past ++ [A]) next) :
    Ret Tryz.prog 16 [ptr X.k] w (fun v w' => v = icv 0 ∧ BaV w' X A past (next ++ [T]) ∧ Fram (rng lo hi) w w') := by
  have hF : Fram (rng lo hi) w w := Fram.refl _ _
  obtain ⟨b, P, M, W, O, SL, h⟩ := h
  have hT := h.ok
  obtain ⟨hK, hP, hM, hW, hO, hwl, hR, hn6, hd, hpo, hno⟩ := h
  have hA : TxOK A := hpo A (by simp)
  have hbb := hb
  obtain ⟨hdb, b1, b2, b3, b4, b5, b6⟩ := hb
  have hlo := hdb.lom
  have hlo1 := hdb.mb
  have hlo2 := hdb.be
  have hlo3 := hdb.eh
  have hm1 : rng lo hi X.k := ⟨by omega, by omega⟩
  have hpl : (past ++ [A]).length = past.length + 1 := by simp
  rw [hpl] at hK hn6
  have hrc := hR.slot (k := past.length) (by omega) (decide_eq_true (by rw [hpl]; omega))
  rw [show past.length + 1 = (past ++ [A]).length from hpl.symm, hst_cur, hst_undo (next := next), hst_cur] at hrc
  have hb6 := hR.b6
  have hR' : Rg P M b (fun k => decide (k < past.length + (next ++ [T]).length)) (hst past A (next ++ [T])) := hR.congr (fun k hk => decide_eq_decide.2 (by rw [hpl]; simp; omega)) (fun k hk _ c hc => ⟨by rw [hst_undo], by rw [hst_undo]⟩)
  refine ret_of Tryz.func16 rfl Tryz.ntmps16 rfl ?_
  refine c_seq (fun K1 hK1 => ?_)
  refine c_reg ?_ -- region 0 book.go:67
  refine wl (ro_assign rfl) ?_
  refine wl_nil (x_then (hK1 _ _ ?_))
  clear hK1 K1
  refine c_seq (fun K2 hK2 => ?_)
  refine c_seq (fun K3 hK3 => ?_)
  refine c_reg ?_ -- region 1 book.go:68
  refine wl (ro_move rfl) ?_
  refine wl (ro_nilCheck rfl) ?_
  refine wl (ro_fieldAddr (k := 4) rfl fo_60_4) ?_
  refine wl (ro_loadB rfl sc_3 (by assumption) rfl) ?_
  refine wl (ro_cmp (r := false) rfl rfl (congrArg some (by simp; omega))) ?_
  refine wl_nil (x_then (hK3 _ _ ?_))
  clear hK3 K3
  refine wc_condF rfl ?_
  refine c_skip (x_then (hK2 _ _ ?_))
  clear hK2 K2
  refine forget [(0, _)] ⟨rfl, trivial⟩ (fun e => ?_)
  refine c_seq (fun K4 hK4 => ?_)
  refine c_reg ?_ -- region 3 book.go:71
  refine wl (ro_move rfl) ?_
  refine wl (ro_nilCheck rfl) ?_
  refine wl (ro_fieldAddr (k := 4) rfl fo_60_4) ?_
  refine wl (ro_loadB rfl sc_3 (by assumption) rfl) ?_
  refine wl (ro_arith (r := ((past.length : Nat) : Int)) rfl rfl (congrArg some (by omega)) (Go.IntWalk.i64_in _ (by omega))) ?_
  refine wl (ro_nilCheck rfl) ?_
  refine wl (ro_fieldAddr (k := 4) rfl fo_60_4) ?_
  refine wl_put rfl rfl rfl sz_3 hK ((by simp)) ((show _ = bst X b past.length next.length from rfl)) (fun w1 hK F1 => ?_)
  replace hF := hF.thenDrew.thenO F1 (by first | exact .inr (by omega) | exact .inl rfl | exact .inl (by assumption))
  replace hP := F1.blkO hP (by omega)
  replace hM := F1.blkO hM (by omega)
  replace hW := F1.blkO hW (by omega)
  replace hO := F1.blkO hO (by omega)
  replace hd := DaV.far hdb hd F1 (fun b q1 q2 hh ↦ absurd (show b = X.k from hh) (by omega))
  refine wl_nil (x_then (hK4 _ _ ?_))
  clear hK4 K4
  refine forget [(0, _)] ⟨rfl, trivial⟩ (fun e => ?_)
  refine c_seq (fun K5 hK5 => ?_)
  refine c_reg ?_ -- region 4 book.go:72
  refine wl (ro_move rfl) ?_
  refine wl (ro_nilCheck rfl) ?_
  refine wl (ro_fieldAddr (k := 5) rfl fo_60_5) ?_
  refine wl (ro_loadB rfl sc_3 (by assumption) rfl) ?_
  refine wl (ro_arith (r := ((next.length + 1 : Nat) : Int)) rfl rfl (congrArg some (by omega)) (Go.IntWalk.i64_in _ (by omega))) ?_
  refine wl (ro_nilCheck rfl) ?_
  refine wl (ro_fieldAddr (k := 5) rfl fo_60_5) ?_
  refine wl_put rfl rfl rfl sz_3 hK ((by simp)) ((show _ = bst X b past.length (next.length + 1) from rfl)) (fun w2 hK F2 => ?_)
  replace hF := hF.thenDrew.thenO F2 (by first | exact .inr (by omega) | exact .inl rfl | exact .inl (by assumption))
  replace hP := F2.blkO hP (by omega)
  replace hM := F2.blkO hM (by omega)
  replace hW := F2.blkO hW (by omega)
  replace hO := F2.blkO hO (by omega)
  replace hd := DaV.far hdb hd F2 (fun b q1 q2 hh ↦ absurd (show b = X.k from hh) (by omega))
  refine wl_nil (x_then (hK5 _ _ ?_))
  clear hK5 K5
  refine forget [(0, _)] ⟨rfl, trivial⟩ (fun e => ?_)
  refine c_seq (fun K6 hK6 => ?_)
  refine c_reg ?_ -- region 5 book.go:73
  refine wl (ro_move rfl) ?_
  refine wl (ro_move rfl) ?_
  refine wl (ro_nilCheck rfl) ?_
  refine wl (ro_fieldAddr (k := 4) rfl fo_60_4) ?_
  refine wl (ro_loadB rfl sc_3 (by assumption) rfl) ?_
  refine wl_call rfl en_51 (slot51 hK hb6 (by omega)) ?_
  rintro _ u0 ⟨rfl, hw0⟩
  rw [hw0]
  clear hw0 u0
  refine wl (ro_assign rfl) ?_
  refine wl_nil (x_then (hK6 _ _ ?_))
  clear hK6 K6
  refine forget [(0, _), (3, _)] ⟨rfl, rfl, trivial⟩ (fun e => ?_)
  refine c_seq (fun K7 hK7 => ?_)
  refine c_reg ?_ -- region 6 book.go:74
  refine wl (ro_move rfl) ?_
  refine wl (ro_move rfl) ?_
  refine wl_call rfl en_52 (lay52 (sd := 0) (Z := A) hbb (by have := hF.size; omega) hK hP hM hR.pl hR.ml (Nat.mod_lt _ (by omega)) (by omega) hd hA hrc.m24 (fun c hc hbt ↦ by (rw [Nat.add_zero, hrc.p0 c hc, if_neg ((hrc.bt c hc).1 hbt)])) (fun c hc hbt ↦ Classical.byContradiction (fun q ↦ by (rw [(hrc.bt c hc).2 q] at hbt; cases hbt)))) ?_
  rintro _ u1 ⟨⟨SL1, h1⟩, G1⟩
  replace hF := hF.transG G1 (by intro k hk h; simp only [rng, one] at h ⊢ <;> omega)
  replace hK := G1.blkF hK (by intro h; simp only [rng, one] at h <;> omega)
  replace hP := G1.blkF hP (by intro h; simp only [rng, one] at h <;> omega)
  replace hM := G1.blkF hM (by intro h; simp only [rng, one] at h <;> omega)
  replace hW := G1.blkF hW (by intro h; simp only [rng, one] at h <;> omega)
  replace hO := G1.blkF hO (by intro h; simp only [rng, one] at h <;> omega)
  refine wl_nil (x_then (hK7 _ _ ?_))
  clear hK7 K7
  refine forget [] trivial (fun e => ?_)
  refine c_seq (fun K8 hK8 => ?_)
  refine c_reg ?_ -- region 7 book.go:75
  refine wl (ro_assign rfl) ?_
  refine wl_nil (x_then (hK8 _ _ ?_))
  clear hK8 K8
  refine c_ret ?_
  refine bp_ret Tryz.results16 rfl ?_
  refine ⟨rfl, ⟨b, P, M, W, O, SL1, ?_, hP, hM, hW, hO, hwl, hR', by simp; omega, h1, fun S hS => hpo S (by simp [hS]), fun S hS => ?_⟩, hF⟩
  · rw [show (next ++ [T]).length = next.length + 1 by simp]; exact hK
  · rcases List.mem_append.1 hS with q | q
    · exact hno S q
    · rw [List.mem_singleton.1 q]; exact hT
set_option maxHeartbeats 8000000 in
theorem Redo18 {w : World} {lo hi : Nat} {X : BB} {T Z : List Tx} {past next : List (List Tx)} (hb : BaB lo hi X) (hhi : hi ≤ w.heap.size) (h : BaV w X T past (next ++ [Z])) :
    Ret Tryz.prog 18 [ptr X.k] w (fun v w' => v = icv 0 ∧ BaV w' X Z (past ++ [T]) next ∧ Fram (rng lo hi) w w') := by
  have hF : Fram (rng lo hi) w w := Fram.refl _ _
  obtain ⟨b, P, M, W, O, SL, h⟩ := h
  have hT := h.ok
  obtain ⟨hK, hP, hM, hW, hO, hwl, hR, hn6, hd, hpo, hno⟩ := h
  have hA : TxOK Z := hno Z (by simp)
  have hbb := hb
  obtain ⟨hdb, b1, b2, b3, b4, b5, b6⟩ := hb
  have hlo := hdb.lom
  have hlo1 := hdb.mb
  have hlo2 := hdb.be
  have hlo3 := hdb.eh
  have hm1 : rng lo hi X.k := ⟨by omega, by omega⟩
  have hpl : (next ++ [Z]).length = next.length + 1 := by simp
  have hpl2 : (past ++ [T]).length = past.length + 1 := by simp
  rw [hpl] at hK hn6
  have hrc := hR.slot (k := past.length) (by omega) (decide_eq_true (by rw [hpl]; omega))
  rw [← hst_undo (k := past.length + 1), ← hpl2, hst_cur, hst_cur] at hrc
  have hb6 := hR.b6
  have hR' : Rg P M b (fun k => decide (k < (past ++ [T]).length + next.length)) (hst (past ++ [T]) Z next) := hR.congr (fun k hk => decide_eq_decide.2 (by rw [hpl, hpl2]; omega)) (fun k hk _ c hc => ⟨by rw [hst_undo], by rw [hst_undo]⟩)
  refine ret_of Tryz.func18 rfl Tryz.ntmps18 rfl ?_
  refine c_seq (fun K1 hK1 => ?_)
  refine c_reg ?_ -- region 0 book.go:79
  refine wl (ro_assign rfl) ?_
  refine wl_nil (x_then (hK1 _ _ ?_))
  clear hK1 K1
  refine c_seq (fun K2 hK2 => ?_)
  refine c_seq (fun K3 hK3 => ?_)
  refine c_reg ?_ -- region 1 book.go:80
  refine wl (ro_move rfl) ?_
  refine wl (ro_nilCheck rfl) ?_
  refine wl (ro_fieldAddr (k := 5) rfl fo_60_5) ?_
  refine wl (ro_loadB rfl sc_3 (by assumption) rfl) ?_
  refine wl (ro_cmp (r := false) rfl rfl (congrArg some (by simp; omega))) ?_
  refine wl_nil (x_then (hK3 _ _ ?_))
  clear hK3 K3
  refine wc_condF rfl ?_
  refine c_skip (x_then (hK2 _ _ ?_))
  clear hK2 K2
  refine forget [(0, _)] ⟨rfl, trivial⟩ (fun e => ?_)
  refine c_seq (fun K4 hK4 => ?_)
  refine c_reg ?_ -- region 3 book.go:83
  refine wl (ro_move rfl) ?_
  refine wl (ro_move rfl) ?_
  refine wl (ro_nilCheck rfl) ?_
  refine wl (ro_fieldAddr (k := 4) rfl fo_60_4) ?_
  refine wl (ro_loadB rfl sc_3 (by assumption) rfl) ?_
  refine wl_call rfl en_51 (slot51 hK hb6 (by omega)) ?_
  rintro _ u0 ⟨rfl, hw0⟩
  rw [hw0]
  clear hw0 u0
  refine wl (ro_assign rfl) ?_
  refine wl_nil (x_then (hK4 _ _ ?_))
  clear hK4 K4
  refine forget [(0, _), (3, _)] ⟨rfl, rfl, trivial⟩ (fun e => ?_)
  refine c_seq (fun K5 hK5 => ?_)
  refine c_reg ?_ -- region 4 book.go:84
  refine wl (ro_move rfl) ?_
  refine wl (ro_move rfl) ?_
  refine wl_call rfl en_52 (lay52 (sd := 1) (Z := Z) hbb (by have := hF.size; omega) hK hP hM hR.pl hR.ml (Nat.mod_lt _ (by omega)) (by omega) hd hA hrc.m24 (fun c hc hbt ↦ by (rw [hrc.p1 c hc, if_neg ((hrc.bt c hc).1 hbt)])) (fun c hc hbt ↦ Classical.byContradiction (fun q ↦ by (rw [(hrc.bt c hc).2 (fun z ↦ q z.symm)] at hbt; cases hbt)))) ?_
  rintro _ u1 ⟨⟨SL1, h1⟩, G1⟩
  replace hF := hF.transG G1 (by intro k hk h; simp only [rng, one] at h ⊢ <;> omega)
  replace hK := G1.blkF hK (by intro h; simp only [rng, one] at h <;> omega)
  replace hP := G1.blkF hP (by intro h; simp only [rng, one] at h <;> omega)
  replace hM := G1.blkF hM (by intro h; simp only [rng, one] at h <;> omega)
  replace hW := G1.blkF hW (by intro h; simp only [rng, one] at h <;> omega)
  replace hO := G1.blkF hO (by intro h; simp only [rng, one] at h <;> omega)
  refine wl_nil (x_then (hK5 _ _ ?_))
  clear hK5 K5
  refine forget [(0, _)] ⟨rfl, trivial⟩ (fun e => ?_)
  refine c_seq (fun K6 hK6 => ?_)
  refine c_reg ?_ -- region 5 book.go:85
  refine wl (ro_move rfl) ?_
  refine wl (ro_nilCheck rfl) ?_
  refine wl (ro_fieldAddr (k := 4) rfl fo_60_4) ?_
  refine wl (ro_loadB rfl sc_3 (by assumption) rfl) ?_
  refine wl (ro_arith (r := ((past.length + 1 : Nat) : Int)) rfl rfl (congrArg some (by omega)) (Go.IntWalk.i64_in _ (by omega))) ?_
  refine wl (ro_nilCheck rfl) ?_
  refine wl (ro_fieldAddr (k := 4) rfl fo_60_4) ?_
  refine wl_put rfl rfl rfl sz_3 hK ((by simp)) ((show _ = bst X b (past.length + 1) (next.length + 1) from rfl)) (fun w1 hK F1 => ?_)
  replace hF := hF.thenDrew.thenO F1 (by first | exact .inr (by omega) | exact .inl rfl | exact .inl (by assumption))
  replace hP := F1.blkO hP (by omega)
  replace hM := F1.blkO hM (by omega)
  replace hW := F1.blkO hW (by omega)
  replace hO := F1.blkO hO (by omega)
  replace h1 := DaV.far hdb h1 F1 (fun b q1 q2 hh ↦ absurd (show b = X.k from hh) (by omega))
  refine wl_nil (x_then (hK6 _ _ ?_))
  clear hK6 K6
  refine forget [(0, _)] ⟨rfl, trivial⟩ (fun e => ?_)
  refine c_seq (fun K7 hK7 => ?_)
  refine c_reg ?_ -- region 6 book.go:86
  refine wl (ro_move rfl) ?_
  refine wl (ro_nilCheck rfl) ?_
  refine wl (ro_fieldAddr (k := 5) rfl fo_60_5) ?_
  refine wl (ro_loadB rfl sc_3 (by assumption) rfl) ?_
  refine wl (ro_arith (r := ((next.length : Nat) : Int)) rfl rfl (congrArg some (by omega)) (Go.IntWalk.i64_in _ (by omega))) ?_
  refine wl (ro_nilCheck rfl) ?_
  refine wl (ro_fieldAddr (k := 5) rfl fo_60_5) ?_
  refine wl_put rfl rfl rfl sz_3 hK ((by simp)) ((show _ = bst X b (past.length + 1) next.length from rfl)) (fun w2 hK F2 => ?_)
  replace hF := hF.thenDrew.thenO F2 (by first | exact .inr (by omega) | exact .inl rfl | exact .inl (by assumption))
  replace hP := F2.blkO hP (by omega)
  replace hM := F2.blkO hM (by omega)
  replace hW := F2.blkO hW (by omega)
  replace hO := F2.blkO hO (by omega)
  replace h1 := DaV.far hdb h1 F2 (fun b q1 q2 hh ↦ absurd (show b = X.k from hh) (by omega))
  refine wl_nil (x_then (hK7 _ _ ?_))
  clear hK7 K7
  refine forget [] trivial (fun e => ?_)
  refine c_seq (fun K8 hK8 => ?_)
  refine c_reg ?_ -- region 7 book.go:87
  refine wl (ro_assign rfl) ?_
  refine wl_nil (x_then (hK8 _ _ ?_))
  clear hK8 K8
  refine c_ret ?_
  refine bp_ret Tryz.results18 rfl ?_
  refine ⟨rfl, ⟨b, P, M, W, O, SL1, ?_, hP, hM, hW, hO, hwl, hR', by rw [hpl2]; omega, h1, fun S hS => ?_, fun S hS => hno S (by simp [hS])⟩, hF⟩
  · rw [hpl2]; exact hK
  · rcases List.mem_append.1 hS with q | q
    · exact hpo S q
    · rw [List.mem_singleton.1 q]; exact hT

end Go.Proofs.Qxb6500570aGreat
