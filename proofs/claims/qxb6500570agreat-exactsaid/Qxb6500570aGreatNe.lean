import Derived.Test.Qxb6500570aGreatNd
/- The model's editor: Edit, Copy, New. -/
namespace Go.Proofs.Qxb6500570aGreat
set_option linter.unusedVariables false
set_option linter.unusedSimpArgs false

theorem Edit48N {w : World} {k : Nat} {kind a : Int} (hok : edOK kind a = false) : Ret Tryz.prog 48 [ptr k, icv kind, icv a] w (fun v w' => v = icv 9 ∧ w' = w) := by
  refine ret_of Tryz.func48 rfl Tryz.ntmps48 rfl ?_
  refine c_seq (fun K1 hK1 => ?_)
  refine c_reg ?_ -- region 0 editm.go:47
  refine wl (ro_assign rfl) ?_
  refine wl_nil (x_then (hK1 _ _ ?_))
  clear hK1 K1
  refine c_seq (fun K2 hK2 => ?_)
  refine c_seq (fun K3 hK3 => ?_)
  refine c_reg ?_ -- region 1 editm.go:48
  refine wl (ro_move rfl) ?_
  refine wl (ro_move rfl) ?_
  refine wl_call rfl en_69 (EditOK69) ?_
  rintro _ _ ⟨rfl, rfl⟩
  rw [hok]
  refine wl (ro_not rfl) ?_
  refine wl_nil (x_then (hK3 _ _ ?_))
  clear hK3 K3
  refine wc_condT rfl ?_
  refine c_seq (fun K4 hK4 => ?_)
  refine c_reg ?_ -- region 2 editm.go:49
  refine wl (ro_assign rfl) ?_
  refine wl_nil (x_then (hK4 _ _ ?_))
  clear hK4 K4
  refine c_ret (x_thenR ?_)
  refine bp_ret Tryz.results48 rfl ?_
  exact ⟨rfl, rfl⟩
theorem trc_cells (nb : Nat) (n : List Nd) : ∀ u ∈ trc nb n, u.oneCell' = true := by
  intro u hu
  simp only [trc, List.mem_cons, List.not_mem_nil, or_false] at hu
  rcases hu with rfl | rfl | rfl | rfl <;> rfl
theorem trc_V {n : List Nd} (h : 1 ≤ n.length) (nb : Nat) : Value.agg (trc nb n).toArray = trV nb n := trV_eq h nb
set_option maxHeartbeats 16000000 in
theorem Edit48 {w : World} {N : EM} {lo hi sb : Nat} {kind a : Int} {T : List Tx} {SL : List Vl} (hb : NaB lo hi N) (hhi : hi ≤ w.heap.size) (h : NaV w N hi sb T SL) (hok : edOK kind a = true) :
    Ret Tryz.prog 48 [ptr N.e, icv kind, icv a] w (fun v w' => v = icv 0 ∧ (∃ sb' SL', (sb' = sb ∨ w.heap.size ≤ sb') ∧ NaV w' N hi sb' (editT T kind a) SL') ∧ Fram (rng lo hi) w w') := by
  have hF : Fram (rng lo hi) w w := Fram.refl _ _
  have hT40 := h.ok
  obtain ⟨⟨n0, hE⟩, hfm, hmv, hs⟩ := h
  have h0 := hb.mc
  obtain ⟨b1, b2, b3, b4, b5⟩ := hb
  have hfe : N.f < N.e := by omega
  obtain ⟨hk14, ha⟩ := ed_iff.1 hok
  have hsbl := hmv.hV.lt
  unfold editT
  generalize hfd : nwT (rwB kind) (inB kind) a T = f
  have hFl := nwL_len (rows := rwB kind) (ins := inB kind) (a := a) (T := T)
  have hFg : ∀ c, c < 24 → tF (nwL (rwB kind) (inB kind) a T) c = f c := fun c hc => by rw [nwL_get hc, hfd]
  generalize nwL (rwB kind) (inB kind) a T = FL at hFl hFg
  have hzl : zL.length = 24 := List.length_replicate
  have hsv : N.m < N.M.v ∧ N.M.v < N.M.k ∧ N.M.k < N.c := by have := b3; unfold MaB at this; omega
  refine ret_of Tryz.func48 rfl Tryz.ntmps48 rfl ?_
  refine c_seq (fun K1 hK1 => ?_)
  refine c_reg ?_ -- region 0 editm.go:47
  refine wl (ro_assign rfl) ?_
  refine wl_nil (x_then (hK1 _ _ ?_))
  clear hK1 K1
  refine c_seq (fun K2 hK2 => ?_)
  refine c_seq (fun K3 hK3 => ?_)
  refine c_reg ?_ -- region 1 editm.go:48
  refine wl (ro_move rfl) ?_
  refine wl (ro_move rfl) ?_
  refine wl_call rfl en_69 (EditOK69) ?_
  rintro _ u0 ⟨rfl, hw0⟩
  rw [hok, hw0]
  clear hw0 u0
  refine wl (ro_not rfl) ?_
  refine wl_nil (x_then (hK3 _ _ ?_))
  clear hK3 K3
  refine wc_condF rfl ?_
  refine c_skip (x_then (hK2 _ _ ?_))
  clear hK2 K2
  refine forget [(0, _), (1, _), (2, _)] ⟨rfl, rfl, rfl, trivial⟩ (fun e => ?_)
  refine c_seq (fun K4 hK4 => ?_)
  refine c_reg ?_ -- region 3 editm.go:51
  refine wl_make (len := 24) (cap := 24) rfl rfl se_56 ze_9 (by simp) (by omega) (by omega) rfl bb_9 (fun xb w1 hbxb hU F1 => ?_)
  have hbsxb := Nat.le_trans hF.size hbxb
  have hneNexb : N.e < xb := Nat.lt_of_lt_of_le hE.lt hbxb
  replace hF := hF.thenDrew.thenN F1
  replace hE := F1.blkN hE
  replace hU : Blk w1.heap xb (rws stc zL) 9 := by (rw [← zc_rws (enc := stc) (x0 := []) rfl stc_len 24]; exact hU)
  replace hfm := hfm.far F1 (fun q ↦ q)
  replace hmv := hmv.far b3 F1 (fun _ _ _ q ↦ q) (fun q ↦ q)
  refine wl (ro_assign rfl) ?_
  refine wl_nil (x_then (hK4 _ _ ?_))
  clear hK4 K4
  refine c_seq (fun K5 hK5 => ?_)
  refine c_seq (fun K6 hK6 => ?_)
  refine c_reg ?_ -- region 4 editm.go:52
  refine wl (ro_assign rfl) ?_
  refine wl_nil (x_then (hK6 _ _ ?_))
  clear hK6 K6
  refine c_block ?_
  -- loop@r5: live slots [0, 1, 2, 7, 8]
  refine c_loopG (fun m a' w' => ∃ i, m = 24 - i ∧ i ≤ 24 ∧ Blk w'.heap N.e [ptr N.f, ptr N.M.k, icv n0] 101 ∧ Blk w'.heap xb (rws stc (mixT FL zL i)) 9 ∧ MFm w' N.f ∧ MaV w' N.M sb T SL ∧ Fram (rng lo hi) w w' ∧ ∃ e, a' = Fr 72 (upds e [(0, ptr N.e), (1, icv kind), (2, icv a), (7, sl xb 24), (8, i64c i)]) []) 24 ⟨0, rfl, by omega, hE, by rw [mix_zero]; exact hU, hfm, hmv, hF, kp _ ⟨rfl, rfl, rfl, rfl, rfl, trivial⟩⟩ ?_
  have hxb : w.heap.size ≤ xb := by omega
  clear hF hE hU hfm hmv
  rintro m a' u3 ⟨i, rfl, hi24, hE, hU, hfm, hmv, hF, e, rfl⟩
  have hml := mix_len (i := i) hFl hzl
  have hsz := hF.size
  refine c_seq (fun K7 hK7 => ?_)
  refine c_seq (fun K8 hK8 => ?_)
  refine c_reg ?_ -- region 5 editm.go:52
  refine wl (ro_move rfl) ?_
  refine wl (ro_cmp (r := decide (i < 24)) rfl rfl (congrArg some (decide_eq_decide.2 (by omega)))) ?_
  refine wl_nil (x_then (hK8 _ _ ?_))
  clear hK8 K8
  refine wc_cond rfl (fun hc20 => ?_) (fun hc20 => ?_)
  · try simp only [decide_eq_true_eq, decide_eq_false_iff_not, Bool.not_eq_true', Bool.not_eq_false', Bool.not_eq_eq_eq_not, Bool.not_true, Bool.not_false, beq_iff_eq, bne_iff_ne, ne_eq, beq_eq_false_iff_ne, bne_eq_false_iff_eq, gt_iff_lt, ge_iff_le, Int.not_lt, Int.not_le] at hc20
    refine c_skip (x_then (hK7 _ _ ?_))
    clear hK7 K7
    refine forget [(0, _), (1, _), (2, _), (7, _), (8, _)] ⟨rfl, rfl, rfl, rfl, rfl, trivial⟩ (fun e => ?_)
    refine c_seq (fun K9 hK9 => ?_)
    refine c_block ?_
    refine c_seq (fun K10 hK10 => ?_)
    refine c_reg ?_ -- region 7 editm.go:53
    refine wl (ro_move rfl) ?_
    refine wl (ro_move rfl) ?_
    refine wl (ro_move rfl) ?_
    refine wl_call rfl en_76 (From76 hok hc20) ?_
    rintro _ _ ⟨rfl, rfl⟩
    refine wl (ro_assign rfl) ?_
    refine wl_nil (x_then (hK10 _ _ ?_))
    clear hK10 K10
    refine c_seq (fun K11 hK11 => ?_)
    refine c_seq (fun K12 hK12 => ?_)
    refine c_reg ?_ -- region 8 editm.go:54
    refine wl (ro_move rfl) ?_
    refine wl (ro_cmp (r := decide (srcI (rwB kind) (inB kind) a i < 0)) rfl rfl rfl) ?_
    refine wl_nil (x_then (hK12 _ _ ?_))
    clear hK12 K12
    refine wc_cond rfl (fun hc28 => ?_) (fun hc28 => ?_)
    · try simp only [decide_eq_true_eq, decide_eq_false_iff_not, Bool.not_eq_true', Bool.not_eq_false', Bool.not_eq_eq_eq_not, Bool.not_true, Bool.not_false, beq_iff_eq, bne_iff_ne, ne_eq, beq_eq_false_iff_ne, bne_eq_false_iff_eq, gt_iff_lt, ge_iff_le, Int.not_lt, Int.not_le] at hc28
      refine c_exit (x_thenX (x_blkX (x_then (hK9 _ _ ?_))))
      clear hK11 K11 hK9 K9
      refine c_reg ?_ -- region 6 editm.go:52
      refine wl (ro_move rfl) ?_
      refine wl (ro_arith (r := ((i + 1 : Nat) : Int)) rfl rfl rfl (Go.IntWalk.i64_in _ (by omega))) ?_
      refine wl (ro_assign rfl) ?_
      refine wl_nil (x_then ?_)
      have hfi : f i = [] := by rw [← hfd]; unfold nwT; rw [if_pos hc28]
      rw [← mix_same hFl hzl hc20 (by rw [hFg i hc20, hfi, zL_get])] at hU
      exact ⟨24 - (i + 1), by omega, i + 1, rfl, by omega, hE, hU, hfm, hmv, hF, kp _ ⟨rfl, rfl, rfl, rfl, rfl, trivial⟩⟩
    · try simp only [decide_eq_true_eq, decide_eq_false_iff_not, Bool.not_eq_true', Bool.not_eq_false', Bool.not_eq_eq_eq_not, Bool.not_true, Bool.not_false, beq_iff_eq, bne_iff_ne, ne_eq, beq_eq_false_iff_ne, bne_eq_false_iff_eq, gt_iff_lt, ge_iff_le, Int.not_lt, Int.not_le] at hc28
      obtain ⟨d, hd24, hds⟩ : ∃ d : Nat, d < 24 ∧ srcI (rwB kind) (inB kind) a i = (d : Int) := (src_bd ha.1 hc20).resolve_left (fun q => by omega)
      have hfi : f i = rwT (shN (rwB kind) (inB kind) a) (tF T d) := by rw [← hfd]; unfold nwT; rw [if_neg (by omega), hds, Int.toNat_natCast]
      refine c_skip (x_then (hK11 _ _ ?_))
      clear hK11 K11
      refine forget [(0, _), (1, _), (2, _), (7, _), (8, _), (9, _)] ⟨rfl, rfl, rfl, rfl, rfl, rfl, trivial⟩ (fun e => ?_)
      refine c_seq (fun K13 hK13 => ?_)
      refine c_reg ?_ -- region 9 editm.go:57
      refine wl (ro_move rfl) ?_
      refine wl (ro_move rfl) ?_
      refine wl (ro_move rfl) ?_
      refine wl (ro_nilCheck rfl) ?_
      refine wl (ro_fieldAddr (k := 1) rfl fo_101_1) ?_
      refine wl (ro_loadB rfl sc_98 (by assumption) rfl) ?_
      refine wl (ro_move rfl) ?_
      refine wl_call rfl en_77 (Raw77G hmv) ?_
      rintro _ _ ⟨rfl, rfl⟩
      rw [hds, getS_nat hd24]
      refine wl (ro_indexAddr (et := 9) (k := 1) rfl rfl se_56 (rfl) ((by omega))) ?_
      refine wl_put rfl rfl rfl sz_9 hU ((rw_fit stc_len (i := i) (j := 0) (m := 1) (by omega) (by omega) (by omega))) ((rw_put stc_len (i := i) (j := 0) (x := tF (mixT FL zL i) i) (x' := tF T d) (tF_get (by omega)) (by omega) (by omega) rfl)) (fun w2 hU F2 => ?_)
      replace hF := hF.thenDrew.thenO F2 (by first | exact .inr (by omega) | exact .inl rfl | exact .inl (by assumption))
      replace hE := F2.blkO hE (by omega)
      replace hfm := hfm.far F2 (fun hh ↦ absurd (show N.f = xb from hh) (by omega))
      replace hmv := hmv.far b3 F2 (fun b q1 q2 hh ↦ absurd (show b = xb from hh) (by omega)) (fun hh ↦ absurd (show sb = xb from hh) (by omega))
      refine wl_nil (x_then (hK13 _ _ ?_))
      clear hK13 K13
      refine forget [(0, _), (1, _), (2, _), (7, _), (8, _)] ⟨rfl, rfl, rfl, rfl, rfl, trivial⟩ (fun e => ?_)
      refine c_seq (fun K14 hK14 => ?_)
      cases hp : opR (tF T d)
      · skip
        refine c_reg ?_ -- region 10 editm.go:58
        refine wl (ro_move rfl) ?_
        refine wl (ro_move rfl) ?_
        refine wl (ro_move rfl) ?_
        refine wl (ro_indexAddr (et := 9) (k := 1) rfl rfl se_56 (rfl) ((by omega))) ?_
        refine wl (ro_loadB rfl sc_9 (hU) ((rw_get stc_len (L := (mixT FL zL i).set i (tF T d)) (i := i) (x := tF T d) (by rw [List.getElem?_set_self (by omega)]) (j := 0) (by omega) rfl))) ?_
        refine wl_call rfl en_78 (tree78 hfe hE hfm (hT40.le d)) ?_
        rintro _ u5 ⟨⟨cs, rfl, hTr⟩, hfm5, G5⟩
        rw [hp] at hTr ⊢
        have hform := hTr.form
        have hfi2 : f i = tF T d := by rw [hfi]; unfold rwT; rw [hp]
        have hsz5 := G5.size
        have hEl := hE.lt
        replace hF := hF.trans (G5.mono (fun k _ hk => by have : k = N.f := hk; exact ⟨by omega, by omega⟩))
        replace hE := G5.blkF hE (fun q => absurd (show N.e = N.f from q) (by omega))
        replace hU := G5.blkF hU (fun q => absurd (show xb = N.f from q) (by omega))
        replace hmv := hmv.far b3 G5 (fun b q1 q2 q => absurd (show b = N.f from q) (by omega)) (fun q => absurd (show sb = N.f from q) (by omega))
        clear hfm
        refine wl (ro_move rfl) ?_
        refine wl (ro_extract rfl rfl) ?_
        refine wl (ro_extract rfl rfl) ?_
        refine wl_new (ze_113) (fun b10 w3 hbb10 h10 F3 => ?_)
        have hbsb10 := Nat.le_trans hF.size hbb10
        have hneN.eb10 : N.e < b10 := Nat.lt_of_lt_of_le hE.lt hbb10
        have hnexbb10 : xb < b10 := Nat.lt_of_lt_of_le hU.lt hbb10
        replace hF := hF.thenDrew.thenN F3
        replace hE := F3.blkN hE
        replace hU := F3.blkN hU
        replace hfm5 := hfm5.far F3 (fun q ↦ q)
        replace hmv := hmv.far b3 F3 (fun _ _ _ q ↦ q) (fun q ↦ q)
        refine wl_puta rfl rfl (hform.2) sz_113 (hform.1) h10 ((by simp)) ((by simp; rfl)) (fun w4 h10 F4 => ?_)
        replace hF := hF.thenDrew.thenO F4 (by first | exact .inr (by omega) | exact .inl rfl | exact .inl (by assumption))
        replace hE := F4.blkO hE (by omega)
        replace hU := F4.blkO hU (by omega)
        replace hfm5 := hfm5.far F4 (fun hh ↦ absurd (show N.f = b10 from hh) (by omega))
        replace hmv := hmv.far b3 F4 (fun b q1 q2 hh ↦ absurd (show b = b10 from hh) (by omega)) (fun hh ↦ absurd (show sb = b10 from hh) (by omega))
        refine wl (ro_assign rfl) ?_
        refine wl_nil (x_then (hK14 _ _ ?_))
        clear hK14 K14
        refine forget [(0, _), (1, _), (2, _), (7, _), (8, _), (10, _), (11, _)] ⟨rfl, rfl, rfl, rfl, rfl, rfl, rfl, trivial⟩ (fun e => ?_)
        refine c_seq (fun K15 hK15 => ?_)
        refine c_reg ?_ -- region 11 editm.go:59
        refine wl (ro_move rfl) ?_
        refine wl_nil (x_then (hK15 _ _ ?_))
        clear hK15 K15
        refine wc_condF rfl ?_
        refine c_skip (x_blk (x_then (hK9 _ _ ?_)))
        clear hK9 K9
        refine c_reg ?_ -- region 6 editm.go:52
        refine wl (ro_move rfl) ?_
        refine wl (ro_arith (r := ((i + 1 : Nat) : Int)) rfl rfl rfl (Go.IntWalk.i64_in _ (by omega))) ?_
        refine wl (ro_assign rfl) ?_
        refine wl_nil (x_then ?_)
        rw [← hfi2, ← hFg i hc20, mix_set hFl hzl hc20] at hU
        exact ⟨24 - (i + 1), by omega, i + 1, rfl, by omega, hE, hU, hfm5, hmv, hF, kp _ ⟨rfl, rfl, rfl, rfl, rfl, trivial⟩⟩
      · skip
        rename_i n
        obtain ⟨hDn, hAn⟩ := opR_ok hp
        have hn1 : 1 ≤ n.length := hDn.1
        have hn24 : n.length ≤ 24 := hDn.2.1
        refine c_reg ?_ -- region 10 editm.go:58
        refine wl (ro_move rfl) ?_
        refine wl (ro_move rfl) ?_
        refine wl (ro_move rfl) ?_
        refine wl (ro_indexAddr (et := 9) (k := 1) rfl rfl se_56 (rfl) ((by omega))) ?_
        refine wl (ro_loadB rfl sc_9 (hU) ((rw_get stc_len (L := (mixT FL zL i).set i (tF T d)) (i := i) (x := tF T d) (by rw [List.getElem?_set_self (by omega)]) (j := 0) (by omega) rfl))) ?_
        refine wl_call rfl en_78 (tree78 hfe hE hfm (hT40.le d)) ?_
        rintro _ u5 ⟨⟨cs, rfl, hTr⟩, hfm5, G5⟩
        rw [hp] at hTr ⊢
        have hform := hTr.form
        obtain ⟨qb, rfl, hqb, hQ⟩ := hTr
        have hfi2 : f i = 61 :: textF (n.map (shN (rwB kind) (inB kind) a)) := by rw [hfi]; unfold rwT; rw [hp]
        have hsz5 := G5.size
        have hQl := hQ.lt
        have hEl := hE.lt
        replace hF := hF.trans (G5.mono (fun k _ hk => by have : k = N.f := hk; exact ⟨by omega, by omega⟩))
        replace hE := G5.blkF hE (fun q => absurd (show N.e = N.f from q) (by omega))
        replace hU := G5.blkF hU (fun q => absurd (show xb = N.f from q) (by omega))
        replace hmv := hmv.far b3 G5 (fun b q1 q2 q => absurd (show b = N.f from q) (by omega)) (fun q => absurd (show sb = N.f from q) (by omega))
        clear hfm
        refine wl (ro_move rfl) ?_
        refine wl (ro_extract rfl rfl) ?_
        refine wl (ro_extract rfl rfl) ?_
        refine wl_new (ze_113) (fun b10 w5 hbb10 h10 F5 => ?_)
        have hbsb10 := Nat.le_trans hF.size hbb10
        have hneN.eb10 : N.e < b10 := Nat.lt_of_lt_of_le hE.lt hbb10
        have hnexbb10 : xb < b10 := Nat.lt_of_lt_of_le hU.lt hbb10
        have hneqbb10 : qb < b10 := Nat.lt_of_lt_of_le hQ.lt hbb10
        replace hF := hF.thenDrew.thenN F5
        replace hE := F5.blkN hE
        replace hU := F5.blkN hU
        replace hQ := F5.blkN hQ
        replace hfm5 := hfm5.far F5 (fun q ↦ q)
        replace hmv := hmv.far b3 F5 (fun _ _ _ q ↦ q) (fun q ↦ q)
        refine wl_puta rfl rfl (hform.2) sz_113 (hform.1) h10 ((by simp)) ((by simp; rfl)) (fun w6 h10 F6 => ?_)
        replace hF := hF.thenDrew.thenO F6 (by first | exact .inr (by omega) | exact .inl rfl | exact .inl (by assumption))
        replace hE := F6.blkO hE (by omega)
        replace hU := F6.blkO hU (by omega)
        replace hQ := F6.blkO hQ (by omega)
        replace hfm5 := hfm5.far F6 (fun hh ↦ absurd (show N.f = b10 from hh) (by omega))
        replace hmv := hmv.far b3 F6 (fun b q1 q2 hh ↦ absurd (show b = b10 from hh) (by omega)) (fun hh ↦ absurd (show sb = b10 from hh) (by omega))
        refine wl (ro_assign rfl) ?_
        refine wl_nil (x_then (hK14 _ _ ?_))
        clear hK14 K14
        refine forget [(0, _), (1, _), (2, _), (7, _), (8, _), (10, _), (11, _)] ⟨rfl, rfl, rfl, rfl, rfl, rfl, rfl, trivial⟩ (fun e => ?_)
        refine c_seq (fun K16 hK16 => ?_)
        refine c_reg ?_ -- region 11 editm.go:59
        refine wl (ro_move rfl) ?_
        refine wl_nil (x_then (hK16 _ _ ?_))
        clear hK16 K16
        refine wc_condT rfl ?_
        refine c_seq (fun K17 hK17 => ?_)
        refine c_reg ?_ -- region 12 editm.go:60
        refine wl (ro_loadAggB rfl ag_113 (h10) (rfl) (rfl)) ?_
        refine wl (ro_move rfl) ?_
        refine wl (ro_move rfl) ?_
        refine wl_call rfl en_79 (Moved79 hok hn1 hn24 hQ) ?_
        rintro _ u6 ⟨⟨qb2, rfl, hqb2, hQ2⟩, G6⟩
        have hszF := hF.size
        replace hF := hF.transG G6 (by intro k hk h; simp only [none', rng, one] at h ⊢ <;> omega)
        replace hE := G6.blkF hE (by intro h; simp only [none', rng, one] at h <;> omega)
        replace hU := G6.blkF hU (by intro h; simp only [none', rng, one] at h <;> omega)
        replace hQ := G6.blkF hQ (by intro h; simp only [none', rng, one] at h <;> omega)
        replace h10 := G6.blkF h10 (by intro h; simp only [none', rng, one] at h <;> omega)
        have hQ2l := hQ2.lt
        replace hfm5 := hfm5.far G6 (fun q => q)
        replace hmv := hmv.far b3 G6 (fun _ _ _ q => q) (fun q => q)
        refine wl_new (ze_113) (fun b12 w7 hbb12 h12 F7 => ?_)
        have hbsb12 := Nat.le_trans hF.size hbb12
        have hneN.eb12 : N.e < b12 := Nat.lt_of_lt_of_le hE.lt hbb12
        have hnexbb12 : xb < b12 := Nat.lt_of_lt_of_le hU.lt hbb12
        have hneqbb12 : qb < b12 := Nat.lt_of_lt_of_le hQ.lt hbb12
        have hneb10b12 : b10 < b12 := Nat.lt_of_lt_of_le h10.lt hbb12
        have hneqb2b12 : qb2 < b12 := Nat.lt_of_lt_of_le hQ2.lt hbb12
        replace hF := hF.thenDrew.thenN F7
        replace hE := F7.blkN hE
        replace hU := F7.blkN hU
        replace hQ := F7.blkN hQ
        replace h10 := F7.blkN h10
        replace hQ2 := F7.blkN hQ2
        replace hfm5 := hfm5.far F7 (fun q ↦ q)
        replace hmv := hmv.far b3 F7 (fun _ _ _ q ↦ q) (fun q ↦ q)
        refine wl_puta rfl rfl ((trc_cells _ _)) sz_113 (rfl) h12 ((by simp)) ((show _ = trc qb2 (n.map (shN (rwB kind) (inB kind) a)) from rfl)) (fun w8 h12 F8 => ?_)
        replace hF := hF.thenDrew.thenO F8 (by first | exact .inr (by omega) | exact .inl rfl | exact .inl (by assumption))
        replace hE := F8.blkO hE (by omega)
        replace hU := F8.blkO hU (by omega)
        replace hQ := F8.blkO hQ (by omega)
        replace h10 := F8.blkO h10 (by omega)
        replace hQ2 := F8.blkO hQ2 (by omega)
        replace hfm5 := hfm5.far F8 (fun hh ↦ absurd (show N.f = b12 from hh) (by omega))
        replace hmv := hmv.far b3 F8 (fun b q1 q2 hh ↦ absurd (show b = b12 from hh) (by omega)) (fun hh ↦ absurd (show sb = b12 from hh) (by omega))
        refine wl_nil (x_then (hK17 _ _ ?_))
        clear hK17 K17
        refine c_reg ?_ -- region 13 editm.go:61
        refine wl (ro_move rfl) ?_
        refine wl (ro_move rfl) ?_
        refine wl (ro_move rfl) ?_
        refine wl (ro_loadAggB rfl ag_113 (h12) (rfl) (rfl)) ?_
        refine wl_call rfl en_80 (text80 (n := n.map (shN (rwB kind) (inB kind) a)) (trc_V (by rw [List.length_map]; exact hn1) qb2) hfe hE hfm5 (done_map sh_gok hDn) (aok_map (fun x hx ↦ sh_nm ha.1 hx) hAn) (by omega) hQ2) ?_
        rintro _ u7 ⟨rfl, hfm7, G7⟩
        replace hF := hF.trans (G7.mono (fun k _ hk => by have : k = N.f := hk; exact ⟨by omega, by omega⟩))
        replace hE := G7.blkF hE (fun q => absurd (show N.e = N.f from q) (by omega))
        replace hU := G7.blkF hU (fun q => absurd (show xb = N.f from q) (by omega))
        replace hmv := hmv.far b3 G7 (fun b q1 q2 q => absurd (show b = N.f from q) (by omega)) (fun q => absurd (show sb = N.f from q) (by omega))
        clear hfm5 h10 h12 hQ hQ2
        have hfm5 := hfm7
        refine wl (ro_indexAddr (et := 9) (k := 1) rfl rfl se_56 (rfl) ((by omega))) ?_
        refine wl_put rfl rfl rfl sz_9 hU ((rw_fit stc_len (i := i) (j := 0) (m := 1) (by rw [List.length_set]; omega) (by omega) (by omega))) ((rw_put stc_len (i := i) (j := 0) (x := tF T d) (x' := f i) (by rw [List.getElem?_set_self (by omega)]) (by omega) (by omega) (by rw [hfi2]; rfl))) (fun w9 hU F9 => ?_)
        replace hF := hF.thenDrew.thenO F9 (by first | exact .inr (by omega) | exact .inl rfl | exact .inl (by assumption))
        replace hE := F9.blkO hE (by omega)
        rw [List.set_set, ← hFg i hc20, mix_set hFl hzl hc20] at hU
        replace hfm5 := hfm5.far F9 (fun hh ↦ absurd (show N.f = xb from hh) (by omega))
        replace hmv := hmv.far b3 F9 (fun b q1 q2 hh ↦ absurd (show b = xb from hh) (by omega)) (fun hh ↦ absurd (show sb = xb from hh) (by omega))
        refine wl_nil (x_blk (x_then (hK9 _ _ ?_)))
        clear hK9 K9
        refine c_reg ?_ -- region 6 editm.go:52
        refine wl (ro_move rfl) ?_
        refine wl (ro_arith (r := ((i + 1 : Nat) : Int)) rfl rfl rfl (Go.IntWalk.i64_in _ (by omega))) ?_
        refine wl (ro_assign rfl) ?_
        refine wl_nil (x_then ?_)
        exact ⟨24 - (i + 1), by omega, i + 1, rfl, by omega, hE, hU, hfm5, hmv, hF, kp _ ⟨rfl, rfl, rfl, rfl, rfl, trivial⟩⟩
  · try simp only [decide_eq_true_eq, decide_eq_false_iff_not, Bool.not_eq_true', Bool.not_eq_false', Bool.not_eq_eq_eq_not, Bool.not_true, Bool.not_false, beq_iff_eq, bne_iff_ne, ne_eq, beq_eq_false_iff_ne, bne_eq_false_iff_eq, gt_iff_lt, ge_iff_le, Int.not_lt, Int.not_le] at hc20
    refine c_exit (x_thenX (x_thenX (x_blkX (x_then (hK5 _ _ ?_)))))
    clear hK7 K7 hK5 K5
    refine c_seq (fun K18 hK18 => ?_)
    refine c_seq (fun K19 hK19 => ?_)
    refine c_reg ?_ -- region 14 editm.go:64
    refine wl (ro_assign rfl) ?_
    refine wl_nil (x_then (hK19 _ _ ?_))
    clear hK19 K19
    refine c_block ?_
    -- loop@r15: live slots [0, 7, 13]
    refine c_loopG (fun m a' w' => ∃ i sb1 SL, m = 24 - i ∧ i ≤ 24 ∧ (sb1 = sb ∨ w.heap.size ≤ sb1) ∧ Blk w'.heap xb (rws stc FL) 9 ∧ Blk w'.heap N.e [ptr N.f, ptr N.M.k, icv n0] 101 ∧ MFm w' N.f ∧ MaV w' N.M sb1 (layT f T i) SL ∧ (hi ≤ sb1 ∨ (N.M.v < sb1 ∧ sb1 < N.M.k)) ∧ Fram (rng lo hi) w w' ∧ ∃ e, a' = Fr 72 (upds e [(0, ptr N.e), (7, sl xb 24), (13, i64c i)]) []) 24 ⟨0, sb, SL, rfl, by omega, .inl rfl, ?_, hE, hfm, hmv, hs, hF, kp _ ⟨rfl, rfl, rfl, trivial⟩⟩ ?_
    · have : i = 24 := by omega
      subst this
      rw [mix_all hFl hzl] at hU
      exact hU
    clear hF hE hU hfm hmv hs hsbl
    rintro m a' u9 ⟨i, sb2, SL, rfl, hi24, hsn, hU, hE, hfm, hmv, hs, hF, e, rfl⟩
    have hsz := hF.size
    refine c_seq (fun K20 hK20 => ?_)
    refine c_seq (fun K21 hK21 => ?_)
    refine c_reg ?_ -- region 15 editm.go:64
    refine wl (ro_move rfl) ?_
    refine wl (ro_cmp (r := decide (i < 24)) rfl rfl (congrArg some (decide_eq_decide.2 (by omega)))) ?_
    refine wl_nil (x_then (hK21 _ _ ?_))
    clear hK21 K21
    refine wc_cond rfl (fun hc59 => ?_) (fun hc59 => ?_)
    · try simp only [decide_eq_true_eq, decide_eq_false_iff_not, Bool.not_eq_true', Bool.not_eq_false', Bool.not_eq_eq_eq_not, Bool.not_true, Bool.not_false, beq_iff_eq, bne_iff_ne, ne_eq, beq_eq_false_iff_ne, bne_eq_false_iff_eq, gt_iff_lt, ge_iff_le, Int.not_lt, Int.not_le] at hc59
      refine c_skip (x_then (hK20 _ _ ?_))
      clear hK20 K20
      refine forget [(0, _), (7, _), (13, _)] ⟨rfl, rfl, rfl, trivial⟩ (fun e => ?_)
      refine c_seq (fun K22 hK22 => ?_)
      refine c_block ?_
      refine c_piL 9 [(0, false), (1, false), (2, false), (3, false), (4, false), (5, false), (6, false), (7, false), (8, false)] (fun w' => Blk w'.heap N.e [ptr N.f, ptr N.M.k, icv n0] 101 ∧ Blk w'.heap xb (rws stc FL) 9) mixed (by kernel_rfl) rfl (by kernel_rfl) (po_blk (po_then (po_then (po_blk (po_then (po_bp)))))) (⟨hE, hU⟩) ?_ -- region 17 editm.go:65
      refine ql_ro rfl (fun w hS => ro_move rfl) ?_
      refine ql_ro rfl (fun w hS => ro_nilCheck rfl) ?_
      refine ql_ro rfl (fun w hS => ro_fieldAddr (k := 1) rfl fo_101_1) ?_
      refine ql_ro rfl (fun w hS => ro_loadB rfl sc_98 (hS.1) (rfl)) ?_
      refine ql_ro rfl (fun w hS => ro_move rfl) ?_
      refine ql_ro rfl (fun w hS => ro_move rfl) ?_
      refine ql_ro rfl (fun w hS => ro_move rfl) ?_
      refine ql_ro rfl (fun w hS => ro_indexAddr (et := 9) (k := 1) rfl rfl se_56 (rfl) ((by omega))) ?_
      refine ql_ro rfl (fun w hS => ro_loadB rfl sc_9 (hS.2) ((rw_get stc_len (tF_get (T := FL) (c := i) (by omega)) (j := 0) (by omega) rfl))) ?_
      refine ql_lastC rfl rfl en_68 (Set68G (raw := tF FL i) b3 (by show N.c ≤ u9.heap.size; omega) (by omega) (hmv.far b3 (Fram.drew none' u9 _) (fun _ _ _ q ↦ q) (fun q ↦ q))) ?_
      rintro _ u10 ⟨rfl, ⟨sb1, SL1, hs1, hmv1⟩, G10⟩
      rw [setS_st hc59, hFg i hc59] at hmv1
      replace hs1 : sb1 = sb2 ∨ u9.heap.size ≤ sb1 := hs1
      replace hF := (hF.trans ((Fram.drew none' u9 _).mono (fun _ _ h => h.elim))).trans (G10.mono (fun k _ hk => ⟨by have := hk.1; omega, by have := hk.2; omega⟩))
      replace hE := G10.blkF hE (fun q => by have := q.2; omega)
      replace hU := G10.blkF hU (fun q => by have := q.2; omega)
      replace hfm := (hfm.far (Fram.drew none' u9 _) (fun q => q)).far G10 (fun q => by have := q.1; omega)
      refine x_blk (x_then (hK22 _ _ ?_))
      clear hK22 K22
      refine c_reg ?_ -- region 16 editm.go:64
      refine wl (ro_move rfl) ?_
      refine wl (ro_arith (r := ((i + 1 : Nat) : Int)) rfl rfl rfl (Go.IntWalk.i64_in _ (by omega))) ?_
      refine wl (ro_assign rfl) ?_
      refine wl_nil (x_then ?_)
      exact ⟨24 - (i + 1), by omega, i + 1, sb1, SL1, rfl, by omega, by omega, hU, hE, hfm, hmv1, by omega, hF, kp _ ⟨rfl, rfl, rfl, trivial⟩⟩
    · try simp only [decide_eq_true_eq, decide_eq_false_iff_not, Bool.not_eq_true', Bool.not_eq_false', Bool.not_eq_eq_eq_not, Bool.not_true, Bool.not_false, beq_iff_eq, bne_iff_ne, ne_eq, beq_eq_false_iff_ne, bne_eq_false_iff_eq, gt_iff_lt, ge_iff_le, Int.not_lt, Int.not_le] at hc59
      refine c_exit (x_thenX (x_thenX (x_blkX (x_then (hK18 _ _ ?_)))))
      clear hK20 K20 hK18 K18
      refine forget [] trivial (fun e => ?_)
      refine c_seq (fun K23 hK23 => ?_)
      refine c_reg ?_ -- region 18 editm.go:67
      refine wl (ro_assign rfl) ?_
      refine wl_nil (x_then (hK23 _ _ ?_))
      clear hK23 K23
      refine c_ret ?_
      refine bp_ret Tryz.results48 rfl ?_
      have : i = 24 := by omega
      subst this
      exact ⟨rfl, ⟨sb2, SL, hsn, ⟨n0, hE⟩, hfm, hmv, hs⟩, hF⟩

theorem Copy50N {w : World} {k : Nat} {s d : Int} (hc : s < 0 ∨ 24 ≤ s ∨ d < 0 ∨ 24 ≤ d) : Ret Tryz.prog 50 [ptr k, icv s, icv d] w (fun v w' => v = icv 9 ∧ w' = w) := by
  refine ret_of Tryz.func50 rfl Tryz.ntmps50 rfl ?_
  refine c_seq (fun K1 hK1 => ?_)
  refine c_reg ?_ -- region 0 editm.go:70
  refine wl (ro_assign rfl) ?_
  refine wl_nil (x_then (hK1 _ _ ?_))
  clear hK1 K1
  refine c_seq (fun K2 hK2 => ?_)
  refine c_seq (fun K3 hK3 => ?_)
  refine c_reg ?_ -- region 1 editm.go:71
  refine wl (ro_move rfl) ?_
  refine wl (ro_cmp (r := decide (s < 0)) rfl rfl rfl) ?_
  refine wl_fork rfl (fun hg13 => ?_) (fun hg13 => ?_)
  · try simp only [decide_eq_true_eq, decide_eq_false_iff_not, Bool.not_eq_true', Bool.not_eq_false', Bool.not_eq_eq_eq_not, Bool.not_true, Bool.not_false, beq_iff_eq, bne_iff_ne, ne_eq, beq_eq_false_iff_ne, bne_eq_false_iff_eq, gt_iff_lt, ge_iff_le, Int.not_lt, Int.not_le] at hg13
    refine wlg_no rfl ?_
    refine wlg_no rfl ?_
    refine wl (ro_pick rfl rfl rfl) ?_
    refine wl (ro_move rfl) ?_
    refine wlg_no rfl ?_
    refine wlg_no rfl ?_
    refine wl (ro_pick rfl rfl rfl) ?_
    refine wl (ro_move rfl) ?_
    refine wlg_no rfl ?_
    refine wlg_no rfl ?_
    refine wl (ro_pick rfl rfl rfl) ?_
    refine wl_nil (x_then (hK3 _ _ ?_))
    clear hK3 K3
    refine wc_condT rfl ?_
    refine c_seq (fun K4 hK4 => ?_)
    refine c_reg ?_ -- region 2 editm.go:72
    refine wl (ro_assign rfl) ?_
    refine wl_nil (x_then (hK4 _ _ ?_))
    clear hK4 K4
    refine c_ret (x_thenR ?_)
    refine bp_ret Tryz.results50 rfl ?_
    exact ⟨rfl, rfl⟩
  · try simp only [decide_eq_true_eq, decide_eq_false_iff_not, Bool.not_eq_true', Bool.not_eq_false', Bool.not_eq_eq_eq_not, Bool.not_true, Bool.not_false, beq_iff_eq, bne_iff_ne, ne_eq, beq_eq_false_iff_ne, bne_eq_false_iff_eq, gt_iff_lt, ge_iff_le, Int.not_lt, Int.not_le] at hg13
    refine wlg_yes rfl (ro_move rfl) ?_
    refine wlg_yes rfl (ro_cmp (r := decide (24 ≤ s)) rfl rfl rfl) ?_
    refine wl (ro_pick rfl rfl rfl) ?_
    refine wl_fork rfl (fun hg17 => ?_) (fun hg17 => ?_)
    · try simp only [decide_eq_true_eq, decide_eq_false_iff_not, Bool.not_eq_true', Bool.not_eq_false', Bool.not_eq_eq_eq_not, Bool.not_true, Bool.not_false, beq_iff_eq, bne_iff_ne, ne_eq, beq_eq_false_iff_ne, bne_eq_false_iff_eq, gt_iff_lt, ge_iff_le, Int.not_lt, Int.not_le] at hg17
      refine wlg_no rfl ?_
      refine wlg_no rfl ?_
      refine wl (ro_pick rfl rfl rfl) ?_
      refine wl (ro_move rfl) ?_
      refine wlg_no rfl ?_
      refine wlg_no rfl ?_
      refine wl (ro_pick rfl rfl rfl) ?_
      refine wl_nil (x_then (hK3 _ _ ?_))
      clear hK3 K3
      refine wc_condT rfl ?_
      refine c_seq (fun K5 hK5 => ?_)
      refine c_reg ?_ -- region 2 editm.go:72
      refine wl (ro_assign rfl) ?_
      refine wl_nil (x_then (hK5 _ _ ?_))
      clear hK5 K5
      refine c_ret (x_thenR ?_)
      refine bp_ret Tryz.results50 rfl ?_
      exact ⟨rfl, rfl⟩
    · try simp only [decide_eq_true_eq, decide_eq_false_iff_not, Bool.not_eq_true', Bool.not_eq_false', Bool.not_eq_eq_eq_not, Bool.not_true, Bool.not_false, beq_iff_eq, bne_iff_ne, ne_eq, beq_eq_false_iff_ne, bne_eq_false_iff_eq, gt_iff_lt, ge_iff_le, Int.not_lt, Int.not_le] at hg17
      refine wlg_yes rfl (ro_move rfl) ?_
      refine wlg_yes rfl (ro_cmp (r := decide (d < 0)) rfl rfl rfl) ?_
      refine wl (ro_pick rfl rfl rfl) ?_
      refine wl_fork rfl (fun hg21 => ?_) (fun hg21 => ?_)
      · try simp only [decide_eq_true_eq, decide_eq_false_iff_not, Bool.not_eq_true', Bool.not_eq_false', Bool.not_eq_eq_eq_not, Bool.not_true, Bool.not_false, beq_iff_eq, bne_iff_ne, ne_eq, beq_eq_false_iff_ne, bne_eq_false_iff_eq, gt_iff_lt, ge_iff_le, Int.not_lt, Int.not_le] at hg21
        refine wlg_no rfl ?_
        refine wlg_no rfl ?_
        refine wl (ro_pick rfl rfl rfl) ?_
        refine wl_nil (x_then (hK3 _ _ ?_))
        clear hK3 K3
        refine wc_condT rfl ?_
        refine c_seq (fun K6 hK6 => ?_)
        refine c_reg ?_ -- region 2 editm.go:72
        refine wl (ro_assign rfl) ?_
        refine wl_nil (x_then (hK6 _ _ ?_))
        clear hK6 K6
        refine c_ret (x_thenR ?_)
        refine bp_ret Tryz.results50 rfl ?_
        exact ⟨rfl, rfl⟩
      · try simp only [decide_eq_true_eq, decide_eq_false_iff_not, Bool.not_eq_true', Bool.not_eq_false', Bool.not_eq_eq_eq_not, Bool.not_true, Bool.not_false, beq_iff_eq, bne_iff_ne, ne_eq, beq_eq_false_iff_ne, bne_eq_false_iff_eq, gt_iff_lt, ge_iff_le, Int.not_lt, Int.not_le] at hg21
        refine wlg_yes rfl (ro_move rfl) ?_
        refine wlg_yes rfl (ro_cmp (r := true) rfl rfl (congrArg some (decide_eq_true (by omega)))) ?_
        refine wl (ro_pick rfl rfl rfl) ?_
        refine wl_nil (x_then (hK3 _ _ ?_))
        clear hK3 K3
        refine wc_condT rfl ?_
        refine c_seq (fun K7 hK7 => ?_)
        refine c_reg ?_ -- region 2 editm.go:72
        refine wl (ro_assign rfl) ?_
        refine wl_nil (x_then (hK7 _ _ ?_))
        clear hK7 K7
        refine c_ret (x_thenR ?_)
        refine bp_ret Tryz.results50 rfl ?_
        exact ⟨rfl, rfl⟩
set_option maxHeartbeats 16000000 in
theorem Copy50 {w : World} {N : EM} {lo hi sb s d : Nat} {T : List Tx} {SL : List Vl} (hb : NaB lo hi N) (hhi : hi ≤ w.heap.size) (h : NaV w N hi sb T SL) (hs : s < 24) (hd : d < 24) :
    Ret Tryz.prog 50 [ptr N.e, i64c s, i64c d] w (fun v w' => v = icv (if 40 < (cpyT T s d).length then 1 else 0) ∧ (∃ sb' SL', (sb' = sb ∨ w.heap.size ≤ sb') ∧ NaV w' N hi sb' (stT T d (cpyT T s d)) SL') ∧ Fram (rng lo hi) w w') := by
  have hF : Fram (rng lo hi) w w := Fram.refl _ _
  have hT40 := h.ok
  obtain ⟨⟨n0, hE⟩, hfm, hmv, hsb⟩ := h
  have h0 := hb.mc
  obtain ⟨b1, b2, b3, b4, b5⟩ := hb
  have hfe : N.f < N.e := by omega
  have hsbl := hmv.hV.lt
  have hsv : N.m < N.M.v ∧ N.M.v < N.M.k ∧ N.M.k < N.c := by have := b3; unfold MaB at this; omega
  generalize hraw : cpyT T s d = raw
  unfold cpyT at hraw
  generalize hdc : (((d % 4 : Nat) : Int) - ((s % 4 : Nat) : Int)) = dc at hraw
  generalize hdr : (((d / 4 : Nat) : Int) - ((s / 4 : Nat) : Int)) = dr at hraw
  have hbd : -10 ≤ dc ∧ dc ≤ 10 ∧ -10 ≤ dr ∧ dr ≤ 10 := by omega
  have hse : setE (d : Int) raw = if 40 < raw.length then 1 else 0 := by unfold setE; rw [if_neg (show ¬ ((d : Int) < 0 ∨ 24 ≤ (d : Int)) by omega)]
  refine ret_of Tryz.func50 rfl Tryz.ntmps50 rfl ?_
  refine c_seq (fun K1 hK1 => ?_)
  refine c_reg ?_ -- region 0 editm.go:70
  refine wl (ro_assign rfl) ?_
  refine wl_nil (x_then (hK1 _ _ ?_))
  clear hK1 K1
  refine c_seq (fun K2 hK2 => ?_)
  refine c_seq (fun K3 hK3 => ?_)
  refine c_reg ?_ -- region 1 editm.go:71
  refine wl (ro_move rfl) ?_
  refine wl (ro_cmp (r := false) rfl rfl (congrArg some (decide_eq_false (by omega)))) ?_
  refine wl (ro_move rfl) ?_
  refine wlg_yes rfl (ro_move rfl) ?_
  refine wlg_yes rfl (ro_cmp (r := false) rfl rfl (congrArg some (decide_eq_false (by omega)))) ?_
  refine wl (ro_pick rfl rfl rfl) ?_
  refine wl (ro_move rfl) ?_
  refine wlg_yes rfl (ro_move rfl) ?_
  refine wlg_yes rfl (ro_cmp (r := false) rfl rfl (congrArg some (decide_eq_false (by omega)))) ?_
  refine wl (ro_pick rfl rfl rfl) ?_
  refine wl (ro_move rfl) ?_
  refine wlg_yes rfl (ro_move rfl) ?_
  refine wlg_yes rfl (ro_cmp (r := false) rfl rfl (congrArg some (decide_eq_false (by omega)))) ?_
  refine wl (ro_pick rfl rfl rfl) ?_
  refine wl_nil (x_then (hK3 _ _ ?_))
  clear hK3 K3
  refine wc_condF rfl ?_
  refine c_skip (x_then (hK2 _ _ ?_))
  clear hK2 K2
  refine forget [(0, _), (1, _), (2, _)] ⟨rfl, rfl, rfl, trivial⟩ (fun e => ?_)
  refine c_seq (fun K4 hK4 => ?_)
  refine c_reg ?_ -- region 3 editm.go:74
  refine wl (ro_move rfl) ?_
  refine wl (ro_nilCheck rfl) ?_
  refine wl (ro_fieldAddr (k := 1) rfl fo_101_1) ?_
  refine wl (ro_loadB rfl sc_98 (by assumption) rfl) ?_
  refine wl (ro_move rfl) ?_
  refine wl_call rfl en_77 (Raw77G hmv) ?_
  rintro _ u0 ⟨rfl, hw0⟩
  rw [getS_nat hs, hw0]
  clear hw0 u0
  refine wl (ro_assign rfl) ?_
  refine wl_nil (x_then (hK4 _ _ ?_))
  clear hK4 K4
  refine forget [(0, _), (1, _), (2, _), (7, _)] ⟨rfl, rfl, rfl, rfl, trivial⟩ (fun e => ?_)
  refine c_seq (fun K5 hK5 => ?_)
  cases hp : opR (tF T s)
  · skip
    refine c_reg ?_ -- region 4 editm.go:75
    refine wl (ro_move rfl) ?_
    refine wl (ro_move rfl) ?_
    refine wl_call rfl en_78 (tree78 hfe hE hfm (hT40.le s)) ?_
    rintro _ u5 ⟨⟨cs, rfl, hTr⟩, hfm5, G5⟩
    rw [hp] at hTr ⊢
    have hform := hTr.form
    have hfi2 : tF T s = raw := by rw [← hraw]; unfold rwT; rw [hp]
    have hsz5 := G5.size
    have hEl := hE.lt
    replace hF := hF.trans (G5.mono (fun k _ hk => by have : k = N.f := hk; exact ⟨by omega, by omega⟩))
    replace hE := G5.blkF hE (fun q => absurd (show N.e = N.f from q) (by omega))
    replace hmv := hmv.far b3 G5 (fun b q1 q2 q => absurd (show b = N.f from q) (by omega)) (fun q => absurd (show sb = N.f from q) (by omega))
    clear hfm
    refine wl (ro_move rfl) ?_
    refine wl (ro_extract rfl rfl) ?_
    refine wl (ro_extract rfl rfl) ?_
    refine wl_new (ze_113) (fun b8 w1 hbb8 h8 F1 => ?_)
    have hbsb8 := Nat.le_trans hF.size hbb8
    have hneN.eb8 : N.e < b8 := Nat.lt_of_lt_of_le hE.lt hbb8
    replace hF := hF.thenDrew.thenN F1
    replace hE := F1.blkN hE
    replace hfm5 := hfm5.far F1 (fun q ↦ q)
    replace hmv := hmv.far b3 F1 (fun _ _ _ q ↦ q) (fun q ↦ q)
    refine wl_puta rfl rfl (hform.2) sz_113 (hform.1) h8 ((by simp)) ((by simp; rfl)) (fun w2 h8 F2 => ?_)
    replace hF := hF.thenDrew.thenO F2 (by first | exact .inr (by omega) | exact .inl rfl | exact .inl (by assumption))
    replace hE := F2.blkO hE (by omega)
    replace hfm5 := hfm5.far F2 (fun hh ↦ absurd (show N.f = b8 from hh) (by omega))
    replace hmv := hmv.far b3 F2 (fun b q1 q2 hh ↦ absurd (show b = b8 from hh) (by omega)) (fun hh ↦ absurd (show sb = b8 from hh) (by omega))
    refine wl (ro_assign rfl) ?_
    refine wl_nil (x_then (hK5 _ _ ?_))
    clear hK5 K5
    refine c_seq (fun K6 hK6 => ?_)
    refine c_seq (fun K7 hK7 => ?_)
    refine c_reg ?_ -- region 5 editm.go:76
    refine wl (ro_move rfl) ?_
    refine wl_nil (x_then (hK7 _ _ ?_))
    clear hK7 K7
    refine wc_condF rfl ?_
    refine c_skip (x_then (hK6 _ _ ?_))
    clear hK6 K6
    refine forget [(0, _), (2, _), (7, _)] ⟨rfl, rfl, rfl, trivial⟩ (fun e => ?_)
    refine c_seq (fun K8 hK8 => ?_)
    refine c_reg ?_ -- region 8 editm.go:80
    refine wl (ro_move rfl) ?_
    refine wl (ro_nilCheck rfl) ?_
    refine wl (ro_fieldAddr (k := 1) rfl fo_101_1) ?_
    refine wl (ro_loadB rfl sc_98 (by assumption) rfl) ?_
    refine wl (ro_move rfl) ?_
    refine wl (ro_move rfl) ?_
    refine wl_call rfl en_68 (Set68G b3 (by have := hF.size; omega) (by omega) hmv) ?_
    rintro _ u8 ⟨rfl, ⟨sb1, SL1, hs1, hmv1⟩, G8⟩
    have hsz8 := hF.size
    replace hfm5 := hfm5.far G8 (fun q => by have := q.1; omega)
    replace hE := G8.blkF hE (fun q => by have := q.2; omega)
    replace hF := hF.trans (G8.mono (fun k _ hk => ⟨by have := hk.1; omega, by have := hk.2; omega⟩))
    refine wl (ro_assign rfl) ?_
    refine wl_nil (x_then (hK8 _ _ ?_))
    clear hK8 K8
    refine c_ret ?_
    refine bp_ret Tryz.results50 rfl ?_
    rw [hfi2, setS_st hd] at hmv1
    rw [hfi2, hse]
    exact ⟨rfl, ⟨sb1, SL1, by omega, ⟨_, hE⟩, hfm5, hmv1, by omega⟩, hF⟩
  · skip
    rename_i n
    obtain ⟨hDn, hAn⟩ := opR_ok hp
    have hn1 : 1 ≤ n.length := hDn.1
    have hn24 : n.length ≤ 24 := hDn.2.1
    refine c_reg ?_ -- region 4 editm.go:75
    refine wl (ro_move rfl) ?_
    refine wl (ro_move rfl) ?_
    refine wl_call rfl en_78 (tree78 hfe hE hfm (hT40.le s)) ?_
    rintro _ u5 ⟨⟨cs, rfl, hTr⟩, hfm5, G5⟩
    rw [hp] at hTr ⊢
    have hform := hTr.form
    obtain ⟨qb, rfl, hqb, hQ⟩ := hTr
    have hfi2 : 61 :: textF (n.map (cyN dc dr)) = raw := by rw [← hraw]; unfold rwT; rw [hp]
    have hsz5 := G5.size
    have hQl := hQ.lt
    have hEl := hE.lt
    replace hF := hF.trans (G5.mono (fun k _ hk => by have : k = N.f := hk; exact ⟨by omega, by omega⟩))
    replace hE := G5.blkF hE (fun q => absurd (show N.e = N.f from q) (by omega))
    replace hmv := hmv.far b3 G5 (fun b q1 q2 q => absurd (show b = N.f from q) (by omega)) (fun q => absurd (show sb = N.f from q) (by omega))
    clear hfm
    refine wl (ro_move rfl) ?_
    refine wl (ro_extract rfl rfl) ?_
    refine wl (ro_extract rfl rfl) ?_
    refine wl_new (ze_113) (fun b8 w3 hbb8 h8 F3 => ?_)
    have hbsb8 := Nat.le_trans hF.size hbb8
    have hneN.eb8 : N.e < b8 := Nat.lt_of_lt_of_le hE.lt hbb8
    have hneqbb8 : qb < b8 := Nat.lt_of_lt_of_le hQ.lt hbb8
    replace hF := hF.thenDrew.thenN F3
    replace hE := F3.blkN hE
    replace hQ := F3.blkN hQ
    replace hfm5 := hfm5.far F3 (fun q ↦ q)
    replace hmv := hmv.far b3 F3 (fun _ _ _ q ↦ q) (fun q ↦ q)
    refine wl_puta rfl rfl (hform.2) sz_113 (hform.1) h8 ((by simp)) ((by simp; rfl)) (fun w4 h8 F4 => ?_)
    replace hF := hF.thenDrew.thenO F4 (by first | exact .inr (by omega) | exact .inl rfl | exact .inl (by assumption))
    replace hE := F4.blkO hE (by omega)
    replace hQ := F4.blkO hQ (by omega)
    replace hfm5 := hfm5.far F4 (fun hh ↦ absurd (show N.f = b8 from hh) (by omega))
    replace hmv := hmv.far b3 F4 (fun b q1 q2 hh ↦ absurd (show b = b8 from hh) (by omega)) (fun hh ↦ absurd (show sb = b8 from hh) (by omega))
    refine wl (ro_assign rfl) ?_
    refine wl_nil (x_then (hK5 _ _ ?_))
    clear hK5 K5
    refine c_seq (fun K9 hK9 => ?_)
    refine c_seq (fun K10 hK10 => ?_)
    refine c_reg ?_ -- region 5 editm.go:76
    refine wl (ro_move rfl) ?_
    refine wl_nil (x_then (hK10 _ _ ?_))
    clear hK10 K10
    refine wc_condT rfl ?_
    refine c_seq (fun K11 hK11 => ?_)
    refine c_reg ?_ -- region 6 editm.go:77
    refine wl (ro_loadAggB rfl ag_113 (h8) (rfl) (rfl)) ?_
    refine wl (ro_move rfl) ?_
    refine wl (ro_remN (b := 4) rfl rfl (by omega)) ?_
    refine wl (ro_move rfl) ?_
    refine wl (ro_remN (b := 4) rfl rfl (by omega)) ?_
    refine wl (ro_arith (r := dc) rfl rfl (congrArg some hdc) (Go.IntWalk.i64_in _ (by omega))) ?_
    refine wl (ro_move rfl) ?_
    refine wl (ro_quoN (b := 4) rfl rfl (by omega) (by omega)) ?_
    refine wl (ro_move rfl) ?_
    refine wl (ro_quoN (b := 4) rfl rfl (by omega) (by omega)) ?_
    refine wl (ro_arith (r := dr) rfl rfl (congrArg some hdr) (Go.IntWalk.i64_in _ (by omega))) ?_
    refine wl_call rfl en_82 (Copied82 hAn hbd hn1 hn24 hQ) ?_
    rintro _ u6 ⟨⟨qb2, rfl, hqb2, hQ2⟩, G6⟩
    have hszF := hF.size
    replace hF := hF.transG G6 (by intro k hk h; simp only [none', rng, one] at h ⊢ <;> omega)
    replace hE := G6.blkF hE (by intro h; simp only [none', rng, one] at h <;> omega)
    replace hQ := G6.blkF hQ (by intro h; simp only [none', rng, one] at h <;> omega)
    replace h8 := G6.blkF h8 (by intro h; simp only [none', rng, one] at h <;> omega)
    have hQ2l := hQ2.lt
    replace hfm5 := hfm5.far G6 (fun q => q)
    replace hmv := hmv.far b3 G6 (fun _ _ _ q => q) (fun q => q)
    refine wl_new (ze_113) (fun b10 w5 hbb10 h10 F5 => ?_)
    have hbsb10 := Nat.le_trans hF.size hbb10
    have hneN.eb10 : N.e < b10 := Nat.lt_of_lt_of_le hE.lt hbb10
    have hneqbb10 : qb < b10 := Nat.lt_of_lt_of_le hQ.lt hbb10
    have hneb8b10 : b8 < b10 := Nat.lt_of_lt_of_le h8.lt hbb10
    have hneqb2b10 : qb2 < b10 := Nat.lt_of_lt_of_le hQ2.lt hbb10
    replace hF := hF.thenDrew.thenN F5
    replace hE := F5.blkN hE
    replace hQ := F5.blkN hQ
    replace h8 := F5.blkN h8
    replace hQ2 := F5.blkN hQ2
    replace hfm5 := hfm5.far F5 (fun q ↦ q)
    replace hmv := hmv.far b3 F5 (fun _ _ _ q ↦ q) (fun q ↦ q)
    refine wl_puta rfl rfl ((trc_cells _ _)) sz_113 (rfl) h10 ((by simp)) ((show _ = trc qb2 (n.map (cyN dc dr)) from rfl)) (fun w6 h10 F6 => ?_)
    replace hF := hF.thenDrew.thenO F6 (by first | exact .inr (by omega) | exact .inl rfl | exact .inl (by assumption))
    replace hE := F6.blkO hE (by omega)
    replace hQ := F6.blkO hQ (by omega)
    replace h8 := F6.blkO h8 (by omega)
    replace hQ2 := F6.blkO hQ2 (by omega)
    replace hfm5 := hfm5.far F6 (fun hh ↦ absurd (show N.f = b10 from hh) (by omega))
    replace hmv := hmv.far b3 F6 (fun b q1 q2 hh ↦ absurd (show b = b10 from hh) (by omega)) (fun hh ↦ absurd (show sb = b10 from hh) (by omega))
    refine wl_nil (x_then (hK11 _ _ ?_))
    clear hK11 K11
    refine c_reg ?_ -- region 7 editm.go:78
    refine wl (ro_move rfl) ?_
    refine wl (ro_loadAggB rfl ag_113 (h10) (rfl) (rfl)) ?_
    refine wl_call rfl en_80 (text80 (n := n.map (cyN dc dr)) (trc_V (by rw [List.length_map]; exact hn1) qb2) hfe hE hfm5 (done_map cy_gok hDn) (aok_map (fun x hx ↦ cy_nm hx) hAn) (by omega) hQ2) ?_
    rintro _ u7 ⟨rfl, hfm7, G7⟩
    replace hF := hF.trans (G7.mono (fun k _ hk => by have : k = N.f := hk; exact ⟨by omega, by omega⟩))
    replace hE := G7.blkF hE (fun q => absurd (show N.e = N.f from q) (by omega))
    replace hmv := hmv.far b3 G7 (fun b q1 q2 q => absurd (show b = N.f from q) (by omega)) (fun q => absurd (show sb = N.f from q) (by omega))
    clear hfm5 h8 h10 hQ hQ2
    have hfm5 := hfm7
    rw [hfi2]
    refine wl (ro_assign rfl) ?_
    refine wl_nil (x_then (hK9 _ _ ?_))
    clear hK9 K9
    refine forget [(0, _), (2, _), (7, _)] ⟨rfl, rfl, rfl, trivial⟩ (fun e => ?_)
    refine c_seq (fun K12 hK12 => ?_)
    refine c_reg ?_ -- region 8 editm.go:80
    refine wl (ro_move rfl) ?_
    refine wl (ro_nilCheck rfl) ?_
    refine wl (ro_fieldAddr (k := 1) rfl fo_101_1) ?_
    refine wl (ro_loadB rfl sc_98 (by assumption) rfl) ?_
    refine wl (ro_move rfl) ?_
    refine wl (ro_move rfl) ?_
    refine wl_call rfl en_68 (Set68G b3 (by have := hF.size; omega) (by omega) hmv) ?_
    rintro _ u8 ⟨rfl, ⟨sb1, SL1, hs1, hmv1⟩, G8⟩
    have hsz8 := hF.size
    replace hfm5 := hfm5.far G8 (fun q => by have := q.1; omega)
    replace hE := G8.blkF hE (fun q => by have := q.2; omega)
    replace hF := hF.trans (G8.mono (fun k _ hk => ⟨by have := hk.1; omega, by have := hk.2; omega⟩))
    refine wl (ro_assign rfl) ?_
    refine wl_nil (x_then (hK12 _ _ ?_))
    clear hK12 K12
    refine c_ret ?_
    refine bp_ret Tryz.results50 rfl ?_
    rw [setS_st hd] at hmv1
    rw [hse]
    exact ⟨rfl, ⟨sb1, SL1, by omega, ⟨_, hE⟩, hfm5, hmv1, by omega⟩, hF⟩
theorem New29 {w : World} : Ret Tryz.prog 29 [] w (fun v w' => (∃ N : EM, v = ptr N.e ∧ NaB w.heap.size w'.heap.size N ∧ ∃ sb, NaV w' N w'.heap.size sb zL (List.replicate 24 vZ)) ∧ Fram none' w w') := by
  refine ret_of Tryz.func29 rfl Tryz.ntmps29 rfl ?_
  refine c_seq (fun K1 hK1 => ?_)
  refine c_reg ?_ -- region 0 editm.go:16
  refine wl (ro_assign rfl) ?_
  refine wl_nil (x_then (hK1 _ _ ?_))
  clear hK1 K1
  refine forget [] trivial (fun e => ?_)
  refine c_seq (fun K2 hK2 => ?_)
  refine c_reg ?_ -- region 1 editm.go:17
  refine wl_call rfl en_56 (New56) ?_
  rintro _ u1 ⟨fb, rfl, hfb, hfm, G1⟩
  have hfl : fb < u1.heap.size := by (obtain ⟨_, _, _, q⟩ := hfm; exact q.lt)
  refine wl (ro_assign rfl) ?_
  refine wl_nil (x_then (hK2 _ _ ?_))
  clear hK2 K2
  refine forget [(1, _)] ⟨rfl, trivial⟩ (fun e => ?_)
  refine c_seq (fun K3 hK3 => ?_)
  refine c_reg ?_ -- region 2 editm.go:18
  refine wl_call rfl en_57 (New57) ?_
  rintro _ u2 ⟨⟨M, sb, rfl, hM, hs1, hs2, hmv⟩, G2⟩
  replace hfm := hfm.far G2 (fun q => q)
  refine wl (ro_assign rfl) ?_
  refine wl_nil (x_then (hK3 _ _ ?_))
  clear hK3 K3
  refine forget [(1, _), (2, _)] ⟨rfl, rfl, trivial⟩ (fun e => ?_)
  refine c_seq (fun K4 hK4 => ?_)
  refine c_reg ?_ -- region 3 editm.go:19
  refine wl (ro_move rfl) ?_
  refine wl (ro_move rfl) ?_
  refine wl (ro_build rfl bld_101_0_1) ?_
  refine wl_box rfl rfl (fun eb w1 hbeb hE F1 => ?_)
  replace hfm := hfm.far F1 (fun q ↦ q)
  replace hmv := hmv.far hM F1 (fun _ _ _ q ↦ q) (fun q ↦ q)
  refine wl (ro_assign rfl) ?_
  refine wl_nil (x_then (hK4 _ _ ?_))
  clear hK4 K4
  refine c_ret ?_
  refine bp_ret Tryz.results29 rfl ?_
  have hEl := hE.lt
  have hz1 := G1.size
  have hz2 := G2.size
  refine ⟨⟨⟨eb, fb, u1.heap.size, u2.heap.size, M⟩, rfl, ⟨hfb, hfl, hM, by assumption, hEl⟩, sb, ⟨_, hE⟩, hfm, hmv, .inr ⟨hs1, hs2⟩⟩, (G1.trans G2).trans F1⟩

end Go.Proofs.Qxb6500570aGreat
