import Derived.Test.Qxb6500568aGreatDoorYy
import Derived.Test.Qxb6500568aGreatDoorXr
/- The interpreter's door: Run. -/
namespace Go.Proofs.Qxb6500568aGreatDoor
open Ieee
set_option linter.unusedVariables false
set_option linter.unusedSimpArgs false
set_option linter.unusedSectionVars false

theorem prsV_ok {s : Str} {t : Tr} {k : Nat} (h : prsV s = .inr (t, k)) : TrOK t k ∧ ndT t ≤ 300 := by
  unfold prsV at h
  split at h
  · cases h
  · split at h
    · cases h
    · rename_i t' s' he
      split at h
      · cases h
      · cases h
        exact ⟨chunk_ok (f := 5 * (toks s).length + 100) (tk := toks s) (toksF_ok _ _ _) (by rw [prs_eq, he]), by omega⟩
/-- an answer's cells. -/
def anc (A : Ans) : List Value := [i64c A.E, i64c A.N, i64c A.M, S A.S, S A.T]
/-- What a run of a text answers. -/
def RunR (s : Str) (fuel : Nat) (r : Value) : Prop := match prsV s with
  | .inl (e, p) => r = .agg (anc ⟨e, p, 0, [], []⟩).toArray
  | .inr (t, k) => ∃ A, IAns (arena t) (rt t 1) fuel A ∧ r = .agg (anc A).toArray
theorem OwT.re {w : World} {ow ow' : Nat → Nat} {tag tag' : Nat} {v : Value} {e k n : Nat} {xs : List Value} (h : OwT w ow tag v e k n xs) (q : ∀ b, v.ownBlock = some b → ow' b = tag') : OwT w ow' tag' v e k n xs := ⟨h.o, q⟩
theorem arena_ne (t : Tr) : 0 < (arena t).length := Nat.succ_pos _

theorem btg_mt {w : World} {ow : Nat → Nat} {b : Nat} (h : mtag (btg w ow b)) : mtag (ow b) := btg_cm (.inr (.inr (.inr h)))
theorem mt_loc {w w' : World} {ow ow' : Nat → Nat} {b tag t : Nat} {l : List Value} (hE : Xt w ow ow') (f : Fram (tg ow mtag) w w') (h : Blk w.heap b l t) (ht : ow b = tag) (hn : ¬ mtag tag) : Blk w'.heap b l t ∧ ow' b = tag :=
  ⟨f.blkF h (fun z => by have z : mtag (ow b) := z; rw [ht] at z; exact hn z), by rw [hE b h.lt]; exact ht⟩
theorem mt_trans {w0 w w' : World} {ow0 ow : Nat → Nat} (h0 : Xt w0 (btg w0 ow0) ow) (f0 : Fram (tg ow0 mtag) w0 w) (f : Fram (tg ow mtag) w w') : Fram (tg ow0 mtag) w0 w' := f0.transG f (fun b hb q => by
  have q : mtag (ow b) := q
  rw [h0 b hb] at q
  exact btg_mt q)
theorem nm66 : ¬ mtag 66 := by unfold mtag; omega
theorem nm67 : ¬ mtag 67 := by unfold mtag; omega
theorem nm70 : ¬ mtag 70 := by unfold mtag; omega
theorem glob_eq : glob = [gl 11] := rfl
theorem ct_trans {w0 w w' : World} {ow0 ow : Nat → Nat} {d : Nat} (h0 : Xt w0 (btg w0 ow0) ow) (f0 : Fram (tg ow0 mtag) w0 w) (f : Fram (tg ow cmT) { w with drawn := d } w') : Fram (tg ow0 mtag) w0 w' := f0.transG f (fun b hb q => by
  have q : cmT (ow b) := q
  rw [h0 b hb] at q
  exact btg_cm q)
theorem back_tag {w u : World} {ow ow' : Nat → Nat} {np : Value} {tb : Nat} {T : List Tb} (hx : Xt w (btg w ow) ow') (hM : MTV u ow' np tb T) : MTV u (fun b => if b < w.heap.size then ow b else ow' b) np tb T := hM.retag (fun b hb q => by
  by_cases h : b < w.heap.size
  · rw [hx b h] at q ⊢
    have := btg_mt q
    simp only [h, if_true]
    exact (btg_m h this).symm
  · simp only [h, if_false])
theorem prsV_err {s : Str} {e p : Nat} (h : prsV s = .inl (e, p)) : e ≠ 0 := by
  unfold prsV at h
  split at h
  · cases h; decide
  · split at h
    · rename_i e' he
      cases h
      exact (chunk_err (f := 5 * (toks s).length + 100) (tk := toks s) (toksF_err _ _ _)).1 e p (by rw [prs_eq, he])
    · split at h
      · cases h; decide
      · cases h
theorem start_tabs (t : Tr) (fuel : Nat) : (istart (arena t) (rt t 1) fuel).tabs = glob := by
  unfold istart ienter
  simp only
  rw [show bindP (arena t) 4 (nd (arena t) (List.getD [((0 : Nat), (0 : Nat))] 0 (0, 0)).1).A [] _ _ = _ from bindP_zero]
  rfl
set_option maxRecDepth 20000 in
set_option maxHeartbeats 8000000 in
theorem Run23 {w : World} {ow : Nat → Nat} {cb nn tb sb nb : Nat} {T : List Tb} {s : Str} {fuel : Int} (hX0 : Blk w.heap cb [(ptr nn), ptr tb, ptr sb] 53) (hS0 : Blk w.heap sb [ptr nb] 101) (hM0 : MTV w ow (ptr nn) tb T) (hfu : fuel < 9223372036854775808) :
    Ret Tryz.prog 23 [ptr cb, S s, icv fuel] w (fun r w' => RunR s fuel.toNat r ∧ ∃ ow' T', Xt w ow ow' ∧ MTV w' ow' (ptr nn) tb T' ∧ Fram (tg ow mtag) w w') := by
  have hF : Fram none' w w := Fram.refl _ _
  have hXl := hX0.lt
  have hSl := hS0.lt
  have hMb := hM0.btg
  have htl : tb < w.heap.size := by obtain ⟨V, rows, h1, -⟩ := hM0.ex; exact h1.lt
  refine ret_of Tryz.func23 rfl Tryz.ntmps23 rfl ?_
  refine c_seq (fun K1 hK1 => ?_)
  refine c_reg ?_ -- region 0 compm.go:242
  refine wl_new (ze_56) (fun b6 w1 hbb6 h6 F1 => ?_)
  have hbsb6 := Nat.le_trans hF.size hbb6
  have hnecbb6 : cb < b6 := Nat.lt_of_lt_of_le hX0.lt hbb6
  have hnesbb6 : sb < b6 := Nat.lt_of_lt_of_le hS0.lt hbb6
  replace hF := hF.thenDrew.thenN F1
  replace hX0 := F1.blkN hX0
  replace hS0 := F1.blkN hS0
  have h6lt := h6.lt
  refine wl_nil (x_then (hK1 _ _ ?_))
  clear hK1 K1
  refine forget [(0, _), (1, _), (2, _), (6, _)] ⟨rfl, rfl, rfl, rfl, trivial⟩ (fun e => ?_)
  refine c_seq (fun K2 hK2 => ?_)
  rcases hpv : prsV s with ⟨e0, p0⟩ | ⟨t0, k0⟩
  · skip
    skip
    refine c_reg ?_ -- region 1 compm.go:243
    refine wl (ro_move rfl) ?_
    refine wl (ro_nilCheck rfl) ?_
    refine wl (ro_fieldAddr (k := 2) rfl fo_53_2) ?_
    refine wl (ro_loadB rfl sc_50 (by assumption) rfl) ?_
    refine wl (ro_move rfl) ?_
    refine wl_call rfl en_27 (Parse27 (ow := ow) hS0) ?_
    rintro v1 u1 ⟨f1, hp1⟩
    unfold PrsR at hp1
    rw [hpv] at hp1
    have hp1 : v1 = .tuple #[.pointer none, i64c e0, i64c p0] := hp1
    subst hp1
    replace hX0 := f1.blkN hX0
    replace h6 := f1.blkN h6
    replace hF := hF.thenDrew.thenN f1
    clear hS0
    refine wl (ro_move rfl) ?_
    refine wl (ro_extract rfl rfl) ?_
    refine wl (ro_extract rfl rfl) ?_
    refine wl (ro_extract rfl rfl) ?_
    refine wl (ro_assign rfl) ?_
    refine wl (ro_assign rfl) ?_
    refine wl (ro_assign rfl) ?_
    refine wl_nil (x_then (hK2 _ _ ?_))
    clear hK2 K2
    refine c_seq (fun K3 hK3 => ?_)
    refine c_seq (fun K4 hK4 => ?_)
    refine c_reg ?_ -- region 2 compm.go:244
    refine wl (ro_move rfl) ?_
    refine wl (ro_cmp rfl rfl rfl) ?_
    refine wl_nil (x_then (hK4 _ _ ?_))
    clear hK4 K4
    refine wc_cond rfl (fun hc24 => ?_) (fun hc24 => ?_)
    · try simp only [decide_eq_true_eq, decide_eq_false_iff_not, Bool.not_eq_true', Bool.not_eq_false', Bool.not_eq_eq_eq_not, Bool.not_true, Bool.not_false, beq_iff_eq, bne_iff_ne, ne_eq, beq_eq_false_iff_ne, bne_eq_false_iff_eq, gt_iff_lt, ge_iff_le, Int.not_lt, Int.not_le] at hc24
      refine c_seq (fun K5 hK5 => ?_)
      refine c_reg ?_ -- region 3 compm.go:245
      refine wl (ro_move rfl) ?_
      refine wl (ro_move rfl) ?_
      refine wl (ro_build rfl bld_56_0_1) ?_
      refine wl_puta rfl rfl ((by (try exact vlc_cells _); all_goals simp [Value.oneCell', i64c, icv, u64c, u8c, ptr, S])) sz_56 (rfl) h6 ((by simp)) (rfl) (fun w2 h6 F2 => ?_)
      replace hF := hF.thenDrew.thenO F2 (by first | exact .inr (by omega) | exact .inl rfl | exact .inl (by assumption) | assumption)
      replace hX0 := F2.blkO hX0 (by omega)
      refine wl_nil (x_then (hK5 _ _ ?_))
      clear hK5 K5
      refine c_ret (x_thenR ?_)
      refine bq_ret (res1 Tryz.results23 (rv_c rfl ag_56 (h6) (rfl))) ?_
      refine ⟨?_, ow, T, Xt.refl _ _, hM0.far hF (fun _ _ _ q ↦ q) (Xt.refl _ _), hF.mono (fun _ _ q ↦ q.elim)⟩
      unfold RunR
      rw [hpv]
      rfl
    · try simp only [decide_eq_true_eq, decide_eq_false_iff_not, Bool.not_eq_true', Bool.not_eq_false', Bool.not_eq_eq_eq_not, Bool.not_true, Bool.not_false, beq_iff_eq, bne_iff_ne, ne_eq, beq_eq_false_iff_ne, bne_eq_false_iff_eq, gt_iff_lt, ge_iff_le, Int.not_lt, Int.not_le] at hc24
      have := prsV_err hpv; omega
  · skip
    obtain ⟨hTO, h300⟩ := prsV_ok hpv
    refine c_reg ?_ -- region 1 compm.go:243
    refine wl (ro_move rfl) ?_
    refine wl (ro_nilCheck rfl) ?_
    refine wl (ro_fieldAddr (k := 2) rfl fo_53_2) ?_
    refine wl (ro_loadB rfl sc_50 (by assumption) rfl) ?_
    refine wl (ro_move rfl) ?_
    refine wl_call rfl en_27 (Parse27 (ow := fun _ ↦ 66) hS0) ?_
    rintro v1 u1 ⟨f1, hp1⟩
    unfold PrsR at hp1
    rw [hpv] at hp1
    obtain ⟨tp, rfl, ⟨V, Gp, hTp, hV, hGp, hGl⟩, htt⟩ := hp1
    replace hX0 := f1.blkN hX0
    replace h6 := f1.blkN h6
    have hsz1 := hF.size
    replace hF := hF.thenDrew.thenN f1
    clear hS0
    obtain ⟨g, capV, lV, rfl, hG, hq1, hq2, hq3, hq4⟩ := hV.o.pos (by omega)
    have hgn : w.heap.size ≤ g ∧ b6 < g := by
      have := hV.t g rfl
      have hq : w1.heap.size ≤ g := by
        rcases Nat.lt_or_ge g w1.heap.size with q | q
        · rw [nw_old q] at this; exact absurd this (by decide)
        · exact q
      have := h6lt
      omega
    have htn : w.heap.size ≤ tp ∧ b6 < tp := by
      have hq : w1.heap.size ≤ tp := by
        rcases Nat.lt_or_ge tp w1.heap.size with q | q
        · rw [nw_old q] at htt; exact absurd htt (by decide)
        · exact q
      have := h6lt
      omega
    refine wl (ro_move rfl) ?_
    refine wl (ro_extract rfl rfl) ?_
    refine wl (ro_extract rfl rfl) ?_
    refine wl (ro_extract rfl rfl) ?_
    refine wl (ro_assign rfl) ?_
    refine wl (ro_assign rfl) ?_
    refine wl (ro_assign rfl) ?_
    refine wl_nil (x_then (hK2 _ _ ?_))
    clear hK2 K2
    refine c_seq (fun K6 hK6 => ?_)
    refine c_seq (fun K7 hK7 => ?_)
    refine c_reg ?_ -- region 2 compm.go:244
    refine wl (ro_move rfl) ?_
    refine wl (ro_cmp rfl rfl rfl) ?_
    refine wl_nil (x_then (hK7 _ _ ?_))
    clear hK7 K7
    refine wc_cond rfl (fun hc24 => ?_) (fun hc24 => ?_)
    · try simp only [decide_eq_true_eq, decide_eq_false_iff_not, Bool.not_eq_true', Bool.not_eq_false', Bool.not_eq_eq_eq_not, Bool.not_true, Bool.not_false, beq_iff_eq, bne_iff_ne, ne_eq, beq_eq_false_iff_ne, bne_eq_false_iff_eq, gt_iff_lt, ge_iff_le, Int.not_lt, Int.not_le] at hc24
      exact absurd rfl hc24
    · try simp only [decide_eq_true_eq, decide_eq_false_iff_not, Bool.not_eq_true', Bool.not_eq_false', Bool.not_eq_eq_eq_not, Bool.not_true, Bool.not_false, beq_iff_eq, bne_iff_ne, ne_eq, beq_eq_false_iff_ne, bne_eq_false_iff_eq, gt_iff_lt, ge_iff_le, Int.not_lt, Int.not_le] at hc24
      refine c_skip (x_then (hK6 _ _ ?_))
      clear hK6 K6
      refine forget [(0, _), (2, _), (6, _), (7, _)] ⟨rfl, rfl, rfl, rfl, trivial⟩ (fun e => ?_)
      refine c_seq (fun K8 hK8 => ?_)
      refine c_pi [(0, false), (1, false), (2, false), (3, false), (4, false), (5, false), (6, false), (7, false), (8, false), (9, false), (10, false), (11, false), (12, false), (13, false), (14, false), (15, false), (16, false), (17, true), (18, false)] (fun u => Blk u.heap cb [(ptr nn), ptr tb, ptr sb] 53 ∧ Blk u.heap tp [.slice (some ⟨g, 0, none⟩) (ndT t0 + 1) capV, i64c (rt t0 1)] 107) mixed (by kernel_rfl) rfl (by kernel_rfl) (po_then (po_bp)) (⟨hX0, hTp⟩) ?_ -- region 4 compm.go:247
      refine pi_ro rfl (fun w hS => ro_move rfl) ?_
      refine pi_ro rfl (fun w hS => ro_nilCheck rfl) ?_
      refine pi_ro rfl (fun w hS => ro_fieldAddr (k := 0) rfl fo_53_0) ?_
      refine pi_ro rfl (fun w hS => ro_loadB rfl sc_46 (hS.1) (rfl)) ?_
      refine pi_ro rfl (fun w hS => ro_move rfl) ?_
      refine pi_ro rfl (fun w hS => ro_nilCheck rfl) ?_
      refine pi_ro rfl (fun w hS => ro_fieldAddr (k := 1) rfl fo_53_1) ?_
      refine pi_ro rfl (fun w hS => ro_loadB rfl sc_48 (hS.1) (rfl)) ?_
      refine pi_ro rfl (fun w hS => ro_move rfl) ?_
      refine pi_ro rfl (fun w hS => ro_nilCheck rfl) ?_
      refine pi_ro rfl (fun w hS => ro_fieldAddr (k := 0) rfl fo_107_0) ?_
      refine pi_ro rfl (fun w hS => ro_loadB rfl sc_77 (hS.2) (rfl)) ?_
      refine pi_ro rfl (fun w hS => ro_move rfl) ?_
      refine pi_ro rfl (fun w hS => ro_nilCheck rfl) ?_
      refine pi_ro rfl (fun w hS => ro_fieldAddr (k := 1) rfl fo_107_1) ?_
      refine pi_ro rfl (fun w hS => ro_loadB rfl sc_3 (hS.2) (rfl)) ?_
      refine pi_ro rfl (fun w hS => ro_build rfl bld_112_0_1_2_3) ?_
      refine pi_box rfl rfl rfl (fun w1 F ↦ ⟨F.blkN hX0, F.blkN hTp⟩) ?_
      intro b45 w3 hbb45 h45 F3
      have hbsb45 := Nat.le_trans hF.size hbb45
      have hnecbb45 : cb < b45 := Nat.lt_of_lt_of_le hX0.lt hbb45
      have hneb6b45 : b6 < b45 := Nat.lt_of_lt_of_le h6.lt hbb45
      have hnegb45 : g < b45 := Nat.lt_of_lt_of_le hG.lt hbb45
      have hnetpb45 : tp < b45 := Nat.lt_of_lt_of_le hTp.lt hbb45
      replace hF := hF.thenDrew.thenN F3
      replace hX0 := F3.blkN hX0
      replace h6 := F3.blkN h6
      replace hG := F3.blkN hG
      replace hTp := F3.blkN hTp
      refine pi_ro rfl (fun w hS => ro_assign rfl) ?_
      refine pi_nil (x_then (hK8 _ _ ?_))
      clear hK8 K8
      refine c_mid (fun a u => Fram none' w u ∧ Blk u.heap b6 [i64c 0, i64c 0, i64c 0, S [], S []] 56 ∧ Blk u.heap g lV 148 ∧ Blk u.heap b45 (rnc (ptr nn) tb (.slice (some ⟨g, 0, none⟩) (ndT t0 + 1) capV) (rt t0 1) (.slice none 0 0) (.slice none 0 0) (i64c 0) (i64c 0) (i64c 0) (i64c 0) (i64c 0) { iS0 fuel.toNat with clos := [], ths := [] }) 112 ∧ ∃ e, a = Fr 112 (upds e [(6, ptr b6), (10, ptr b45)]) []) ?_ ?_
      · skip
        refine c_seq (fun K9 hK9 => ?_)
        refine c_reg ?_ -- region 5 compm.go:248
        refine wl (ro_move rfl) ?_
        refine wl (ro_cmp rfl rfl rfl) ?_
        refine wl_nil (x_then (hK9 _ _ ?_))
        clear hK9 K9
        refine wc_cond rfl (fun hc47 => ?_) (fun hc47 => ?_)
        · try simp only [decide_eq_true_eq, decide_eq_false_iff_not, Bool.not_eq_true', Bool.not_eq_false', Bool.not_eq_eq_eq_not, Bool.not_true, Bool.not_false, beq_iff_eq, bne_iff_ne, ne_eq, beq_eq_false_iff_ne, bne_eq_false_iff_eq, gt_iff_lt, ge_iff_le, Int.not_lt, Int.not_le] at hc47
          refine c_reg ?_ -- region 6 compm.go:249
          refine wl (ro_move rfl) ?_
          refine wl (ro_move rfl) ?_
          refine wl (ro_nilCheck rfl) ?_
          refine wl (ro_fieldAddr (k := 13) rfl fo_112_9) ?_
          refine wl_put rfl rfl rfl sz_3 h45 (by simp) (rfl) (fun w4 h45 F4 => ?_)
          replace hF := hF.thenDrew.thenO F4 (by first | exact .inr (by omega) | exact .inl rfl | exact .inl (by assumption) | assumption)
          replace hX0 := F4.blkO hX0 (by omega)
          replace h6 := F4.blkO h6 (by omega)
          replace hG := F4.blkO hG (by omega)
          replace hTp := F4.blkO hTp (by omega)
          refine wl_nil (x_then ?_)
          have e9 : Value.int .i64 fuel = Value.int .i64 (fuel.toNat : Int) := by congr 1; omega
          rw [e9] at h45
          exact ⟨hF, h6, hG, h45, kp _ ⟨rfl, rfl, trivial⟩⟩
        · try simp only [decide_eq_true_eq, decide_eq_false_iff_not, Bool.not_eq_true', Bool.not_eq_false', Bool.not_eq_eq_eq_not, Bool.not_true, Bool.not_false, beq_iff_eq, bne_iff_ne, ne_eq, beq_eq_false_iff_ne, bne_eq_false_iff_eq, gt_iff_lt, ge_iff_le, Int.not_lt, Int.not_le] at hc47
          refine c_skip (x_then ?_)
          have e9 : fuel.toNat = 0 := by omega
          rw [e9]
          exact ⟨hF, h6, hG, h45, kp _ ⟨rfl, rfl, trivial⟩⟩
      clear hF h6 hG h45 hX0 hTp
      rintro a u ⟨hF, h6, hG, h45, e, rfl⟩
      obtain ⟨ow1, ho1⟩ : ∃ ow1, ow1 = ot (ot (btg w ow) g 67) b45 70 := ⟨_, rfl⟩
      have hx1 : Xt w (btg w ow) ow1 := fun b hb => by rw [ho1, ot_old (by omega), ot_old (by omega)]
      have k6 : ow1 b6 = 66 := by rw [ho1, ot_old (by omega), ot_old (by omega), btg_df (by omega)]
      have kG : ow1 g = 67 := by rw [ho1, ot_old (by omega), ot_self]
      have k45 : ow1 b45 = 70 := by rw [ho1, ot_self]
      have hM1 := hMb.far hF (fun _ _ _ q ↦ q) hx1
      clear ho1
      replace hF : Fram (tg ow mtag) w _ := hF.mono (fun _ _ q ↦ q.elim)
      unfold rnc at h45
      refine c_seq (fun K10 hK10 => ?_)
      refine c_reg ?_ -- region 7 compm.go:251
      refine wl (ro_move rfl) ?_
      refine wl (ro_nilCheck rfl) ?_
      refine wl (ro_fieldAddr (k := 1) rfl fo_112_1) ?_
      refine wl (ro_loadB rfl sc_48 (by assumption) rfl) ?_
      refine wl_call rfl en_28 (Reset28 hM1) ?_
      rintro v2 u2 ⟨hM2, f2⟩
      replace h6 := f2.blkO h6 (by omega)
      replace hG := f2.blkO hG (by omega)
      replace h45 := f2.blkO h45 (by omega)
      replace hF := hF.thenDrew.thenO f2 (.inl (show mtag (ow tb) from .inl hM0.tag))
      refine wl_nil (x_then (hK10 _ _ ?_))
      clear hK10 K10
      refine forget [(6, _), (10, _)] ⟨rfl, rfl, trivial⟩ (fun e => ?_)
      refine c_seq (fun K11 hK11 => ?_)
      refine c_reg ?_ -- region 8 compm.go:252
      refine wl (ro_move rfl) ?_
      refine wl (ro_nilCheck rfl) ?_
      refine wl (ro_fieldAddr (k := 1) rfl fo_112_1) ?_
      refine wl (ro_loadB rfl sc_48 (by assumption) rfl) ?_
      refine wl_call rfl en_29 (Make29 hM2) ?_
      rintro v3 u3 h3
      rw [if_neg (by decide)] at h3
      obtain ⟨rfl, ow3, x3, hM3, f3⟩ := h3
      obtain ⟨h6, k6⟩ := mt_loc x3 f3 h6 k6 nm66
      obtain ⟨hG, kG⟩ := mt_loc x3 f3 hG kG nm67
      obtain ⟨h45, k45⟩ := mt_loc x3 f3 h45 k45 nm70
      have hx3 := hx1.trans hF.size x3
      replace hF := mt_trans hx1 hF f3
      clear hM1 hM2
      refine wl_nil (x_then (hK11 _ _ ?_))
      clear hK11 K11
      refine c_seq (fun K12 hK12 => ?_)
      refine c_seq (fun K13 hK13 => ?_)
      refine c_reg ?_ -- region 9 compm.go:253
      refine wl (ro_assign rfl) ?_
      refine wl_nil (x_then (hK13 _ _ ?_))
      clear hK13 K13
      refine c_block ?_
      -- loop@r10: live slots [6, 10, 11]
      refine c_loopG (fun n a u => ∃ i ow', n = 11 - i ∧ i ≤ 11 ∧ Xt w (btg w ow) ow' ∧ Fram (tg ow mtag) w u ∧ MTV u ow' (ptr nn) tb [gl i] ∧ Blk u.heap b6 [i64c 0, i64c 0, i64c 0, S [], S []] 56 ∧ ow' b6 = 66 ∧ Blk u.heap g lV 148 ∧ ow' g = 67 ∧ Blk u.heap b45 (rnc (ptr nn) tb (.slice (some ⟨g, 0, none⟩) (ndT t0 + 1) capV) (rt t0 1) (.slice none 0 0) (.slice none 0 0) (i64c 0) (i64c 0) (i64c 0) (i64c 0) (i64c 0) { iS0 fuel.toNat with clos := [], ths := [] }) 112 ∧ ow' b45 = 70 ∧ ∃ e, a = Fr 112 (upds e [(6, ptr b6), (10, ptr b45), (11, i64c (i + 1))]) []) 11 ⟨0, ow3, rfl, by omega, hx3, hF, hM3, h6, k6, hG, kG, h45, k45, kp _ ⟨rfl, rfl, rfl, trivial⟩⟩ ?_
      clear hF h6 hG h45 hM3 k6 kG k45 hx3 hx1
      rintro n a u ⟨i, ow4, rfl, hi, hx4, hF, hM4, h6, k6, hG, kG, h45, k45, e, rfl⟩
      unfold rnc at h45
      refine c_seq (fun K14 hK14 => ?_)
      refine c_seq (fun K15 hK15 => ?_)
      refine c_reg ?_ -- region 10 compm.go:253
      refine wl (ro_move rfl) ?_
      refine wl (ro_cmp rfl rfl rfl) ?_
      refine wl_nil (x_then (hK15 _ _ ?_))
      clear hK15 K15
      refine wc_cond rfl (fun hc63 => ?_) (fun hc63 => ?_)
      · try simp only [decide_eq_true_eq, decide_eq_false_iff_not, Bool.not_eq_true', Bool.not_eq_false', Bool.not_eq_eq_eq_not, Bool.not_true, Bool.not_false, beq_iff_eq, bne_iff_ne, ne_eq, beq_eq_false_iff_ne, bne_eq_false_iff_eq, gt_iff_lt, ge_iff_le, Int.not_lt, Int.not_le] at hc63
        refine c_skip (x_then (hK14 _ _ ?_))
        clear hK14 K14
        refine forget [(6, _), (10, _), (11, _)] ⟨rfl, rfl, rfl, trivial⟩ (fun e => ?_)
        refine c_seq (fun K16 hK16 => ?_)
        refine c_block ?_
        refine c_seq (fun K17 hK17 => ?_)
        refine c_reg ?_ -- region 12 compm.go:254
        refine wl (ro_move rfl) ?_
        refine wl_call rfl en_30 (BuiltinName30 (s := i + 1)) ?_
        rintro _ u0 ⟨rfl, hw0⟩
        rw [hw0]
        clear hw0 u0
        refine wl (ro_assign rfl) ?_
        refine wl_nil (x_then (hK17 _ _ ?_))
        clear hK17 K17
        refine c_reg ?_ -- region 13 compm.go:255
        refine wl (ro_move rfl) ?_
        refine wl (ro_nilCheck rfl) ?_
        refine wl (ro_fieldAddr (k := 1) rfl fo_112_1) ?_
        refine wl (ro_loadB rfl sc_48 (by assumption) rfl) ?_
        refine wl (ro_move rfl) ?_
        refine wl (ro_build rfl bld_119_0_2) ?_
        refine wl (ro_move rfl) ?_
        refine wl (ro_conv rfl sc_3 in_117 (Go.IntWalk.u64_in _ (by omega))) ?_
        refine wl (ro_build rfl bld_119_0_1) ?_
        refine wl_call rfl en_31 (Set31 (h := 0) (k := vStr (biName (i + 1))) (v := vBi (i + 1)) hM4 rfl (ok_str (c := 0) (t := 0) (h := 0) (bn_len i (by omega))).wf (ok_str (c := 0) (t := 0) (h := 0) (bn_len i (by omega))).w (bi_ok (c := 0) (t := 0) (h := 0) (i := i) (by omega)).wf (bi_ok (c := 0) (t := 0) (h := 0) (i := i) (by omega)).w (by rw [gl_set i (by omega)]; exact (gl_ok (i + 1) (by omega)).1)) ?_
        rintro v5 u5 ⟨-, ow5, x5, hM5, f5⟩
        have hM5 : MTV u5 ow5 (ptr nn) tb [(tSet (gl i) (vStr (biName (i + 1))) (vBi (i + 1))).2] := hM5
        rw [gl_set i (by omega)] at hM5
        obtain ⟨h6, k6⟩ := mt_loc x5 f5 h6 k6 nm66
        obtain ⟨hG, kG⟩ := mt_loc x5 f5 hG kG nm67
        obtain ⟨h45, k45⟩ := mt_loc x5 f5 h45 k45 nm70
        have hx5 := hx4.trans hF.size x5
        replace hF := mt_trans hx4 hF f5
        clear hM4
        refine wl_nil (x_blk (x_then (hK16 _ _ ?_)))
        clear hK16 K16
        refine c_reg ?_ -- region 11 compm.go:253
        refine wl (ro_move rfl) ?_
        refine wl (ro_arith rfl rfl rfl (Go.IntWalk.i64_in _ (by omega))) ?_
        refine wl (ro_assign rfl) ?_
        refine wl_nil (x_then ?_)
        exact ⟨11 - (i + 1), by omega, i + 1, ow5, rfl, by omega, hx5, hF, hM5, h6, k6, hG, kG, h45, k45, kp _ ⟨rfl, rfl, rfl, trivial⟩⟩
      · try simp only [decide_eq_true_eq, decide_eq_false_iff_not, Bool.not_eq_true', Bool.not_eq_false', Bool.not_eq_eq_eq_not, Bool.not_true, Bool.not_false, beq_iff_eq, bne_iff_ne, ne_eq, beq_eq_false_iff_ne, bne_eq_false_iff_eq, gt_iff_lt, ge_iff_le, Int.not_lt, Int.not_le] at hc63
        have hi11 : i = 11 := by omega
        subst hi11
        have hdw : ∀ b, b < u.heap.size → ow4 b = cut66 u ow4 b := fun b hb ↦ (cut66_xt u ow4 b hb).symm
        have hsu := hF.size
        have hM5 := hM4.far (Fram.refl none' _) (fun _ _ _ q ↦ q) (cut66_xt u ow4)
        have hd5 := cut66_df u ow4
        have hx5 : Xt w (btg w ow) (cut66 u ow4) := hx4.trans hsu (cut66_xt u ow4)
        rw [← cut66_xt u ow4 b6 h6.lt] at k6
        rw [← cut66_xt u ow4 g hG.lt] at kG
        rw [← cut66_xt u ow4 b45 h45.lt] at k45
        have l6 := h6.lt
        have lG := hG.lt
        have l45 := h45.lt
        generalize cut66 u ow4 = ow5 at *
        have hL : Fram (one b45) u u := Fram.refl _ _
        refine c_exit (x_thenX (x_thenX (x_blkX (x_then (hK12 _ _ ?_)))))
        clear hK14 K14 hK12 K12
        refine forget [(6, _), (10, _)] ⟨rfl, rfl, trivial⟩ (fun e => ?_)
        refine c_seq (fun K18 hK18 => ?_)
        refine c_reg ?_ -- region 14 compm.go:257
        refine wl (ro_move rfl) ?_
        refine wl (ro_move rfl) ?_
        refine wl (ro_nilCheck rfl) ?_
        refine wl (ro_fieldAddr (k := 4) rfl fo_112_4) ?_
        refine wl (ro_loadB rfl sc_108 (by assumption) rfl) ?_
        refine wl (ro_build rfl bld_122) ?_
        refine wl_bsapp (t := 108) (et := 122) (k := 2) (m := 0) (cs := clc [] (0, 0)) rfl rfl rfl rfl se_108 zx_122 by_122 rfl rfl rfl (clc_one _ _) (Own.nil _ _ _) (by decide) (by decide) ?_
        intro U6 u6 hon6 G6 hnb6
        obtain ⟨a6, c6, rfl⟩ := hon6.form
        have hno : ∀ b, ¬ own1 (.slice none 0 0) b := fun b q => by cases q
        replace G6 : Fram none' _ u6 := G6.mono (fun b _ q ↦ (hno b q).elim)
        replace h6 := G6.blkN h6
        replace hG := G6.blkN hG
        replace h45 := G6.blkN h45
        replace hF := hF.thenDrew.thenN G6
        replace hL := hL.thenDrew.thenN G6
        obtain ⟨gc, cc, lc, e6, hC, hC1, hC2, hC3, hC4⟩ := hon6.pos (by omega)
        cases e6
        have hgc : u.heap.size ≤ gc := by
          rcases hnb6 gc rfl with q | q
          · exact (hno _ q).elim
          · exact q
        skip
        refine wl (ro_nilCheck rfl) ?_
        refine wl (ro_fieldAddr (k := 4) rfl fo_112_4) ?_
        refine wl_put rfl rfl rfl sz_108 h45 (by simp) (rfl) (fun w5 h45 F5 => ?_)
        replace hF := hF.thenDrew.thenO F5 (by first | exact .inr (by omega) | exact .inl rfl | exact .inl (by assumption) | assumption)
        replace h6 := F5.blkO h6 (by omega)
        replace hG := F5.blkO hG (by omega)
        replace hL := hL.thenDrew.thenO F5 (by first | exact .inr (by omega) | exact .inl rfl | exact .inl (by assumption) | assumption)
        replace hC := F5.blkO hC (by omega)
        refine wl_nil (x_then (hK18 _ _ ?_))
        clear hK18 K18
        refine forget [(6, _), (10, _)] ⟨rfl, rfl, trivial⟩ (fun e => ?_)
        refine c_seq (fun K19 hK19 => ?_)
        refine c_reg ?_ -- region 15 compm.go:258
        refine wl (ro_move rfl) ?_
        refine wl (ro_move rfl) ?_
        refine wl (ro_nilCheck rfl) ?_
        refine wl (ro_fieldAddr (k := 5) rfl fo_112_5) ?_
        refine wl (ro_loadB rfl sc_109 (by assumption) rfl) ?_
        refine wl (ro_build rfl bld_126_0) ?_
        refine wl_box rfl rfl (fun b94 w6 hbb94 h94 F6 => ?_)
        have hbsb94 := Nat.le_trans hF.size hbb94
        have hneb6b94 : b6 < b94 := Nat.lt_of_lt_of_le h6.lt hbb94
        have hnegb94 : g < b94 := Nat.lt_of_lt_of_le hG.lt hbb94
        have hneb45b94 : b45 < b94 := Nat.lt_of_lt_of_le h45.lt hbb94
        have hbsb94 := Nat.le_trans hL.size hbb94
        have hnegcb94 : gc < b94 := Nat.lt_of_lt_of_le hC.lt hbb94
        replace hF := hF.thenDrew.thenN F6
        replace h6 := F6.blkN h6
        replace hG := F6.blkN hG
        replace h45 := F6.blkN h45
        replace hL := hL.thenDrew.thenN F6
        replace hC := F6.blkN hC
        have hgcl := hC.lt
        refine wl_bsapp (t := 109) (et := 123) (k := 1) (m := 0) (cs := [ptr b94]) rfl rfl rfl rfl se_109 zx_123 by_123 rfl rfl rfl (by simp [Value.oneCell', ptr]) (Own.nil _ _ _) (by decide) (by decide) ?_
        intro U7 u7 hon7 G7 hnb7
        obtain ⟨a7, c7, rfl⟩ := hon7.form
        replace G7 : Fram none' _ u7 := G7.mono (fun b _ q ↦ (hno b q).elim)
        have l94 := h94.lt
        replace h6 := G7.blkN h6
        replace hG := G7.blkN hG
        replace h45 := G7.blkN h45
        replace hC := G7.blkN hC
        replace h94 := G7.blkN h94
        replace hF := hF.thenDrew.thenN G7
        replace hL := hL.thenDrew.thenN G7
        obtain ⟨gh, ch, lh, e7, hH, hH1, hH2, hH3, hH4⟩ := hon7.pos (by omega)
        cases e7
        have hgh : b94 < gh := by
          rcases hnb7 gh rfl with q | q
          · exact (hno _ q).elim
          · exact Nat.lt_of_lt_of_le l94 q
        skip
        refine wl (ro_nilCheck rfl) ?_
        refine wl (ro_fieldAddr (k := 5) rfl fo_112_5) ?_
        refine wl_put rfl rfl rfl sz_109 h45 (by simp) (rfl) (fun w7 h45 F7 => ?_)
        replace hF := hF.thenDrew.thenO F7 (by first | exact .inr (by omega) | exact .inl rfl | exact .inl (by assumption) | assumption)
        replace h6 := F7.blkO h6 (by omega)
        replace hG := F7.blkO hG (by omega)
        replace hL := hL.thenDrew.thenO F7 (by first | exact .inr (by omega) | exact .inl rfl | exact .inl (by assumption) | assumption)
        replace hC := F7.blkO hC (by omega)
        replace h94 := F7.blkO h94 (by omega)
        replace hH := F7.blkO hH (by omega)
        obtain ⟨ow9, ho9⟩ : ∃ ow9, ow9 = ot (ot (ot ow5 gc 71) b94 75) gh 72 := ⟨_, rfl⟩
        have hx9 : Xt w (btg w ow) ow9 := fun b hb => by rw [ho9, ot_old (by omega), ot_old (by omega), ot_old (by omega)]; exact hx5 b hb
        have hx95 : Xt u ow5 ow9 := fun b hb => by rw [ho9, ot_old (by omega), ot_old (by omega), ot_old (by omega)]
        rw [← hx95 b6 l6] at k6
        have hlh := hH.lt
        have hM9 := hM5.far hL (fun b q _ e => by have e : b = b45 := e; rw [e, k45] at q; exact nm70 q) hx95
        rw [← hx95 b45 l45] at k45
        rw [← hx95 g lG] at kG
        have k71 : ow9 gc = 71 := by rw [ho9, ot_old (by omega), ot_old (by omega), ot_self]
        have k72 : ow9 gh = 72 := by rw [ho9, ot_self]
        have hal : (arena t0).length = ndT t0 + 1 := by rw [← hGp, List.length_map, hGl]
        have hR := RM.start (root := rt t0 1) (fuel := fuel.toNat) h45 k45 ⟨⟨rfl, .inr ⟨gc, c6, lc, rfl, hC, hC1, hC2, hC3, hC4⟩⟩, fun b q => by cases q; exact k71⟩ ⟨⟨rfl, .inr ⟨gh, c7, lh, rfl, hH, hH1, hH2, hH3, hH4⟩⟩, fun b q => by cases q; exact k72⟩ h94 (by rw [ho9, ot_old (by omega), ot_self]) hM9 ⟨Gp, by rw [hal]; exact ⟨⟨hV.o.1, .inr ⟨g, capV, lV, rfl, hG, hq1, hq2, hq3, hq4⟩⟩, fun b q => by cases q; exact kG⟩, hGp⟩ (fun b hb => by
          have := hL.size
          rw [ho9, ot_old (by omega), ot_old (by omega), ot_old (by omega)]
          exact hd5 b (by omega)) (by omega)
        have hfuN : fuel.toNat < 9223372036854775808 := by omega
        obtain ⟨N, a9, -, hN, -, -⟩ := text_ends hTO (arena_ok hTO) (arena_is hTO) rfl fuel.toNat
        refine wl_nil (x_then (hK19 _ _ ?_))
        clear hK19 K19
        refine forget [(6, _), (10, _)] ⟨rfl, rfl, trivial⟩ (fun e => ?_)
        refine c_seq (fun K20 hK20 => ?_)
        refine c_reg ?_ -- region 16 compm.go:259
        refine wl (ro_move rfl) ?_
        refine wl_call rfl en_32 (enter32 (G := arena t0) (c := 0) (prot := 0) (zs := []) (ps := []) (o := 0) hR (arena_ne t0) (Nat.zero_lt_one) (arena_ne t0) rfl (Nat.zero_le _) h6 k6 (fun i z q ↦ by cases q) (Nat.zero_le _) (Nat.zero_le _)) ?_
        rintro _ u8 ⟨rfl, bs, ow8, x8, f8, hR8⟩
        obtain ⟨h6, k6⟩ := cm_loc x8 f8 h6 k6
        have hx8 := hx9.trans hF.size x8
        replace hF := ct_trans hx9 hF f8
        clear hR hC h94 hH hL
        have hR8 : RM (arena t0) (rt t0 1) (ptr nn) tb b45 (.slice (some ⟨g, 0, none⟩) (ndT t0 + 1) capV) u8 ow8 ([] ++ bs) [b94] 2 (istart (arena t0) (rt t0 1) fuel.toNat) := hR8
        refine wl_nil (x_then (hK20 _ _ ?_))
        clear hK20 K20
        refine forget [(6, _), (10, _)] ⟨rfl, rfl, trivial⟩ (fun e => ?_)
        refine c_seq (fun K21 hK21 => ?_)
        refine c_block ?_
        -- loop@r17: live slots [6, 10]
        refine c_loopG (fun n a u => ∃ j β τ ow' m, n = N - j ∧ j ≤ N ∧ m ≤ 19900 ∧ Xt w (btg w ow) ow' ∧ Fram (tg ow mtag) w u ∧ RM (arena t0) (rt t0 1) (ptr nn) tb b45 (.slice (some ⟨g, 0, none⟩) (ndT t0 + 1) capV) u ow' β τ m (itN (arena t0) (rt t0 1) j (istart (arena t0) (rt t0 1) fuel.toNat)) ∧ Blk u.heap b6 [i64c 0, i64c 0, i64c 0, S [], S []] 56 ∧ ow' b6 = 66 ∧ ∃ e, a = Fr 112 (upds e [(6, ptr b6), (10, ptr b45)]) []) N ⟨0, _, _, ow8, 2, rfl, by omega, by omega, hx8, hF, hR8, h6, k6, kp _ ⟨rfl, rfl, trivial⟩⟩ ?_
        clear hF h6 k6 hR8
        rintro n a u2 ⟨j, β, τ, ow2, m, rfl, hj, hm, hx2, hF, hR, h6, k6, e, rfl⟩
        obtain ⟨cv, hv_, a0, a1, a2, a3, a4, hXr, hz2, hz3, hz4⟩ := hR.r
        unfold rnc at hXr
        have hdR := hR.df
        have hne6 : b45 ≠ b6 := ow_ne hR.t70 k6 (by decide)
        refine c_seq (fun K22 hK22 => ?_)
        refine c_seq (fun K23 hK23 => ?_)
        refine c_reg ?_ -- region 17 compm.go:260
        refine wl (ro_move rfl) ?_
        refine wl (ro_nilCheck rfl) ?_
        refine wl (ro_fieldAddr (k := 16) rfl fo_112_12) ?_
        refine wl (ro_loadB rfl sc_4 (by assumption) rfl) ?_
        refine wl (ro_not rfl) ?_
        refine wl_nil (x_then (hK23 _ _ ?_))
        clear hK23 K23
        refine wc_cond rfl (fun hc105 => ?_) (fun hc105 => ?_)
        · try simp only [decide_eq_true_eq, decide_eq_false_iff_not, Bool.not_eq_true', Bool.not_eq_false', Bool.not_eq_eq_eq_not, Bool.not_true, Bool.not_false, beq_iff_eq, bne_iff_ne, ne_eq, beq_eq_false_iff_ne, bne_eq_false_iff_eq, gt_iff_lt, ge_iff_le, Int.not_lt, Int.not_le] at hc105
          have hnd : ¬ (itN (arena t0) (rt t0 1) j (istart (arena t0) (rt t0 1) fuel.toNat)).done = true := by rw [hc105]; decide
          have hjN : j < N := by
            rcases Nat.lt_or_ge j N with q | q
            · exact q
            · exact absurd (show j = N by omega ▸ hN) hnd
          have hI := (all_ia hTO h300 hfuN j).resolve_left hnd
          have hR' := hR.up_m hI.w.small
          refine c_skip (x_then (hK22 _ _ ?_))
          clear hK22 K22
          refine c_block ?_
          refine c_reg ?_ -- region 18 compm.go:261
          refine wl (ro_move rfl) ?_
          refine wl_call rfl en_33 (step33 hR' (arena_ne t0) (arena_ok hTO) rfl hI (Nat.lt_of_lt_of_le (by rw [start_tabs]; decide) (itN_tabs j _)) (by omega)) ?_
          rintro _ u9 ⟨rfl, bs, τ', ow9, x9, f9, hR9⟩
          obtain ⟨h6, k6⟩ := cm_loc x9 f9 h6 k6
          have hx9 := hx2.trans hF.size x9
          replace hF := ct_trans hx2 hF f9
          rw [← itN_last j _ hnd] at hR9
          clear hR hR' hXr
          refine wl_nil (x_blk (x_then ?_))
          exact ⟨N - (j + 1), by omega, j + 1, _, _, ow9, _, rfl, by omega, by omega, hx9, hF, hR9, h6, k6, kp _ ⟨rfl, rfl, trivial⟩⟩
        · try simp only [decide_eq_true_eq, decide_eq_false_iff_not, Bool.not_eq_true', Bool.not_eq_false', Bool.not_eq_eq_eq_not, Bool.not_true, Bool.not_false, beq_iff_eq, bne_iff_ne, ne_eq, beq_eq_false_iff_ne, bne_eq_false_iff_eq, gt_iff_lt, ge_iff_le, Int.not_lt, Int.not_le] at hc105
          refine c_exit (x_thenX (x_thenX (x_blkX (x_then (hK21 _ _ ?_)))))
          clear hK22 K22 hK21 K21
          refine forget [(6, _), (10, _)] ⟨rfl, rfl, trivial⟩ (fun e => ?_)
          refine c_seq (fun K24 hK24 => ?_)
          refine c_reg ?_ -- region 19 compm.go:263
          refine wl (ro_move rfl) ?_
          refine wl (ro_nilCheck rfl) ?_
          refine wl (ro_fieldAddr (k := 17) rfl fo_112_13) ?_
          refine wl (ro_loadAggB rfl ag_56 (hXr) (rfl) (rfl)) ?_
          refine wl_puta rfl rfl ((by simp [Value.oneCell', i64c, S])) sz_56 (rfl) h6 ((by simp)) (rfl) (fun w8 h6 F8 => ?_)
          replace hF := hF.thenDrew.thenO F8 (by first | exact .inr (by omega) | exact .inl rfl | exact .inl (by assumption) | assumption)
          replace hXr := F8.blkO hXr (by omega)
          have hfz := F8
          refine wl_nil (x_then (hK24 _ _ ?_))
          clear hK24 K24
          refine c_ret ?_
          refine bq_ret (res1 Tryz.results23 (rv_c rfl ag_56 (h6) (rfl))) ?_
          refine ⟨?_, _, _, fun b hb ↦ if_pos hb, back_tag hx2 (hR.M.far hfz (fun b q _ e ↦ by have e : b = b6 := e; rw [e, k6] at q; exact nm66 q) (Xt.refl _ _)), hF⟩
          unfold RunR
          rw [hpv]
          exact ⟨_, ⟨j, hc105, rfl⟩, rfl⟩

end Go.Proofs.Qxb6500568aGreatDoor
