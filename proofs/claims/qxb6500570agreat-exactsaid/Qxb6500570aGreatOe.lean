import Derived.Test.Qxb6500570aGreatOd
/- The model's book: Load. -/
namespace Go.Proofs.Qxb6500570aGreat
set_option linter.unusedVariables false
set_option linter.unusedSimpArgs false

def LdJ (s : Tx) (R : Option (List Tx)) (last : Int) (i : Nat) (S' : List Tx) : Prop := ∃ f : Nat, s.length - i < f + 1 ∧ ldF (f + 1) s last i S' = R
theorem LdJ.fin {s : Tx} {R : Option (List Tx)} {last : Int} {i : Nat} {S' : List Tx} (h : LdJ s R last i S') (hi : s.length ≤ i) : R = some S' := by
  obtain ⟨f, h1, h2⟩ := h
  rw [ld_end hi] at h2
  exact h2.symm
theorem LdJ.bad {s : Tx} {R : Option (List Tx)} {last : Int} {i : Nat} {S' : List Tx} (h : LdJ s R last i S') (hi : i < s.length) (hb : s.length - i < 4 ∨ (pr2 s i ≤ last ∨ 24 ≤ pr2 s i) ∨ (pr2 s (i + 2) < 1 ∨ 40 < pr2 s (i + 2) ∨ ((s.length : Int) - i - 4 < pr2 s (i + 2)))) : R = none := by
  obtain ⟨f, h1, h2⟩ := h
  rw [ld_none hi hb] at h2
  exact h2.symm
theorem LdJ.go {s : Tx} {R : Option (List Tx)} {last : Int} {i c n : Nat} {S' : List Tx} (h : LdJ s R last i S') (hp : PcOK s last i c n) : LdJ s R c (i + 4 + n) (S'.set c ((s.drop (i + 4)).take n)) := by
  obtain ⟨f, h1, h2⟩ := h
  rw [ld_step hp] at h2
  have h4 := hp.h4
  obtain ⟨f, rfl⟩ : ∃ g, f = g + 1 := ⟨f - 1, by omega⟩
  exact ⟨f, by omega, h2⟩
set_option maxHeartbeats 16000000 in
theorem Load8 {w : World} {Y : MK} {O : Nat → Prop} {lo hi : Nat} {T : List Tx} {past next : List (List Tx)} {V1 V2 : Value} {sb : Nat} {s : Tx} (hb : MkB lo hi Y) (h : BkV w Y O lo hi T past next V1 V2 sb) :
    Ret Tryz.prog 8 [ptr Y.k, S s] w (fun v w' => v = icv (ldE s) ∧ MkP w w' Y O lo hi (ldS T s) (ldP s past) (ldP s next) V1 V2 sb) := by
  have hF : Fram none' w w := Fram.refl _ _
  obtain ⟨SL, xs, ys, h⟩ := h
  have hT := h.ok
  have hk := hb.hk
  have hk2 := hb.kh
  have hlo := hb.loh
  have hz := h.hz
  have hsk : sb ≠ Y.k := h.hv.mv.hV.ne_type h.hK (by decide)
  have h0 : LdJ s (ldR s) (-1) 0 zL := ⟨s.length, by omega, rfl⟩
  have hbad : ∀ (w' : World) (r : Int), ldE s ≠ 0 → ldE s = r → Fram none' w w' → icv r = icv (ldE s) ∧ MkP w w' Y O lo hi (ldS T s) (ldP s past) (ldP s next) V1 V2 sb := fun w' r q hr hf => by
    unfold ldP
    rw [ld_err q, if_neg q, if_neg q, hr]
    exact ⟨rfl, ⟨V1, V2, sb, ⟨SL, xs, ys, (h.farN hb hf).up _⟩, nob.refl _ _, nob.refl _ _, .inl rfl⟩, hf.mono (fun _ _ q => q.elim)⟩
  have hE12 : 1056 ≥ s.length → ldR s = none → ldE s = 12 := fun q1 q2 => by unfold ldE; rw [if_neg (by omega), q2]; rfl
  refine ret_of Tryz.func8 rfl Tryz.ntmps8 rfl ?_
  refine c_seq (fun K1 hK1 => ?_)
  refine c_reg ?_ -- region 0 bookm.go:117
  refine wl (ro_assign rfl) ?_
  refine wl_nil (x_then (hK1 _ _ ?_))
  clear hK1 K1
  refine c_seq (fun K2 hK2 => ?_)
  refine c_seq (fun K3 hK3 => ?_)
  refine c_reg ?_ -- region 1 bookm.go:118
  refine wl (ro_move rfl) ?_
  refine wl (ro_lenS rfl st_9) ?_
  refine wl (ro_cmp (r := decide (1056 < s.length)) rfl rfl (congrArg some (decide_eq_decide.2 (by show ((s.length : Nat) : Int) > 1056 ↔ _; omega)))) ?_
  refine wl_nil (x_then (hK3 _ _ ?_))
  clear hK3 K3
  refine wc_cond rfl (fun hc12 => ?_) (fun hc12 => ?_)
  · try simp only [decide_eq_true_eq, decide_eq_false_iff_not, Bool.not_eq_true', Bool.not_eq_false', Bool.not_eq_eq_eq_not, Bool.not_true, Bool.not_false, beq_iff_eq, bne_iff_ne, ne_eq, beq_eq_false_iff_ne, bne_eq_false_iff_eq, gt_iff_lt, ge_iff_le, Int.not_lt, Int.not_le] at hc12
    refine c_seq (fun K4 hK4 => ?_)
    refine c_reg ?_ -- region 2 bookm.go:119
    refine wl (ro_assign rfl) ?_
    refine wl_nil (x_then (hK4 _ _ ?_))
    clear hK4 K4
    refine c_ret (x_thenR ?_)
    refine bp_ret Tryz.results8 rfl ?_
    have e1 : ldE s = 1 := by unfold ldE; rw [if_pos hc12]
    exact hbad _ 1 (by omega) e1 hF
  · try simp only [decide_eq_true_eq, decide_eq_false_iff_not, Bool.not_eq_true', Bool.not_eq_false', Bool.not_eq_eq_eq_not, Bool.not_true, Bool.not_false, beq_iff_eq, bne_iff_ne, ne_eq, beq_eq_false_iff_ne, bne_eq_false_iff_eq, gt_iff_lt, ge_iff_le, Int.not_lt, Int.not_le] at hc12
    refine c_skip (x_then (hK2 _ _ ?_))
    clear hK2 K2
    refine forget [(0, _), (1, _)] ⟨rfl, rfl, trivial⟩ (fun e => ?_)
    refine c_seq (fun K5 hK5 => ?_)
    refine c_reg ?_ -- region 3 bookm.go:121
    refine wl_make (len := 24) (cap := 24) rfl rfl se_56 ze_9 (by simp) (by omega) (by omega) rfl bb_9 (fun xb w1 hbxb hU F1 => ?_)
    have hbsxb := Nat.le_trans hF.size hbxb
    replace hF := hF.thenDrew.thenN F1
    replace hU : Blk w1.heap xb (rws stc zL) 9 := by (rw [← zc_rws (enc := stc) (x0 := []) rfl stc_len 24]; exact hU)
    have hxb : w.heap.size ≤ xb := by omega
    refine wl (ro_assign rfl) ?_
    refine wl_nil (x_then (hK5 _ _ ?_))
    clear hK5 K5
    refine forget [(0, _), (1, _), (5, _)] ⟨rfl, rfl, rfl, trivial⟩ (fun e => ?_)
    refine c_seq (fun K6 hK6 => ?_)
    refine c_reg ?_ -- region 4 bookm.go:122
    refine wl (ro_assign rfl) ?_
    refine wl_nil (x_then (hK6 _ _ ?_))
    clear hK6 K6
    refine forget [(0, _), (1, _), (5, _), (6, _)] ⟨rfl, rfl, rfl, rfl, trivial⟩ (fun e => ?_)
    refine c_seq (fun K7 hK7 => ?_)
    refine c_reg ?_ -- region 5 bookm.go:123
    refine wl (ro_assign rfl) ?_
    refine wl_nil (x_then (hK7 _ _ ?_))
    clear hK7 K7
    refine forget [(0, _), (1, _), (5, _), (6, _), (7, _)] ⟨rfl, rfl, rfl, rfl, rfl, trivial⟩ (fun e => ?_)
    refine c_seq (fun K8 hK8 => ?_)
    refine c_block ?_
    -- loop@r6: live slots [0, 1, 5, 6, 7]
    refine c_loopG (fun m a' w' => ∃ (last : Int) (i : Nat) (S' : List Tx), m = s.length - i ∧ i ≤ s.length ∧ -1 ≤ last ∧ last ≤ 99 ∧ TxOK S' ∧ LdJ s (ldR s) last i S' ∧ Blk w'.heap xb (rws stc S') 9 ∧ Fram none' w w' ∧ ∃ e, a' = Fr 79 (upds e [(0, ptr Y.k), (1, S s), (5, sl xb 24), (6, icv last), (7, i64c i)]) []) s.length ⟨-1, 0, zL, rfl, by omega, by omega, by omega, TxOK.rep, h0, hU, hF, kp _ ⟨rfl, rfl, rfl, rfl, rfl, trivial⟩⟩ ?_
    clear h0 hU hF
    rintro m a' u1 ⟨last, i, S', rfl, hi', hl1, hl2, hS', hJ, hU, hF, e, rfl⟩
    have p1 := pr2_bd s i
    have p2 := pr2_bd s (i + 2)
    have hsl : s.length ≤ 1056 := by omega
    have hS24 := hS'.tl
    refine c_seq (fun K9 hK9 => ?_)
    refine c_seq (fun K10 hK10 => ?_)
    refine c_reg ?_ -- region 6 bookm.go:124
    refine wl (ro_move rfl) ?_
    refine wl (ro_move rfl) ?_
    refine wl (ro_lenS rfl st_9) ?_
    refine wl (ro_cmp (r := decide (i < s.length)) rfl rfl (congrArg some (decide_eq_decide.2 (by omega)))) ?_
    refine wl_nil (x_then (hK10 _ _ ?_))
    clear hK10 K10
    refine wc_cond rfl (fun hc17 => ?_) (fun hc17 => ?_)
    · try simp only [decide_eq_true_eq, decide_eq_false_iff_not, Bool.not_eq_true', Bool.not_eq_false', Bool.not_eq_eq_eq_not, Bool.not_true, Bool.not_false, beq_iff_eq, bne_iff_ne, ne_eq, beq_eq_false_iff_ne, bne_eq_false_iff_eq, gt_iff_lt, ge_iff_le, Int.not_lt, Int.not_le] at hc17
      refine c_skip (x_then (hK9 _ _ ?_))
      clear hK9 K9
      refine c_block ?_
      refine c_seq (fun K11 hK11 => ?_)
      refine c_seq (fun K12 hK12 => ?_)
      refine c_reg ?_ -- region 7 bookm.go:125
      refine wl (ro_move rfl) ?_
      refine wl (ro_lenS rfl st_9) ?_
      refine wl (ro_move rfl) ?_
      refine wl (ro_arith (r := ((s.length - i : Nat) : Int)) rfl rfl (congrArg some (by omega)) (Go.IntWalk.i64_in _ (by omega))) ?_
      refine wl (ro_cmp (r := decide (s.length - i < 4)) rfl rfl (congrArg some (decide_eq_decide.2 (by omega)))) ?_
      refine wl_nil (x_then (hK12 _ _ ?_))
      clear hK12 K12
      refine wc_cond rfl (fun hc22 => ?_) (fun hc22 => ?_)
      · try simp only [decide_eq_true_eq, decide_eq_false_iff_not, Bool.not_eq_true', Bool.not_eq_false', Bool.not_eq_eq_eq_not, Bool.not_true, Bool.not_false, beq_iff_eq, bne_iff_ne, ne_eq, beq_eq_false_iff_ne, bne_eq_false_iff_eq, gt_iff_lt, ge_iff_le, Int.not_lt, Int.not_le] at hc22
        refine c_seq (fun K13 hK13 => ?_)
        refine c_reg ?_ -- region 8 bookm.go:126
        refine wl (ro_assign rfl) ?_
        refine wl_nil (x_then (hK13 _ _ ?_))
        clear hK13 K13
        refine c_ret (x_thenR (x_blkR (x_thenR (x_blkR (x_thenR ?_)))))
        refine bp_ret Tryz.results8 rfl ?_
        first
          | (exact hbad _ 12 (by rw [hE12 hsl (hJ.bad hc17 (by omega))]; omega) (hE12 hsl (hJ.bad hc17 (by omega))) hF)
          | (have hr := hJ.fin (by omega)
             have e1 : ldE s = 0 := by unfold ldE; rw [if_neg (by omega), hr]; rfl
             have e2 : ldS T s = S' := by unfold ldS; rw [if_neg (by omega), hr]; rfl
             unfold ldP
             rw [e1, e2, if_pos rfl, if_pos rfl]
             have h5 := h4.st (V1' := .slice none 0 0) (V2' := .slice none 0 0) (past' := []) (next' := []) (xs' := []) (ys' := []) hb hFb hK (OwO.nil _ _) (OwO.nil _ _) (fun b q => (by cases q)) (fun b q => (by cases q)) (SnV.nil _ _ _) (SnV.nil _ _ _)
             exact ⟨rfl, ⟨_, _, sb4, ⟨SL4, _, _, h5.up _⟩, nob.nil _ _, nob.nil _ _, by omega⟩, hF4.trans (hFb.mono (fun k _ hk => by have : k = Y.k := hk; exact .inl ⟨by omega, by omega⟩))⟩)
      · try simp only [decide_eq_true_eq, decide_eq_false_iff_not, Bool.not_eq_true', Bool.not_eq_false', Bool.not_eq_eq_eq_not, Bool.not_true, Bool.not_false, beq_iff_eq, bne_iff_ne, ne_eq, beq_eq_false_iff_ne, bne_eq_false_iff_eq, gt_iff_lt, ge_iff_le, Int.not_lt, Int.not_le] at hc22
        refine c_skip (x_then (hK11 _ _ ?_))
        clear hK11 K11
        refine forget [(0, _), (1, _), (5, _), (6, _), (7, _)] ⟨rfl, rfl, rfl, rfl, rfl, trivial⟩ (fun e => ?_)
        refine c_seq (fun K14 hK14 => ?_)
        refine c_reg ?_ -- region 9 bookm.go:128
        refine wl (ro_move rfl) ?_
        refine wl (ro_move rfl) ?_
        refine wl_call rfl en_35 (num35 (by omega) hsl) ?_
        rintro _ u2 ⟨rfl, G2⟩
        replace hF := hF.transG G2 (by intro k hk h; simp only [none', rng] at h ⊢ <;> omega)
        replace hU := G2.blkF hU (by intro h; simp only [none', rng] at h <;> omega)
        refine wl (ro_assign rfl) ?_
        refine wl_nil (x_then (hK14 _ _ ?_))
        clear hK14 K14
        refine forget [(0, _), (1, _), (5, _), (6, _), (7, _), (8, _)] ⟨rfl, rfl, rfl, rfl, rfl, rfl, trivial⟩ (fun e => ?_)
        refine c_seq (fun K15 hK15 => ?_)
        refine c_reg ?_ -- region 10 bookm.go:129
        refine wl (ro_move rfl) ?_
        refine wl (ro_move rfl) ?_
        refine wl (ro_arith (r := ((i + 2 : Nat) : Int)) rfl rfl rfl (Go.IntWalk.i64_in _ (by omega))) ?_
        refine wl_call rfl en_35 (num35 (by omega) hsl) ?_
        rintro _ u3 ⟨rfl, G3⟩
        replace hF := hF.transG G3 (by intro k hk h; simp only [none', rng] at h ⊢ <;> omega)
        replace hU := G3.blkF hU (by intro h; simp only [none', rng] at h <;> omega)
        refine wl (ro_assign rfl) ?_
        refine wl_nil (x_then (hK15 _ _ ?_))
        clear hK15 K15
        refine c_seq (fun K16 hK16 => ?_)
        refine c_seq (fun K17 hK17 => ?_)
        refine c_reg ?_ -- region 11 bookm.go:130
        refine wl (ro_move rfl) ?_
        refine wl (ro_move rfl) ?_
        refine wl (ro_cmp (r := decide (pr2 s i ≤ last)) rfl rfl rfl) ?_
        refine wl_fork rfl (fun hg33 => ?_) (fun hg33 => ?_)
        · try simp only [decide_eq_true_eq, decide_eq_false_iff_not, Bool.not_eq_true', Bool.not_eq_false', Bool.not_eq_eq_eq_not, Bool.not_true, Bool.not_false, beq_iff_eq, bne_iff_ne, ne_eq, beq_eq_false_iff_ne, bne_eq_false_iff_eq, gt_iff_lt, ge_iff_le, Int.not_lt, Int.not_le] at hg33
          refine wlg_no rfl ?_
          refine wlg_no rfl ?_
          refine wl (ro_pick rfl rfl rfl) ?_
          refine wl (ro_move rfl) ?_
          refine wlg_no rfl ?_
          refine wlg_no rfl ?_
          refine wl (ro_pick rfl rfl rfl) ?_
          refine wl (ro_move rfl) ?_
          refine wlg_no rfl ?_
          refine wlg_no rfl ?_
          refine wl (ro_pick rfl rfl rfl) ?_
          refine wl (ro_move rfl) ?_
          refine wlg_no rfl ?_
          refine wlg_no rfl ?_
          refine wlg_no rfl ?_
          refine wlg_no rfl ?_
          refine wlg_no rfl ?_
          refine wlg_no rfl ?_
          refine wlg_no rfl ?_
          refine wl (ro_pick rfl rfl rfl) ?_
          refine wl_nil (x_then (hK17 _ _ ?_))
          clear hK17 K17
          refine wc_condT rfl ?_
          refine c_seq (fun K18 hK18 => ?_)
          refine c_reg ?_ -- region 12 bookm.go:131
          refine wl (ro_assign rfl) ?_
          refine wl_nil (x_then (hK18 _ _ ?_))
          clear hK18 K18
          refine c_ret (x_thenR (x_blkR (x_thenR (x_blkR (x_thenR ?_)))))
          refine bp_ret Tryz.results8 rfl ?_
          first
            | (exact hbad _ 12 (by rw [hE12 hsl (hJ.bad hc17 (by omega))]; omega) (hE12 hsl (hJ.bad hc17 (by omega))) hF)
            | (have hr := hJ.fin (by omega)
               have e1 : ldE s = 0 := by unfold ldE; rw [if_neg (by omega), hr]; rfl
               have e2 : ldS T s = S' := by unfold ldS; rw [if_neg (by omega), hr]; rfl
               unfold ldP
               rw [e1, e2, if_pos rfl, if_pos rfl]
               have h5 := h4.st (V1' := .slice none 0 0) (V2' := .slice none 0 0) (past' := []) (next' := []) (xs' := []) (ys' := []) hb hFb hK (OwO.nil _ _) (OwO.nil _ _) (fun b q => (by cases q)) (fun b q => (by cases q)) (SnV.nil _ _ _) (SnV.nil _ _ _)
               exact ⟨rfl, ⟨_, _, sb4, ⟨SL4, _, _, h5.up _⟩, nob.nil _ _, nob.nil _ _, by omega⟩, hF4.trans (hFb.mono (fun k _ hk => by have : k = Y.k := hk; exact .inl ⟨by omega, by omega⟩))⟩)
        · try simp only [decide_eq_true_eq, decide_eq_false_iff_not, Bool.not_eq_true', Bool.not_eq_false', Bool.not_eq_eq_eq_not, Bool.not_true, Bool.not_false, beq_iff_eq, bne_iff_ne, ne_eq, beq_eq_false_iff_ne, bne_eq_false_iff_eq, gt_iff_lt, ge_iff_le, Int.not_lt, Int.not_le] at hg33
          refine wlg_yes rfl (ro_move rfl) ?_
          refine wlg_yes rfl (ro_cmp (r := decide (24 ≤ pr2 s i)) rfl rfl rfl) ?_
          refine wl (ro_pick rfl rfl rfl) ?_
          refine wl_fork rfl (fun hg37 => ?_) (fun hg37 => ?_)
          · try simp only [decide_eq_true_eq, decide_eq_false_iff_not, Bool.not_eq_true', Bool.not_eq_false', Bool.not_eq_eq_eq_not, Bool.not_true, Bool.not_false, beq_iff_eq, bne_iff_ne, ne_eq, beq_eq_false_iff_ne, bne_eq_false_iff_eq, gt_iff_lt, ge_iff_le, Int.not_lt, Int.not_le] at hg37
            refine wlg_no rfl ?_
            refine wlg_no rfl ?_
            refine wl (ro_pick rfl rfl rfl) ?_
            refine wl (ro_move rfl) ?_
            refine wlg_no rfl ?_
            refine wlg_no rfl ?_
            refine wl (ro_pick rfl rfl rfl) ?_
            refine wl (ro_move rfl) ?_
            refine wlg_no rfl ?_
            refine wlg_no rfl ?_
            refine wlg_no rfl ?_
            refine wlg_no rfl ?_
            refine wlg_no rfl ?_
            refine wlg_no rfl ?_
            refine wlg_no rfl ?_
            refine wl (ro_pick rfl rfl rfl) ?_
            refine wl_nil (x_then (hK17 _ _ ?_))
            clear hK17 K17
            refine wc_condT rfl ?_
            refine c_seq (fun K19 hK19 => ?_)
            refine c_reg ?_ -- region 12 bookm.go:131
            refine wl (ro_assign rfl) ?_
            refine wl_nil (x_then (hK19 _ _ ?_))
            clear hK19 K19
            refine c_ret (x_thenR (x_blkR (x_thenR (x_blkR (x_thenR ?_)))))
            refine bp_ret Tryz.results8 rfl ?_
            first
              | (exact hbad _ 12 (by rw [hE12 hsl (hJ.bad hc17 (by omega))]; omega) (hE12 hsl (hJ.bad hc17 (by omega))) hF)
              | (have hr := hJ.fin (by omega)
                 have e1 : ldE s = 0 := by unfold ldE; rw [if_neg (by omega), hr]; rfl
                 have e2 : ldS T s = S' := by unfold ldS; rw [if_neg (by omega), hr]; rfl
                 unfold ldP
                 rw [e1, e2, if_pos rfl, if_pos rfl]
                 have h5 := h4.st (V1' := .slice none 0 0) (V2' := .slice none 0 0) (past' := []) (next' := []) (xs' := []) (ys' := []) hb hFb hK (OwO.nil _ _) (OwO.nil _ _) (fun b q => (by cases q)) (fun b q => (by cases q)) (SnV.nil _ _ _) (SnV.nil _ _ _)
                 exact ⟨rfl, ⟨_, _, sb4, ⟨SL4, _, _, h5.up _⟩, nob.nil _ _, nob.nil _ _, by omega⟩, hF4.trans (hFb.mono (fun k _ hk => by have : k = Y.k := hk; exact .inl ⟨by omega, by omega⟩))⟩)
          · try simp only [decide_eq_true_eq, decide_eq_false_iff_not, Bool.not_eq_true', Bool.not_eq_false', Bool.not_eq_eq_eq_not, Bool.not_true, Bool.not_false, beq_iff_eq, bne_iff_ne, ne_eq, beq_eq_false_iff_ne, bne_eq_false_iff_eq, gt_iff_lt, ge_iff_le, Int.not_lt, Int.not_le] at hg37
            refine wlg_yes rfl (ro_move rfl) ?_
            refine wlg_yes rfl (ro_cmp (r := decide (pr2 s (i + 2) < 1)) rfl rfl rfl) ?_
            refine wl (ro_pick rfl rfl rfl) ?_
            refine wl_fork rfl (fun hg41 => ?_) (fun hg41 => ?_)
            · try simp only [decide_eq_true_eq, decide_eq_false_iff_not, Bool.not_eq_true', Bool.not_eq_false', Bool.not_eq_eq_eq_not, Bool.not_true, Bool.not_false, beq_iff_eq, bne_iff_ne, ne_eq, beq_eq_false_iff_ne, bne_eq_false_iff_eq, gt_iff_lt, ge_iff_le, Int.not_lt, Int.not_le] at hg41
              refine wlg_no rfl ?_
              refine wlg_no rfl ?_
              refine wl (ro_pick rfl rfl rfl) ?_
              refine wl (ro_move rfl) ?_
              refine wlg_no rfl ?_
              refine wlg_no rfl ?_
              refine wlg_no rfl ?_
              refine wlg_no rfl ?_
              refine wlg_no rfl ?_
              refine wlg_no rfl ?_
              refine wlg_no rfl ?_
              refine wl (ro_pick rfl rfl rfl) ?_
              refine wl_nil (x_then (hK17 _ _ ?_))
              clear hK17 K17
              refine wc_condT rfl ?_
              refine c_seq (fun K20 hK20 => ?_)
              refine c_reg ?_ -- region 12 bookm.go:131
              refine wl (ro_assign rfl) ?_
              refine wl_nil (x_then (hK20 _ _ ?_))
              clear hK20 K20
              refine c_ret (x_thenR (x_blkR (x_thenR (x_blkR (x_thenR ?_)))))
              refine bp_ret Tryz.results8 rfl ?_
              first
                | (exact hbad _ 12 (by rw [hE12 hsl (hJ.bad hc17 (by omega))]; omega) (hE12 hsl (hJ.bad hc17 (by omega))) hF)
                | (have hr := hJ.fin (by omega)
                   have e1 : ldE s = 0 := by unfold ldE; rw [if_neg (by omega), hr]; rfl
                   have e2 : ldS T s = S' := by unfold ldS; rw [if_neg (by omega), hr]; rfl
                   unfold ldP
                   rw [e1, e2, if_pos rfl, if_pos rfl]
                   have h5 := h4.st (V1' := .slice none 0 0) (V2' := .slice none 0 0) (past' := []) (next' := []) (xs' := []) (ys' := []) hb hFb hK (OwO.nil _ _) (OwO.nil _ _) (fun b q => (by cases q)) (fun b q => (by cases q)) (SnV.nil _ _ _) (SnV.nil _ _ _)
                   exact ⟨rfl, ⟨_, _, sb4, ⟨SL4, _, _, h5.up _⟩, nob.nil _ _, nob.nil _ _, by omega⟩, hF4.trans (hFb.mono (fun k _ hk => by have : k = Y.k := hk; exact .inl ⟨by omega, by omega⟩))⟩)
            · try simp only [decide_eq_true_eq, decide_eq_false_iff_not, Bool.not_eq_true', Bool.not_eq_false', Bool.not_eq_eq_eq_not, Bool.not_true, Bool.not_false, beq_iff_eq, bne_iff_ne, ne_eq, beq_eq_false_iff_ne, bne_eq_false_iff_eq, gt_iff_lt, ge_iff_le, Int.not_lt, Int.not_le] at hg41
              refine wlg_yes rfl (ro_move rfl) ?_
              refine wlg_yes rfl (ro_cmp (r := decide (40 < pr2 s (i + 2))) rfl rfl rfl) ?_
              refine wl (ro_pick rfl rfl rfl) ?_
              refine wl_fork rfl (fun hg45 => ?_) (fun hg45 => ?_)
              · try simp only [decide_eq_true_eq, decide_eq_false_iff_not, Bool.not_eq_true', Bool.not_eq_false', Bool.not_eq_eq_eq_not, Bool.not_true, Bool.not_false, beq_iff_eq, bne_iff_ne, ne_eq, beq_eq_false_iff_ne, bne_eq_false_iff_eq, gt_iff_lt, ge_iff_le, Int.not_lt, Int.not_le] at hg45
                refine wlg_no rfl ?_
                refine wlg_no rfl ?_
                refine wlg_no rfl ?_
                refine wlg_no rfl ?_
                refine wlg_no rfl ?_
                refine wlg_no rfl ?_
                refine wlg_no rfl ?_
                refine wl (ro_pick rfl rfl rfl) ?_
                refine wl_nil (x_then (hK17 _ _ ?_))
                clear hK17 K17
                refine wc_condT rfl ?_
                refine c_seq (fun K21 hK21 => ?_)
                refine c_reg ?_ -- region 12 bookm.go:131
                refine wl (ro_assign rfl) ?_
                refine wl_nil (x_then (hK21 _ _ ?_))
                clear hK21 K21
                refine c_ret (x_thenR (x_blkR (x_thenR (x_blkR (x_thenR ?_)))))
                refine bp_ret Tryz.results8 rfl ?_
                first
                  | (exact hbad _ 12 (by rw [hE12 hsl (hJ.bad hc17 (by omega))]; omega) (hE12 hsl (hJ.bad hc17 (by omega))) hF)
                  | (have hr := hJ.fin (by omega)
                     have e1 : ldE s = 0 := by unfold ldE; rw [if_neg (by omega), hr]; rfl
                     have e2 : ldS T s = S' := by unfold ldS; rw [if_neg (by omega), hr]; rfl
                     unfold ldP
                     rw [e1, e2, if_pos rfl, if_pos rfl]
                     have h5 := h4.st (V1' := .slice none 0 0) (V2' := .slice none 0 0) (past' := []) (next' := []) (xs' := []) (ys' := []) hb hFb hK (OwO.nil _ _) (OwO.nil _ _) (fun b q => (by cases q)) (fun b q => (by cases q)) (SnV.nil _ _ _) (SnV.nil _ _ _)
                     exact ⟨rfl, ⟨_, _, sb4, ⟨SL4, _, _, h5.up _⟩, nob.nil _ _, nob.nil _ _, by omega⟩, hF4.trans (hFb.mono (fun k _ hk => by have : k = Y.k := hk; exact .inl ⟨by omega, by omega⟩))⟩)
              · try simp only [decide_eq_true_eq, decide_eq_false_iff_not, Bool.not_eq_true', Bool.not_eq_false', Bool.not_eq_eq_eq_not, Bool.not_true, Bool.not_false, beq_iff_eq, bne_iff_ne, ne_eq, beq_eq_false_iff_ne, bne_eq_false_iff_eq, gt_iff_lt, ge_iff_le, Int.not_lt, Int.not_le] at hg45
                refine wlg_yes rfl (ro_move rfl) ?_
                refine wlg_yes rfl (ro_lenS rfl st_9) ?_
                refine wlg_yes rfl (ro_move rfl) ?_
                refine wlg_yes rfl (ro_arith (r := ((s.length - i : Nat) : Int)) rfl rfl (congrArg some (by omega)) (Go.IntWalk.i64_in _ (by omega))) ?_
                refine wlg_yes rfl (ro_arith (r := ((s.length - i : Nat) : Int) - 4) rfl rfl rfl (Go.IntWalk.i64_in _ (by omega))) ?_
                refine wlg_yes rfl (ro_move rfl) ?_
                refine wlg_yes rfl (ro_cmp (r := decide ((s.length : Int) - i - 4 < pr2 s (i + 2))) rfl rfl (congrArg some (decide_eq_decide.2 (by omega)))) ?_
                refine wl (ro_pick rfl rfl rfl) ?_
                refine wl_nil (x_then (hK17 _ _ ?_))
                clear hK17 K17
                refine wc_cond rfl (fun hc53 => ?_) (fun hc53 => ?_)
                · try simp only [decide_eq_true_eq, decide_eq_false_iff_not, Bool.not_eq_true', Bool.not_eq_false', Bool.not_eq_eq_eq_not, Bool.not_true, Bool.not_false, beq_iff_eq, bne_iff_ne, ne_eq, beq_eq_false_iff_ne, bne_eq_false_iff_eq, gt_iff_lt, ge_iff_le, Int.not_lt, Int.not_le] at hc53
                  refine c_seq (fun K22 hK22 => ?_)
                  refine c_reg ?_ -- region 12 bookm.go:131
                  refine wl (ro_assign rfl) ?_
                  refine wl_nil (x_then (hK22 _ _ ?_))
                  clear hK22 K22
                  refine c_ret (x_thenR (x_blkR (x_thenR (x_blkR (x_thenR ?_)))))
                  refine bp_ret Tryz.results8 rfl ?_
                  first
                    | (exact hbad _ 12 (by rw [hE12 hsl (hJ.bad hc17 (by omega))]; omega) (hE12 hsl (hJ.bad hc17 (by omega))) hF)
                    | (have hr := hJ.fin (by omega)
                       have e1 : ldE s = 0 := by unfold ldE; rw [if_neg (by omega), hr]; rfl
                       have e2 : ldS T s = S' := by unfold ldS; rw [if_neg (by omega), hr]; rfl
                       unfold ldP
                       rw [e1, e2, if_pos rfl, if_pos rfl]
                       have h5 := h4.st (V1' := .slice none 0 0) (V2' := .slice none 0 0) (past' := []) (next' := []) (xs' := []) (ys' := []) hb hFb hK (OwO.nil _ _) (OwO.nil _ _) (fun b q => (by cases q)) (fun b q => (by cases q)) (SnV.nil _ _ _) (SnV.nil _ _ _)
                       exact ⟨rfl, ⟨_, _, sb4, ⟨SL4, _, _, h5.up _⟩, nob.nil _ _, nob.nil _ _, by omega⟩, hF4.trans (hFb.mono (fun k _ hk => by have : k = Y.k := hk; exact .inl ⟨by omega, by omega⟩))⟩)
                · try simp only [decide_eq_true_eq, decide_eq_false_iff_not, Bool.not_eq_true', Bool.not_eq_false', Bool.not_eq_eq_eq_not, Bool.not_true, Bool.not_false, beq_iff_eq, bne_iff_ne, ne_eq, beq_eq_false_iff_ne, bne_eq_false_iff_eq, gt_iff_lt, ge_iff_le, Int.not_lt, Int.not_le] at hc53
                  obtain ⟨c, n, hP⟩ : ∃ c n, PcOK s last i c n := ⟨(pr2 s i).toNat, (pr2 s (i + 2)).toNat, by omega, by omega, by omega, by omega, by omega, by omega, by omega⟩
                  obtain ⟨k1, k2, k3, k4, k5, k6, k7⟩ := id hP
                  rw [k2, k3]
                  refine c_skip (x_then (hK16 _ _ ?_))
                  clear hK16 K16
                  refine forget [(0, _), (1, _), (5, _), (7, _), (8, _), (9, _), (34, _), (35, _), (38, _), (39, _), (42, _), (43, _), (46, _), (47, _), (48, _), (49, _), (50, _), (51, _), (52, _)] ⟨rfl, rfl, rfl, rfl, rfl, rfl, rfl, rfl, rfl, rfl, rfl, rfl, rfl, rfl, rfl, rfl, rfl, rfl, rfl, trivial⟩ (fun e => ?_)
                  refine c_seq (fun K23 hK23 => ?_)
                  refine c_reg ?_ -- region 13 bookm.go:133
                  refine wl (ro_move rfl) ?_
                  refine wl (ro_move rfl) ?_
                  refine wl (ro_move rfl) ?_
                  refine wl (ro_move rfl) ?_
                  refine wl (ro_arith (r := ((i + 4 : Nat) : Int)) rfl rfl rfl (Go.IntWalk.i64_in _ (by omega))) ?_
                  refine wl (ro_move rfl) ?_
                  refine wl (ro_arith (r := ((i + 4 : Nat) : Int)) rfl rfl rfl (Go.IntWalk.i64_in _ (by omega))) ?_
                  refine wl (ro_move rfl) ?_
                  refine wl (ro_arith (r := ((i + 4 + n : Nat) : Int)) rfl rfl rfl (Go.IntWalk.i64_in _ (by omega))) ?_
                  refine wl (ro_sliceSLH (l := i + 4) (h := i + 4 + n) rfl rfl rfl st_9 rfl rfl (by omega) k1) ?_
                  refine wl (ro_indexAddr (et := 9) (k := 1) rfl rfl se_56 (rfl) ((by omega))) ?_
                  refine wl_put rfl rfl rfl sz_9 hU ((rw_fit stc_len (i := c) (j := 0) (m := 1) (by omega) (by omega) (by omega))) ((rw_put stc_len (i := c) (j := 0) (x := tF S' c) (x' := (s.drop (i + 4)).take n) (tF_get (by omega)) (by omega) (by omega) (by rw [Nat.add_sub_cancel_left]; rfl))) (fun w2 hU F2 => ?_)
                  replace hF := hF.thenDrew.thenO F2 (by first | exact .inr (by omega) | exact .inl rfl | exact .inl (by assumption))
                  refine wl_nil (x_then (hK23 _ _ ?_))
                  clear hK23 K23
                  refine forget [(0, _), (1, _), (5, _), (7, _), (8, _), (9, _), (34, _), (35, _), (38, _), (39, _), (42, _), (43, _), (46, _), (47, _), (48, _), (49, _), (50, _), (51, _), (52, _)] ⟨rfl, rfl, rfl, rfl, rfl, rfl, rfl, rfl, rfl, rfl, rfl, rfl, rfl, rfl, rfl, rfl, rfl, rfl, rfl, trivial⟩ (fun e => ?_)
                  refine c_seq (fun K24 hK24 => ?_)
                  refine c_reg ?_ -- region 14 bookm.go:134
                  refine wl (ro_move rfl) ?_
                  refine wl (ro_assign rfl) ?_
                  refine wl_nil (x_then (hK24 _ _ ?_))
                  clear hK24 K24
                  refine c_reg ?_ -- region 15 bookm.go:135
                  refine wl (ro_move rfl) ?_
                  refine wl (ro_arith (r := ((i + 4 : Nat) : Int)) rfl rfl rfl (Go.IntWalk.i64_in _ (by omega))) ?_
                  refine wl (ro_move rfl) ?_
                  refine wl (ro_arith (r := ((i + 4 + n : Nat) : Int)) rfl rfl rfl (Go.IntWalk.i64_in _ (by omega))) ?_
                  refine wl (ro_assign rfl) ?_
                  refine wl_nil (x_blk (x_then ?_))
                  exact ⟨s.length - (i + 4 + n), by omega, c, i + 4 + n, _, rfl, k1, by omega, by omega, hS'.set (by rw [List.length_take]; omega), hJ.go hP, hU, hF, kp _ ⟨rfl, rfl, rfl, rfl, rfl, trivial⟩⟩
    · try simp only [decide_eq_true_eq, decide_eq_false_iff_not, Bool.not_eq_true', Bool.not_eq_false', Bool.not_eq_eq_eq_not, Bool.not_true, Bool.not_false, beq_iff_eq, bne_iff_ne, ne_eq, beq_eq_false_iff_ne, bne_eq_false_iff_eq, gt_iff_lt, ge_iff_le, Int.not_lt, Int.not_le] at hc17
      refine c_exit (x_thenX (x_thenX (x_blkX (x_then (hK8 _ _ ?_)))))
      clear hK9 K9 hK8 K8
      refine forget [(0, _), (5, _)] ⟨rfl, rfl, trivial⟩ (fun e => ?_)
      refine c_seq (fun K25 hK25 => ?_)
      refine c_reg ?_ -- region 16 bookm.go:137
      refine wl (ro_move rfl) ?_
      refine wl (ro_move rfl) ?_
      refine wl_call rfl en_36 (put36 (Z := S') hb (by have := hF.size; omega) (h.farN hb hF).hK (h.farN hb hF).hv hS' (by omega) hU) ?_
      rintro _ u4 ⟨⟨sb4, SL4, hs4, hv4⟩, G4⟩
      have h4 := (h.farN hb hF).ed hb G4 hv4
      have hK := h4.hK
      have hF4 : Fram (MkS lo hi V1 V2) w u4 := (hF.mono (fun _ _ q => q.elim)).trans (G4.mono (fun k _ hk => .inl ⟨hk.1, by have := hk.2; omega⟩))
      have hsz4 := hF.size
      clear hF hU
      refine wl_nil (x_then (hK25 _ _ ?_))
      clear hK25 K25
      refine forget [(0, _)] ⟨rfl, trivial⟩ (fun e => ?_)
      refine c_seq (fun K26 hK26 => ?_)
      refine c_reg ?_ -- region 17 bookm.go:138
      refine wl (ro_move rfl) ?_
      refine wl (ro_move rfl) ?_
      refine wl (ro_nilCheck rfl) ?_
      refine wl (ro_fieldAddr (k := 1) rfl fo_53_1) ?_
      refine wl_put rfl rfl rfl sz_51 hK ((by simp)) (rfl) (fun w3 hK F3 => ?_)
      have hFa := F3
      refine wl (ro_nilCheck rfl) ?_
      refine wl (ro_fieldAddr (k := 2) rfl fo_53_2) ?_
      refine wl_put rfl rfl rfl sz_51 hK ((by simp)) (rfl) (fun w4 hK F4 => ?_)
      have hFb := hFa.trans F4
      refine wl_nil (x_then (hK26 _ _ ?_))
      clear hK26 K26
      refine forget [] trivial (fun e => ?_)
      refine c_seq (fun K27 hK27 => ?_)
      refine c_reg ?_ -- region 18 bookm.go:139
      refine wl (ro_assign rfl) ?_
      refine wl_nil (x_then (hK27 _ _ ?_))
      clear hK27 K27
      refine c_ret ?_
      refine bp_ret Tryz.results8 rfl ?_
      first
        | (exact hbad _ 12 (by rw [hE12 hsl (hJ.bad hc17 (by omega))]; omega) (hE12 hsl (hJ.bad hc17 (by omega))) hF)
        | (have hr := hJ.fin (by omega)
           have e1 : ldE s = 0 := by unfold ldE; rw [if_neg (by omega), hr]; rfl
           have e2 : ldS T s = S' := by unfold ldS; rw [if_neg (by omega), hr]; rfl
           unfold ldP
           rw [e1, e2, if_pos rfl, if_pos rfl]
           have h5 := h4.st (V1' := .slice none 0 0) (V2' := .slice none 0 0) (past' := []) (next' := []) (xs' := []) (ys' := []) hb hFb hK (OwO.nil _ _) (OwO.nil _ _) (fun b q => (by cases q)) (fun b q => (by cases q)) (SnV.nil _ _ _) (SnV.nil _ _ _)
           exact ⟨rfl, ⟨_, _, sb4, ⟨SL4, _, _, h5.up _⟩, nob.nil _ _, nob.nil _ _, by omega⟩, hF4.trans (hFb.mono (fun k _ hk => by have : k = Y.k := hk; exact .inl ⟨by omega, by omega⟩))⟩)

end Go.Proofs.Qxb6500570aGreat
