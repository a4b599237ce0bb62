import Derived.Test.Qxb6500570aGreatMb
import Derived.Test.Qxb6500570aGreatQd
/- The real book: a command is noted; all is forgotten. -/
namespace Go.Proofs.Qxb6500570aGreat
set_option linter.unusedVariables false
set_option linter.unusedSimpArgs false

def kptS (X : BB) : Nat → Prop := fun b => b = X.k ∨ b = X.p ∨ b = X.t
/-- The ring in memory. -/
structure RgV (w : World) (X : BB) (b u r : Nat) (L : Nat → Bool) (h : Nat → Nat → Tx) (P : List Tx) (M : List Nat) : Prop where
  hK : Blk w.heap X.k (bst X b u r) 60
  hP : Blk w.heap X.p (rws stc P) 9
  hM : Blk w.heap X.t (rws msc M) 85
  rg : Rg P M b L h
def Noted (past : List (List Tx)) (W T : List Tx) (w : World) (X : BB) : Prop := ∃ u h b P M, Hst past W T h u ∧ RgV w X b u 0 (fun k => decide (k < u)) h P M
set_option maxHeartbeats 16000000 in
theorem note43 {w : World} {X : BB} {lo hi b : Nat} {P : List Tx} {M : List Nat} {past next : List (List Tx)} {W U T : List Tx} {SL : List Vl} (hb : BaB lo hi X) (hwl : W.length = 24) (hK : Blk w.heap X.k (bst X b past.length next.length) 60) (hP : Blk w.heap X.p (rws stc P) 9) (hM : Blk w.heap X.t (rws msc M) 85) (hW : Blk w.heap X.s (rws stc W) 9)
    (hR : Rg P M b (fun k => decide (k < past.length + next.length)) (hst past W next)) (hn : past.length + next.length ≤ 6) (h : DaV w X.D U T SL) :
    Ret Tryz.prog 43 [ptr X.k] w (fun v w' => (∃ b' P' M', RgV w' X b' (cutP (past ++ [W])).length 0 (fun k => decide (k < (cutP (past ++ [W])).length + 0)) (hst (cutP (past ++ [W])) T []) P' M') ∧ Fram (kptS X) w w') := by
  have hF : Fram (kptS X) w w := Fram.refl _ _
  have hm1 : kptS X X.k := .inl rfl
  have hm2 : kptS X X.p := .inr (.inl rfl)
  have hm3 : kptS X X.t := .inr (.inr rfl)
  obtain ⟨hdb, b1, b2, b3, b4, b5, b6⟩ := hb
  have hfar : ∀ b, lo ≤ b → b < X.h → ¬ kptS X b := fun b _ q2 hh => by rcases hh with q | q | q <;> omega
  generalize hu0 : past.length = u0 at hK hR hn
  generalize hr0 : next.length = r0 at hK hR hn
  refine ret_of Tryz.func43 rfl Tryz.ntmps43 rfl ?_
  refine c_seq (fun K1 hK1 => ?_)
  refine c_block ?_
  -- loop@r0: live slots [0]
  refine c_loopG (fun m a' w' => ∃ P M, m ≤ r0 ∧ Rg P M b (fun k => decide (k < u0 + m)) (hst past W next) ∧ Blk w'.heap X.k (bst X b u0 m) 60 ∧ Blk w'.heap X.p (rws stc P) 9 ∧ Blk w'.heap X.t (rws msc M) 85 ∧ Blk w'.heap X.s (rws stc W) 9 ∧ DaV w' X.D U T SL ∧ Fram (kptS X) w w' ∧ ∃ e, a' = Fr 124 (upds e [(0, ptr X.k)]) []) r0 ⟨P, M, by omega, hR, hK, hP, hM, hW, h, hF, kp _ ⟨rfl, trivial⟩⟩ ?_
  clear hF hK hP hM hW h hR
  rintro m a' u1 ⟨P, M, hm, hR, hK, hP, hM, hW, h, hF, e, rfl⟩
  have hpl := hR.pl
  have hml := hR.ml
  have hb6 := hR.b6
  refine c_seq (fun K2 hK2 => ?_)
  refine c_seq (fun K3 hK3 => ?_)
  refine c_reg ?_ -- region 0 ring.go:35
  refine wl (ro_move rfl) ?_
  refine wl (ro_nilCheck rfl) ?_
  refine wl (ro_fieldAddr (k := 5) rfl fo_60_5) ?_
  refine wl (ro_loadB rfl sc_3 (by assumption) rfl) ?_
  refine wl (ro_cmp (r := decide (0 < m)) rfl rfl (congrArg some (decide_eq_decide.2 (by omega)))) ?_
  refine wl_nil (x_then (hK3 _ _ ?_))
  clear hK3 K3
  refine wc_cond rfl (fun hc12 => ?_) (fun hc12 => ?_)
  · try simp only [decide_eq_true_eq, decide_eq_false_iff_not, Bool.not_eq_true', Bool.not_eq_false', Bool.not_eq_eq_eq_not, Bool.not_true, Bool.not_false, beq_iff_eq, bne_iff_ne, ne_eq, beq_eq_false_iff_ne, bne_eq_false_iff_eq, gt_iff_lt, ge_iff_le, Int.not_lt, Int.not_le] at hc12
    refine c_skip (x_then (hK2 _ _ ?_))
    clear hK2 K2
    refine c_block ?_
    refine forget [(0, _)] ⟨rfl, trivial⟩ (fun e => ?_)
    refine c_seq (fun K4 hK4 => ?_)
    refine c_reg ?_ -- region 1 ring.go:36
    refine wl (ro_move rfl) ?_
    refine wl (ro_nilCheck rfl) ?_
    refine wl (ro_fieldAddr (k := 5) rfl fo_60_5) ?_
    refine wl (ro_loadB rfl sc_3 (by assumption) rfl) ?_
    refine wl (ro_arith (r := ((m - 1 : Nat) : Int)) rfl rfl (congrArg some (by omega)) (Go.IntWalk.i64_in _ (by omega))) ?_
    refine wl (ro_nilCheck rfl) ?_
    refine wl (ro_fieldAddr (k := 5) rfl fo_60_5) ?_
    refine wl_put rfl rfl rfl sz_3 hK ((by simp)) ((show _ = bst X b u0 (m - 1) from rfl)) (fun w1 hK F1 => ?_)
    replace hF := hF.thenDrew.thenO F1 (by first | exact .inr (by omega) | exact .inl rfl | exact .inl (by assumption))
    replace hP := F1.blkO hP (by omega)
    replace hM := F1.blkO hM (by omega)
    replace hW := F1.blkO hW (by omega)
    replace h := DaV.far hdb h F1 (fun b q1 q2 hh ↦ absurd (show b = X.k from hh) (by omega))
    refine wl_nil (x_then (hK4 _ _ ?_))
    clear hK4 K4
    refine forget [(0, _)] ⟨rfl, trivial⟩ (fun e => ?_)
    refine c_seq (fun K5 hK5 => ?_)
    refine c_pi [(0, false), (1, false), (2, false), (3, false), (4, false), (5, false), (6, false), (7, false), (8, false), (9, false), (10, true), (11, false)] (fun w' => Blk w'.heap X.k (bst X b u0 (m - 1)) 60) mixed (by kernel_rfl) rfl (by kernel_rfl) (po_then (po_blk (po_then (po_blk (po_then (po_bp)))))) (hK) ?_ -- region 2 ring.go:37
    refine pi_ro rfl (fun w hS => ro_move rfl) ?_
    refine pi_ro rfl (fun w hS => ro_move rfl) ?_
    refine pi_ro rfl (fun w hS => ro_nilCheck rfl) ?_
    refine pi_ro rfl (fun w hS => ro_fieldAddr (k := 4) rfl fo_60_4) ?_
    refine pi_ro rfl (fun w hS => ro_loadB rfl sc_3 (hS) (rfl)) ?_
    refine pi_ro rfl (fun w hS => ro_move rfl) ?_
    refine pi_ro rfl (fun w hS => ro_nilCheck rfl) ?_
    refine pi_ro rfl (fun w hS => ro_fieldAddr (k := 5) rfl fo_60_5) ?_
    refine pi_ro rfl (fun w hS => ro_loadB rfl sc_3 (hS) (rfl)) ?_
    refine pi_ro rfl (fun w hS => ro_arith (r := ((u0 + (m - 1) : Nat) : Int)) rfl rfl rfl (Go.IntWalk.i64_in _ (by omega))) ?_
    refine pi_call rfl rfl en_51 (slot51 hK hb6 (by omega)) ?_
    rintro _ _ ⟨rfl, rfl⟩
    refine ⟨hK, ?_⟩
    refine pi_ro rfl (fun w hS => ro_assign rfl) ?_
    refine pi_nil (x_then (hK5 _ _ ?_))
    clear hK5 K5
    refine c_reg ?_ -- region 3 ring.go:38
    refine wl (ro_move rfl) ?_
    refine wl (ro_move rfl) ?_
    refine wl_call rfl en_60 (wipe60 b2 b3 hK hP hM hpl hml (Nat.mod_lt _ (by omega)) (hR.slot (k := u0 + (m - 1)) (by omega) (decide_eq_true (by omega)))) ?_
    rintro _ u2 ⟨hP2, hM2, G2⟩
    have hR2 := (hR.wipe (k0 := u0 + (m - 1)) (by omega)).congr (L' := fun k => decide (k < u0 + (m - 1))) (h' := hst past W next) (fun k hk => by
      show (if k = u0 + (m - 1) then false else decide (k < u0 + m)) = _
      by_cases q : k = u0 + (m - 1)
      · rw [if_pos q]; exact (decide_eq_false (by omega)).symm
      · rw [if_neg q]; exact decide_eq_decide.2 (by omega)) (fun k hk _ c hc => ⟨rfl, rfl⟩)
    replace hF := hF.thenDrew.trans (G2.mono (fun k _ hk => .inr hk))
    replace hK := G2.blkF hK (fun q => by rcases q with q | q <;> omega)
    replace hW := G2.blkF hW (fun q => by rcases q with q | q <;> omega)
    replace h := (h.far hdb (Fram.drew none' _ _) (fun _ _ _ q => q)).far hdb G2 (fun b q1 q2 hh => by rcases hh with q | q <;> omega)
    refine wl_nil (x_blk (x_then ?_))
    exact ⟨m - 1, by omega, _, _, by omega, hR2, hK, hP2, hM2, hW, h, hF, kp _ ⟨rfl, trivial⟩⟩
  · try simp only [decide_eq_true_eq, decide_eq_false_iff_not, Bool.not_eq_true', Bool.not_eq_false', Bool.not_eq_eq_eq_not, Bool.not_true, Bool.not_false, beq_iff_eq, bne_iff_ne, ne_eq, beq_eq_false_iff_ne, bne_eq_false_iff_eq, gt_iff_lt, ge_iff_le, Int.not_lt, Int.not_le] at hc12
    refine c_exit (x_thenX (x_thenX (x_blkX (x_then (hK1 _ _ ?_)))))
    clear hK2 K2 hK1 K1
    refine c_mid (fun a' w' => Noted past W T w' X ∧ Blk w'.heap X.s (rws stc W) 9 ∧ DaV w' X.D U T SL ∧ Fram (kptS X) w w' ∧ ∃ e, a' = Fr 124 (upds e [(0, ptr X.k)]) []) ?_ ?_
    · skip
      refine c_seq (fun K6 hK6 => ?_)
      refine c_reg ?_ -- region 4 ring.go:40
      refine wl (ro_move rfl) ?_
      refine wl (ro_nilCheck rfl) ?_
      refine wl (ro_fieldAddr (k := 4) rfl fo_60_4) ?_
      refine wl (ro_loadB rfl sc_3 (by assumption) rfl) ?_
      refine wl (ro_cmp (r := decide (u0 = 6)) rfl rfl (congrArg some (decide_eq_decide.2 (by omega)))) ?_
      refine wl_nil (x_then (hK6 _ _ ?_))
      clear hK6 K6
      refine wc_cond rfl (fun hc38 => ?_) (fun hc38 => ?_)
      · try simp only [decide_eq_true_eq, decide_eq_false_iff_not, Bool.not_eq_true', Bool.not_eq_false', Bool.not_eq_eq_eq_not, Bool.not_true, Bool.not_false, beq_iff_eq, bne_iff_ne, ne_eq, beq_eq_false_iff_ne, bne_eq_false_iff_eq, gt_iff_lt, ge_iff_le, Int.not_lt, Int.not_le] at hc38
        have : m = 0 := by omega
        subst this
        have e0 : (b + 0) % 6 = b := by omega
        have hr00 := hR.slot (k := 0) (by omega) (decide_eq_true (by omega))
        rw [e0] at hr00
        refine c_seq (fun K7 hK7 => ?_)
        refine c_reg ?_ -- region 5 ring.go:41
        refine wl (ro_move rfl) ?_
        refine wl (ro_move rfl) ?_
        refine wl (ro_nilCheck rfl) ?_
        refine wl (ro_fieldAddr (k := 3) rfl fo_60_3) ?_
        refine wl (ro_loadB rfl sc_3 (by assumption) rfl) ?_
        refine wl_call rfl en_60 (wipe60 b2 b3 hK hP hM hpl hml hb6 hr00) ?_
        rintro _ u2 ⟨hP2, hM2, G2⟩
        have hR2 := (hR.wipe (k0 := 0) (by omega)).turn rfl
        rw [e0] at hR2
        replace hF := hF.trans (G2.mono (fun k _ hk => .inr hk))
        replace hK := G2.blkF hK (fun q => by rcases q with q | q <;> omega)
        replace hW := G2.blkF hW (fun q => by rcases q with q | q <;> omega)
        replace h := h.far hdb G2 (fun b q1 q2 hh => by rcases hh with q | q <;> omega)
        clear hP hM
        have hP := hP2
        have hM := hM2
        refine wl_nil (x_then (hK7 _ _ ?_))
        clear hK7 K7
        refine forget [(0, _)] ⟨rfl, trivial⟩ (fun e => ?_)
        refine c_seq (fun K8 hK8 => ?_)
        refine c_reg ?_ -- region 6 ring.go:42
        refine wl (ro_move rfl) ?_
        refine wl (ro_move rfl) ?_
        refine wl_call rfl en_51 (slot51 (j := 1) hK hb6 (by omega)) ?_
        rintro _ _ ⟨rfl, rfl⟩
        refine wl (ro_nilCheck rfl) ?_
        refine wl (ro_fieldAddr (k := 3) rfl fo_60_3) ?_
        refine wl_put rfl rfl rfl sz_3 hK ((by simp)) ((show _ = bst X ((b + 1) % 6) u0 0 from rfl)) (fun w2 hK F2 => ?_)
        replace hF := hF.thenDrew.thenO F2 (by first | exact .inr (by omega) | exact .inl rfl | exact .inl (by assumption))
        replace hP := F2.blkO hP (by omega)
        replace hM := F2.blkO hM (by omega)
        replace hW := F2.blkO hW (by omega)
        replace h := DaV.far hdb h F2 (fun b q1 q2 hh ↦ absurd (show b = X.k from hh) (by omega))
        refine wl_nil (x_then (hK8 _ _ ?_))
        clear hK8 K8
        refine c_reg ?_ -- region 7 ring.go:43
        refine wl (ro_move rfl) ?_
        refine wl (ro_nilCheck rfl) ?_
        refine wl (ro_fieldAddr (k := 4) rfl fo_60_4) ?_
        refine wl (ro_loadB rfl sc_3 (by assumption) rfl) ?_
        refine wl (ro_arith (r := ((5 : Nat) : Int)) rfl rfl (congrArg some (by omega)) (Go.IntWalk.i64_in _ (by omega))) ?_
        refine wl (ro_nilCheck rfl) ?_
        refine wl (ro_fieldAddr (k := 4) rfl fo_60_4) ?_
        refine wl_put rfl rfl rfl sz_3 hK ((by simp)) ((show _ = bst X ((b + 1) % 6) 5 0 from rfl)) (fun w3 hK F3 => ?_)
        replace hF := hF.thenDrew.thenO F3 (by first | exact .inr (by omega) | exact .inl rfl | exact .inl (by assumption))
        replace hP := F3.blkO hP (by omega)
        replace hM := F3.blkO hM (by omega)
        replace hW := F3.blkO hW (by omega)
        replace h := DaV.far hdb h F3 (fun b q1 q2 hh ↦ absurd (show b = X.k from hh) (by omega))
        refine wl_nil (x_then ?_)
        refine ⟨⟨5, _, (b + 1) % 6, _, _, Hst.full (next := next) (by omega), hK, hP, hM, hR2.congr (fun k hk => ?_) (fun k hk _ c hc => ⟨rfl, rfl⟩)⟩, hW, h, hF, kp _ ⟨rfl, trivial⟩⟩
        show (decide (k < 5) && (if k + 1 = 0 then false else decide (k + 1 < u0 + 0))) = decide (k < 5)
        rw [if_neg (by omega)]
        by_cases q : k < 5
        · rw [decide_eq_true q, decide_eq_true (by omega)]; rfl
        · rw [decide_eq_false q]; rfl
      · try simp only [decide_eq_true_eq, decide_eq_false_iff_not, Bool.not_eq_true', Bool.not_eq_false', Bool.not_eq_eq_eq_not, Bool.not_true, Bool.not_false, beq_iff_eq, bne_iff_ne, ne_eq, beq_eq_false_iff_ne, bne_eq_false_iff_eq, gt_iff_lt, ge_iff_le, Int.not_lt, Int.not_le] at hc38
        refine c_skip (x_then ?_)
        have : m = 0 := by omega
        subst this
        refine ⟨⟨u0, _, b, P, M, ?_, hK, hP, hM, hR⟩, hW, h, hF, kp _ ⟨rfl, trivial⟩⟩
        rw [← hu0]
        exact Hst.small (by omega)
    clear hF hK hP hM hW h
    rintro a' u3 ⟨⟨u, hh, bb, P1, M1, hH, hK, hP, hM, hR1⟩, hW, h, hF, e, rfl⟩
    have hu6 := hH.u6
    have hpl1 := hR1.pl
    have hml1 := hR1.ml
    have hb61 := hR1.b6
    have hs6 : (bb + u) % 6 < 6 := Nat.mod_lt _ (by omega)
    generalize hs : (bb + u) % 6 = s at hs6
    have hdead : ∀ c, c < 24 → tF P1 (plc s c) = [] ∧ tF P1 (plc s c + 1) = [] := fun c hc => by
      have := hR1.rc u hu6
      rw [show (decide (u < u)) = false from decide_eq_false (by omega), hs] at this
      exact ⟨(this.p0 c hc).trans (by simp [zT]), (this.p1 c hc).trans (by simp [zT])⟩
    refine c_seq (fun K9 hK9 => ?_)
    refine c_reg ?_ -- region 8 ring.go:45
    refine wl (ro_move rfl) ?_
    refine wl (ro_move rfl) ?_
    refine wl (ro_nilCheck rfl) ?_
    refine wl (ro_fieldAddr (k := 4) rfl fo_60_4) ?_
    refine wl (ro_loadB rfl sc_3 (by assumption) rfl) ?_
    refine wl_call rfl en_51 (slot51 hK hb61 (by omega)) ?_
    rintro _ _ ⟨rfl, rfl⟩
    rw [hs]
    refine wl (ro_assign rfl) ?_
    refine wl_nil (x_then (hK9 _ _ ?_))
    clear hK9 K9
    refine forget [(0, _), (3, _)] ⟨rfl, rfl, trivial⟩ (fun e => ?_)
    refine c_seq (fun K10 hK10 => ?_)
    refine c_reg ?_ -- region 9 ring.go:46
    refine wl (ro_assign rfl) ?_
    refine wl_nil (x_then (hK10 _ _ ?_))
    clear hK10 K10
    refine c_seq (fun K11 hK11 => ?_)
    refine c_seq (fun K12 hK12 => ?_)
    refine c_reg ?_ -- region 10 ring.go:47
    refine wl (ro_assign rfl) ?_
    refine wl_nil (x_then (hK12 _ _ ?_))
    clear hK12 K12
    refine c_block ?_
    -- loop@r11: live slots [0, 3, 4, 5]
    refine c_loopG (fun m a' w' => ∃ i, m = 24 - i ∧ i ≤ 24 ∧ Blk w'.heap X.k (bst X bb u 0) 60 ∧ Blk w'.heap X.p (rws stc (stP P1 s (fun c => if tF W c = tF T c then [] else tF W c) (fun c => if tF W c = tF T c then [] else tF T c) i)) 9 ∧ Blk w'.heap X.t (rws msc M1) 85 ∧ Blk w'.heap X.s (rws stc W) 9 ∧ DaV w' X.D U T SL ∧ Fram (kptS X) w w' ∧ ∃ e, a' = Fr 124 (upds e [(0, ptr X.k), (3, i64c s), (4, u32c (mkM (tF W) (tF T) i)), (5, i64c i)]) []) 24 ⟨0, rfl, by omega, hK, hP, hM, hW, h, hF, kp _ ⟨rfl, rfl, rfl, rfl, trivial⟩⟩ ?_
    clear hF hK hP hM hW h
    rintro m a' u4 ⟨i, rfl, hi, hK, hP, hM, hW, h, hF, e, rfl⟩
    have hpl' : (stP P1 s (fun c => if tF W c = tF T c then [] else tF W c) (fun c => if tF W c = tF T c then [] else tF T c) i).length = 288 := by rw [stP_len]; exact hpl1
    have hmk := mkM_lt (tF W) (tF T) i
    refine c_seq (fun K13 hK13 => ?_)
    refine c_seq (fun K14 hK14 => ?_)
    refine c_reg ?_ -- region 11 ring.go:47
    refine wl (ro_move rfl) ?_
    refine wl (ro_cmp (r := decide (i < 24)) rfl rfl (congrArg some (decide_eq_decide.2 (by omega)))) ?_
    refine wl_nil (x_then (hK14 _ _ ?_))
    clear hK14 K14
    refine wc_cond rfl (fun hc64 => ?_) (fun hc64 => ?_)
    · try simp only [decide_eq_true_eq, decide_eq_false_iff_not, Bool.not_eq_true', Bool.not_eq_false', Bool.not_eq_eq_eq_not, Bool.not_true, Bool.not_false, beq_iff_eq, bne_iff_ne, ne_eq, beq_eq_false_iff_ne, bne_eq_false_iff_eq, gt_iff_lt, ge_iff_le, Int.not_lt, Int.not_le] at hc64
      have hpc := plc_lt hs6 hc64
      have hmk2 : mkM (tF W) (tF T) i < 2 ^ 24 := Nat.lt_of_lt_of_le hmk (Nat.pow_le_pow_right (by omega) hi)
      refine c_skip (x_then (hK13 _ _ ?_))
      clear hK13 K13
      refine forget [(0, _), (3, _), (4, _), (5, _)] ⟨rfl, rfl, rfl, rfl, trivial⟩ (fun e => ?_)
      refine c_seq (fun K15 hK15 => ?_)
      refine c_block ?_
      refine c_seq (fun K16 hK16 => ?_)
      refine c_reg ?_ -- region 13 ring.go:48
      refine wl (ro_move rfl) ?_
      refine wl (ro_nilCheck rfl) ?_
      refine wl (ro_fieldAddr (k := 0) rfl fo_60_0) ?_
      refine wl (ro_loadB rfl sc_46 (by assumption) rfl) ?_
      refine wl (ro_move rfl) ?_
      refine wl_call rfl en_32 (Raw32 h) ?_
      rintro _ u0 ⟨rfl, hw0⟩
      rw [getS_nat hc64, hw0]
      clear hw0 u0
      refine wl (ro_assign rfl) ?_
      refine wl_nil (x_then (hK16 _ _ ?_))
      clear hK16 K16
      refine forget [(0, _), (3, _), (4, _), (5, _), (6, _)] ⟨rfl, rfl, rfl, rfl, rfl, trivial⟩ (fun e => ?_)
      refine c_seq (fun K17 hK17 => ?_)
      refine c_reg ?_ -- region 14 ring.go:49
      refine wl (ro_move rfl) ?_
      refine wl (ro_move rfl) ?_
      refine wl (ro_nilCheck rfl) ?_
      refine wl (ro_fieldAddr (k := 6) rfl fo_60_6) ?_
      refine wl (ro_loadB rfl sc_56 (by assumption) rfl) ?_
      refine wl (ro_move rfl) ?_
      refine wl (ro_indexAddr (et := 9) (k := 1) rfl rfl se_56 (rfl) ((by omega))) ?_
      refine wl (ro_loadB rfl sc_9 (hW) ((rw_get stc_len (tF_get (T := W) (c := i) (by omega)) (j := 0) (by omega) rfl))) ?_
      refine wl (ro_eqS (l := tF T i) (m := tF W i) (r := decide (tF T i ≠ tF W i)) rfl rfl (congrArg some (by by_cases h : tF T i = tF W i <;> simp [h]))) ?_
      refine wl_nil (x_then (hK17 _ _ ?_))
      clear hK17 K17
      refine wc_cond rfl (fun hc81 => ?_) (fun hc81 => ?_)
      · try simp only [decide_eq_true_eq, decide_eq_false_iff_not, Bool.not_eq_true', Bool.not_eq_false', Bool.not_eq_eq_eq_not, Bool.not_true, Bool.not_false, beq_iff_eq, bne_iff_ne, ne_eq, beq_eq_false_iff_ne, bne_eq_false_iff_eq, gt_iff_lt, ge_iff_le, Int.not_lt, Int.not_le] at hc81
        refine c_seq (fun K18 hK18 => ?_)
        refine c_reg ?_ -- region 15 ring.go:50
        refine wl (ro_move rfl) ?_
        refine wl (ro_move rfl) ?_
        refine wl_call rfl en_65 (place65 hs6 hc64) ?_
        rintro _ u0 ⟨rfl, hw0⟩
        rw [hw0]
        clear hw0 u0
        refine wl (ro_assign rfl) ?_
        refine wl_nil (x_then (hK18 _ _ ?_))
        clear hK18 K18
        refine forget [(0, _), (3, _), (4, _), (5, _), (6, _), (7, _)] ⟨rfl, rfl, rfl, rfl, rfl, rfl, trivial⟩ (fun e => ?_)
        refine c_seq (fun K19 hK19 => ?_)
        refine c_piL 13 [(0, false), (1, false), (2, false), (3, false), (4, false), (5, false), (6, false), (7, false), (8, false), (9, false), (10, false), (11, false), (12, false)] (fun w' => Blk w'.heap X.k (bst X bb u 0) 60 ∧ Blk w'.heap X.s (rws stc W) 9) mixed (by kernel_rfl) rfl (by kernel_rfl) (po_then (po_blk (po_then (po_then (po_blk (po_then (po_bp))))))) (⟨hK, hW⟩) ?_ -- region 16 ring.go:51
        refine ql_ro rfl (fun w hS => ro_move rfl) ?_
        refine ql_ro rfl (fun w hS => ro_nilCheck rfl) ?_
        refine ql_ro rfl (fun w hS => ro_fieldAddr (k := 1) rfl fo_60_1) ?_
        refine ql_ro rfl (fun w hS => ro_loadB rfl sc_56 (hS.1) (rfl)) ?_
        refine ql_ro rfl (fun w hS => ro_move rfl) ?_
        refine ql_ro rfl (fun w hS => ro_move rfl) ?_
        refine ql_ro rfl (fun w hS => ro_nilCheck rfl) ?_
        refine ql_ro rfl (fun w hS => ro_fieldAddr (k := 6) rfl fo_60_6) ?_
        refine ql_ro rfl (fun w hS => ro_loadB rfl sc_56 (hS.1) (rfl)) ?_
        refine ql_ro rfl (fun w hS => ro_move rfl) ?_
        refine ql_ro rfl (fun w hS => ro_indexAddr (et := 9) (k := 1) rfl rfl se_56 (rfl) ((by omega))) ?_
        refine ql_ro rfl (fun w hS => ro_loadB rfl sc_9 (hS.2) ((rw_get stc_len (tF_get (T := W) (c := i) (by omega)) (j := 0) (by omega) rfl))) ?_
        refine ql_ro rfl (fun w hS => ro_indexAddr (et := 9) (k := 1) rfl rfl se_56 (rfl) ((by omega))) ?_
        refine ql_put rfl rfl rfl rfl sz_9 hP ((rw_fit stc_len (i := plc s i) (j := 0) (m := 1) (by omega) (by omega) (by omega))) ((rw_put stc_len (i := plc s i) (j := 0) (x := tF _ (plc s i)) (x' := tF W i) (tF_get (by omega)) (by omega) (by omega) rfl)) (fun w4 hP F4 => ?_)
        replace hF := hF.thenDrew.thenO F4 (by first | exact .inr (by omega) | exact .inl rfl | exact .inl (by assumption))
        replace hK := F4.blkO hK (by omega)
        replace hM := F4.blkO hM (by omega)
        replace hW := F4.blkO hW (by omega)
        replace h := DaV.far hdb (DaV.far hdb h (Fram.drew none' u4 _) (fun _ _ _ q ↦ q)) F4 (fun b q1 q2 hh ↦ absurd (show b = X.p from hh) (by omega))
        refine x_then (hK19 _ _ ?_)
        clear hK19 K19
        refine forget [(0, _), (3, _), (4, _), (5, _), (6, _), (7, _)] ⟨rfl, rfl, rfl, rfl, rfl, rfl, trivial⟩ (fun e => ?_)
        refine c_seq (fun K20 hK20 => ?_)
        refine c_reg ?_ -- region 17 ring.go:52
        refine wl (ro_move rfl) ?_
        refine wl (ro_nilCheck rfl) ?_
        refine wl (ro_fieldAddr (k := 1) rfl fo_60_1) ?_
        refine wl (ro_loadB rfl sc_56 (by assumption) rfl) ?_
        refine wl (ro_move rfl) ?_
        refine wl (ro_arith (r := ((plc s i + 1 : Nat) : Int)) rfl rfl rfl (Go.IntWalk.i64_in _ (by omega))) ?_
        refine wl (ro_move rfl) ?_
        refine wl (ro_indexAddr (et := 9) (k := 1) rfl rfl se_56 (rfl) ((by omega))) ?_
        refine wl_put rfl rfl rfl sz_9 hP ((rw_fit stc_len (i := plc s i + 1) (j := 0) (m := 1) (by rw [List.length_set]; omega) (by omega) (by omega))) ((rw_put stc_len (i := plc s i + 1) (j := 0) (x := tF _ (plc s i + 1)) (x' := tF T i) (tF_get (by rw [List.length_set]; omega)) (by omega) (by omega) rfl)) (fun w5 hP F5 => ?_)
        replace hF := hF.thenDrew.thenO F5 (by first | exact .inr (by omega) | exact .inl rfl | exact .inl (by assumption))
        replace hK := F5.blkO hK (by omega)
        replace hM := F5.blkO hM (by omega)
        replace hW := F5.blkO hW (by omega)
        replace h := DaV.far hdb h F5 (fun b q1 q2 hh ↦ absurd (show b = X.p from hh) (by omega))
        refine wl_nil (x_then (hK20 _ _ ?_))
        clear hK20 K20
        refine c_reg ?_ -- region 18 ring.go:53
        refine wl (ro_move rfl) ?_
        refine wl (ro_move rfl) ?_
        refine wl_call rfl en_66 (Bit66 hc64) ?_
        rintro _ _ ⟨rfl, rfl⟩
        have hbc := bit_lt hc64
        refine wl (ro_or32 rfl rfl (by omega) (by omega)) ?_
        refine wl (ro_assign rfl) ?_
        refine wl_nil (x_blk (x_then (hK15 _ _ ?_)))
        clear hK15 K15
        refine c_reg ?_ -- region 12 ring.go:47
        refine wl (ro_move rfl) ?_
        refine wl (ro_arith (r := ((i + 1 : Nat) : Int)) rfl rfl rfl (Go.IntWalk.i64_in _ (by omega))) ?_
        refine wl (ro_assign rfl) ?_
        refine wl_nil (x_then ?_)
        have hne : ¬ (tF W i = tF T i) := fun q => hc81 q.symm
        have em : mkM (tF W) (tF T) (i + 1) = mkM (tF W) (tF T) i ||| 2 ^ i := by show (if tF W i = tF T i then _ else _) = _; rw [if_neg hne]
        refine ⟨24 - (i + 1), by omega, i + 1, rfl, by omega, hK, ?_, hM, hW, h, hF, kp _ ⟨rfl, rfl, by rw [em]; rfl, rfl, trivial⟩⟩
        show Blk _ X.p (rws stc (((stP P1 s _ _ i).set (plc s i) (if tF W i = tF T i then [] else tF W i)).set (plc s i + 1) (if tF W i = tF T i then [] else tF T i))) 9
        rw [if_neg hne, if_neg hne]
        exact hP
      · try simp only [decide_eq_true_eq, decide_eq_false_iff_not, Bool.not_eq_true', Bool.not_eq_false', Bool.not_eq_eq_eq_not, Bool.not_true, Bool.not_false, beq_iff_eq, bne_iff_ne, ne_eq, beq_eq_false_iff_ne, bne_eq_false_iff_eq, gt_iff_lt, ge_iff_le, Int.not_lt, Int.not_le] at hc81
        refine c_skip (x_blk (x_then (hK15 _ _ ?_)))
        clear hK15 K15
        refine c_reg ?_ -- region 12 ring.go:47
        refine wl (ro_move rfl) ?_
        refine wl (ro_arith (r := ((i + 1 : Nat) : Int)) rfl rfl rfl (Go.IntWalk.i64_in _ (by omega))) ?_
        refine wl (ro_assign rfl) ?_
        refine wl_nil (x_then ?_)
        have hne : tF W i = tF T i := (Classical.not_not.1 hc81).symm
        have em : mkM (tF W) (tF T) (i + 1) = mkM (tF W) (tF T) i := by show (if tF W i = tF T i then _ else _) = _; rw [if_pos hne]
        rw [← stP_same hpl1 hs6 hc64 (by rw [(hdead i hc64).1, if_pos hne]) (by rw [(hdead i hc64).2, if_pos hne])] at hP
        exact ⟨24 - (i + 1), by omega, i + 1, rfl, by omega, hK, hP, hM, hW, h, hF, kp _ ⟨rfl, rfl, by rw [em]; rfl, rfl, trivial⟩⟩
    · try simp only [decide_eq_true_eq, decide_eq_false_iff_not, Bool.not_eq_true', Bool.not_eq_false', Bool.not_eq_eq_eq_not, Bool.not_true, Bool.not_false, beq_iff_eq, bne_iff_ne, ne_eq, beq_eq_false_iff_ne, bne_eq_false_iff_eq, gt_iff_lt, ge_iff_le, Int.not_lt, Int.not_le] at hc64
      refine c_exit (x_thenX (x_thenX (x_blkX (x_then (hK11 _ _ ?_)))))
      clear hK13 K13 hK11 K11
      refine forget [(0, _), (3, _), (4, _)] ⟨rfl, rfl, rfl, trivial⟩ (fun e => ?_)
      refine c_seq (fun K21 hK21 => ?_)
      refine c_reg ?_ -- region 19 ring.go:56
      refine wl (ro_move rfl) ?_
      refine wl (ro_nilCheck rfl) ?_
      refine wl (ro_fieldAddr (k := 2) rfl fo_60_2) ?_
      refine wl (ro_loadB rfl sc_57 (by assumption) rfl) ?_
      refine wl (ro_move rfl) ?_
      refine wl (ro_move rfl) ?_
      refine wl (ro_indexAddr (et := 85) (k := 1) rfl rfl se_57 (rfl) ((by omega))) ?_
      refine wl_put rfl rfl rfl sz_85 hM ((rw_fit msc_len (i := s) (j := 0) (m := 1) (by omega) (by omega) (by omega))) ((rw_put msc_len (i := s) (j := 0) (x := rF M1 s) (x' := mkM (tF W) (tF T) i) (rF_get (by omega)) (by omega) (by omega) rfl)) (fun w6 hM F6 => ?_)
      replace hF := hF.thenDrew.thenO F6 (by first | exact .inr (by omega) | exact .inl rfl | exact .inl (by assumption))
      replace hK := F6.blkO hK (by omega)
      replace hP := F6.blkO hP (by omega)
      replace hW := F6.blkO hW (by omega)
      refine wl_nil (x_then (hK21 _ _ ?_))
      clear hK21 K21
      refine c_reg ?_ -- region 20 ring.go:57
      refine wl (ro_move rfl) ?_
      refine wl (ro_nilCheck rfl) ?_
      refine wl (ro_fieldAddr (k := 4) rfl fo_60_4) ?_
      refine wl (ro_loadB rfl sc_3 (by assumption) rfl) ?_
      refine wl (ro_arith (r := ((u + 1 : Nat) : Int)) rfl rfl rfl (Go.IntWalk.i64_in _ (by omega))) ?_
      refine wl (ro_nilCheck rfl) ?_
      refine wl (ro_fieldAddr (k := 4) rfl fo_60_4) ?_
      refine wl_put rfl rfl rfl sz_3 hK ((by simp)) ((show _ = bst X bb (u + 1) 0 from rfl)) (fun w7 hK F7 => ?_)
      replace hF := hF.thenDrew.thenO F7 (by first | exact .inr (by omega) | exact .inl rfl | exact .inl (by assumption))
      replace hP := F7.blkO hP (by omega)
      replace hM := F7.blkO hM (by omega)
      replace hW := F7.blkO hW (by omega)
      refine wl_nil ?_
      refine bp_end Tryz.results43 rfl ?_
      have : i = 24 := by omega
      subst this
      have hD := hH.done hR1 (fun k hk => rfl)
      rw [hs] at hD
      rw [← hH.ln] at hK
      exact ⟨⟨bb, _, _, hK, hP, hM, hD⟩, hF⟩
set_option maxHeartbeats 16000000 in
theorem forget34 {w : World} {X : BB} {lo hi b u r : Nat} {P : List Tx} {M : List Nat} {g : Nat → Nat → Tx} (hb : BaB lo hi X) (hK : Blk w.heap X.k (bst X b u r) 60) (hP : Blk w.heap X.p (rws stc P) 9) (hM : Blk w.heap X.t (rws msc M) 85)
    (hR : Rg P M b (fun k => decide (k < u + r)) g) (hn : u + r ≤ 6) :
    Ret Tryz.prog 34 [ptr X.k] w (fun v w' => (∀ h', ∃ P' M', RgV w' X 0 0 0 (fun _ => false) h' P' M') ∧ Fram (kptS X) w w') := by
  have hF : Fram (kptS X) w w := Fram.refl _ _
  have hm1 : kptS X X.k := .inl rfl
  have hm2 : kptS X X.p := .inr (.inl rfl)
  have hm3 : kptS X X.t := .inr (.inr rfl)
  obtain ⟨hdb, b1, b2, b3, b4, b5, b6⟩ := hb
  refine ret_of Tryz.func34 rfl Tryz.ntmps34 rfl ?_
  refine c_seq (fun K1 hK1 => ?_)
  refine c_seq (fun K2 hK2 => ?_)
  refine c_reg ?_ -- region 0 ring.go:73
  refine wl (ro_assign rfl) ?_
  refine wl_nil (x_then (hK2 _ _ ?_))
  clear hK2 K2
  refine c_block ?_
  -- loop@r1: live slots [0, 2]
  refine c_loopG (fun m a' w' => ∃ i P M, m = u + r - i ∧ i ≤ u + r ∧ Rg P M b (fun k => decide (i ≤ k ∧ k < u + r)) g ∧ Blk w'.heap X.k (bst X b u r) 60 ∧ Blk w'.heap X.p (rws stc P) 9 ∧ Blk w'.heap X.t (rws msc M) 85 ∧ Fram (kptS X) w w' ∧ ∃ e, a' = Fr 32 (upds e [(0, ptr X.k), (2, i64c i)]) []) (u + r) ⟨0, P, M, rfl, by omega, hR.congr (fun k hk => decide_eq_decide.2 (by omega)) (fun _ _ _ _ _ => ⟨rfl, rfl⟩), hK, hP, hM, hF, kp _ ⟨rfl, rfl, trivial⟩⟩ ?_
  clear hF hK hP hM hR
  rintro m a' u1 ⟨i, P, M, rfl, hi, hR, hK, hP, hM, hF, e, rfl⟩
  have hpl := hR.pl
  have hml := hR.ml
  have hb6 := hR.b6
  refine c_seq (fun K3 hK3 => ?_)
  refine c_seq (fun K4 hK4 => ?_)
  refine c_pi [(0, false), (1, false), (2, false), (3, false), (4, false), (5, false), (6, false), (7, false), (8, false), (9, false), (10, false)] (fun w' => Blk w'.heap X.k (bst X b u r) 60) mixed (by kernel_rfl) rfl (by kernel_rfl) (po_then (po_then (po_then (po_blk (po_then (po_bp)))))) (hK) ?_ -- region 1 ring.go:73
  refine pi_ro rfl (fun w hS => ro_move rfl) ?_
  refine pi_ro rfl (fun w hS => ro_move rfl) ?_
  refine pi_ro rfl (fun w hS => ro_nilCheck rfl) ?_
  refine pi_ro rfl (fun w hS => ro_fieldAddr (k := 4) rfl fo_60_4) ?_
  refine pi_ro rfl (fun w hS => ro_loadB rfl sc_3 (hS) (rfl)) ?_
  refine pi_ro rfl (fun w hS => ro_move rfl) ?_
  refine pi_ro rfl (fun w hS => ro_nilCheck rfl) ?_
  refine pi_ro rfl (fun w hS => ro_fieldAddr (k := 5) rfl fo_60_5) ?_
  refine pi_ro rfl (fun w hS => ro_loadB rfl sc_3 (hS) (rfl)) ?_
  refine pi_ro rfl (fun w hS => ro_arith (r := ((u + r : Nat) : Int)) rfl rfl rfl (Go.IntWalk.i64_in _ (by omega))) ?_
  refine pi_ro rfl (fun w hS => ro_cmp (r := decide (i < u + r)) rfl rfl (congrArg some (decide_eq_decide.2 (by omega)))) ?_
  refine pi_nil (x_then (hK4 _ _ ?_))
  clear hK4 K4
  refine wc_cond rfl (fun hc14 => ?_) (fun hc14 => ?_)
  · try simp only [decide_eq_true_eq, decide_eq_false_iff_not, Bool.not_eq_true', Bool.not_eq_false', Bool.not_eq_eq_eq_not, Bool.not_true, Bool.not_false, beq_iff_eq, bne_iff_ne, ne_eq, beq_eq_false_iff_ne, bne_eq_false_iff_eq, gt_iff_lt, ge_iff_le, Int.not_lt, Int.not_le] at hc14
    refine c_skip (x_then (hK3 _ _ ?_))
    clear hK3 K3
    refine forget [(0, _), (2, _)] ⟨rfl, rfl, trivial⟩ (fun e => ?_)
    refine c_seq (fun K5 hK5 => ?_)
    refine c_block ?_
    refine c_seq (fun K6 hK6 => ?_)
    refine c_reg ?_ -- region 3 ring.go:74
    refine wl (ro_move rfl) ?_
    refine wl (ro_move rfl) ?_
    refine wl_call rfl en_51 (slot51 hK hb6 (by omega)) ?_
    rintro _ _ ⟨rfl, rfl⟩
    refine wl (ro_assign rfl) ?_
    refine wl_nil (x_then (hK6 _ _ ?_))
    clear hK6 K6
    refine c_reg ?_ -- region 4 ring.go:75
    refine wl (ro_move rfl) ?_
    refine wl (ro_move rfl) ?_
    refine wl_call rfl en_60 (wipe60 b2 b3 hK hP hM hpl hml (Nat.mod_lt _ (by omega)) (hR.slot (k := i) (by omega) (decide_eq_true (by omega)))) ?_
    rintro _ u2 ⟨hP2, hM2, G2⟩
    have hR2 := (hR.wipe (k0 := i) (by omega)).congr (L' := fun k => decide (i + 1 ≤ k ∧ k < u + r)) (h' := g) (fun k hk => by
      show (if k = i then false else decide (i ≤ k ∧ k < u + r)) = _
      by_cases q : k = i
      · rw [if_pos q]; exact (decide_eq_false (by omega)).symm
      · rw [if_neg q]; exact decide_eq_decide.2 (by omega)) (fun k hk _ c hc => ⟨rfl, rfl⟩)
    replace hF := hF.thenDrew.trans (G2.mono (fun k _ hk => .inr hk))
    replace hK := G2.blkF hK (fun q => by rcases q with q | q <;> omega)
    clear hP hM
    have hP := hP2
    have hM := hM2
    refine wl_nil (x_blk (x_then (hK5 _ _ ?_)))
    clear hK5 K5
    refine c_reg ?_ -- region 2 ring.go:73
    refine wl (ro_move rfl) ?_
    refine wl (ro_arith (r := ((i + 1 : Nat) : Int)) rfl rfl rfl (Go.IntWalk.i64_in _ (by omega))) ?_
    refine wl (ro_assign rfl) ?_
    refine wl_nil (x_then ?_)
    exact ⟨u + r - (i + 1), by omega, i + 1, _, _, rfl, by omega, hR2, hK, hP, hM, hF, kp _ ⟨rfl, rfl, trivial⟩⟩
  · try simp only [decide_eq_true_eq, decide_eq_false_iff_not, Bool.not_eq_true', Bool.not_eq_false', Bool.not_eq_eq_eq_not, Bool.not_true, Bool.not_false, beq_iff_eq, bne_iff_ne, ne_eq, beq_eq_false_iff_ne, bne_eq_false_iff_eq, gt_iff_lt, ge_iff_le, Int.not_lt, Int.not_le] at hc14
    refine c_exit (x_thenX (x_thenX (x_blkX (x_then (hK1 _ _ ?_)))))
    clear hK3 K3 hK1 K1
    refine forget [(0, _)] ⟨rfl, trivial⟩ (fun e => ?_)
    refine c_seq (fun K7 hK7 => ?_)
    refine c_reg ?_ -- region 5 ring.go:77
    refine wl (ro_move rfl) ?_
    refine wl (ro_nilCheck rfl) ?_
    refine wl (ro_fieldAddr (k := 3) rfl fo_60_3) ?_
    refine wl_put rfl rfl rfl sz_3 hK ((by simp)) ((show _ = bst X 0 u r from rfl)) (fun w1 hK F1 => ?_)
    replace hF := hF.thenDrew.thenO F1 (by first | exact .inr (by omega) | exact .inl rfl | exact .inl (by assumption))
    replace hP := F1.blkO hP (by omega)
    replace hM := F1.blkO hM (by omega)
    refine wl_nil (x_then (hK7 _ _ ?_))
    clear hK7 K7
    refine forget [(0, _)] ⟨rfl, trivial⟩ (fun e => ?_)
    refine c_seq (fun K8 hK8 => ?_)
    refine c_reg ?_ -- region 6 ring.go:78
    refine wl (ro_move rfl) ?_
    refine wl (ro_nilCheck rfl) ?_
    refine wl (ro_fieldAddr (k := 4) rfl fo_60_4) ?_
    refine wl_put rfl rfl rfl sz_3 hK ((by simp)) ((show _ = bst X 0 0 r from rfl)) (fun w2 hK F2 => ?_)
    replace hF := hF.thenDrew.thenO F2 (by first | exact .inr (by omega) | exact .inl rfl | exact .inl (by assumption))
    replace hP := F2.blkO hP (by omega)
    replace hM := F2.blkO hM (by omega)
    refine wl_nil (x_then (hK8 _ _ ?_))
    clear hK8 K8
    refine c_reg ?_ -- region 7 ring.go:79
    refine wl (ro_move rfl) ?_
    refine wl (ro_nilCheck rfl) ?_
    refine wl (ro_fieldAddr (k := 5) rfl fo_60_5) ?_
    refine wl_put rfl rfl rfl sz_3 hK ((by simp)) ((show _ = bst X 0 0 0 from rfl)) (fun w3 hK F3 => ?_)
    replace hF := hF.thenDrew.thenO F3 (by first | exact .inr (by omega) | exact .inl rfl | exact .inl (by assumption))
    replace hP := F3.blkO hP (by omega)
    replace hM := F3.blkO hM (by omega)
    refine wl_nil ?_
    refine bp_end Tryz.results34 rfl ?_
    exact ⟨fun h' => ⟨P, M, hK, hP, hM, hR.dead (fun k hk => decide_eq_false (by omega)) h'⟩, hF⟩

end Go.Proofs.Qxb6500570aGreat
