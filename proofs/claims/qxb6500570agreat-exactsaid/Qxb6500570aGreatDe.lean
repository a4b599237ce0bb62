import Derived.Test.Qxb6500570aGreatDd
/- The real evaluator: sweeps; a tally closed; one instruction. -/
namespace Go.Proofs.Qxb6500570aGreat
set_option linter.unusedVariables false
set_option linter.unusedSimpArgs false

theorem bitI (a c : Nat) : ((((a / 2 ^ c) &&& 1 : Nat) : Int) == 1) = a.testBit c := by
  rw [bit1]
  cases a.testBit c <;> rfl
/-- The environment. -/
def envF (EL : List Vl) : Nat → Vl := fun c => EL.getD c vZ
theorem env_get {EL : List Vl} {c : Nat} (h : c < EL.length) : EL[c]? = some (envF EL c) := by
  unfold envF
  rw [List.getD_eq_getElem?_getD, List.getElem?_eq_getElem h]
  rfl

set_option maxHeartbeats 2000000 in
theorem sweep211 {w : World} {B : EB} {st cl top d f m vb : Nat} {TL : List Ty} {EL : List Vl} {t : Ty} (ho : EBo B) (hv : B.t < vb) (hB : Blk w.heap B.e (evs B st cl top (d + 1)) 89) (hT : Blk w.heap B.t (rws tyc TL) 228) (hV : Blk w.heap vb (rws vlc EL) 104)
    (hl : TL.length = 24) (hel : EL.length = 24) (hd : TL[d]? = some t) (hL : ∀ c, c < 24 → Lw (envF EL c)) (hok : TyOK f 1000 t) (hm : m < 2 ^ 24) :
    Ret Tryz.prog 211 [ptr B.e, i64c f, u32c m, sl vb 24] w (fun _ w' => Blk w'.heap B.t (rws tyc (TL.set d (sweepT f m (envF EL) 24 0 t))) 228 ∧ Fram (one B.t) w w') := by
  have hF : Fram (one B.t) w w := Fram.refl _ _
  have ho' := ho
  unfold EBo at ho
  have hd24 : d < TL.length := (List.getElem?_eq_some_iff.1 hd).1
  generalize hR : sweepT f m (envF EL) 24 0 t = R
  refine ret_of Tryz.func211 rfl Tryz.ntmps211 rfl ?_
  refine c_seq (fun K1 hK1 => ?_)
  refine c_reg ?_ -- region 0 run.go:121
  refine wl (ro_assign rfl) ?_
  refine wl_nil (x_then (hK1 _ _ ?_))
  clear hK1 K1
  refine c_block ?_
  -- loop@r1: live slots [0, 1, 2, 3, 8]
  refine c_loopG (fun q a' w' => ∃ c T, q = 24 - c ∧ c ≤ 24 ∧ TyOK f (1000 + c) T ∧ sweepT f m (envF EL) (24 - c) c T = R ∧ Blk w'.heap B.t (rws tyc (TL.set d T)) 228 ∧ Blk w'.heap B.e (evs B st cl top (d + 1)) 89 ∧ Blk w'.heap vb (rws vlc EL) 104 ∧ Fram (one B.t) w w' ∧ ∃ e, a' = Fr 26 (upds e [(0, ptr B.e), (1, i64c f), (2, u32c m), (3, sl vb 24), (8, i64c c)]) []) 24 ⟨0, t, rfl, by omega, hok, hR, by rw [set_self hd]; exact hT, hB, hV, hF, kp _ ⟨rfl, rfl, rfl, rfl, rfl, trivial⟩⟩ ?_
  clear hF hB hT hV
  rintro q a' u1 ⟨c, T, rfl, hc, hTo, hTR, hT, hB, hV, hF, e, rfl⟩
  have hd2 : (TL.set d T)[d]? = some T := List.getElem?_set_self hd24
  refine c_seq (fun K2 hK2 => ?_)
  refine c_seq (fun K3 hK3 => ?_)
  refine c_reg ?_ -- region 1 run.go:121
  refine wl (ro_move rfl) ?_
  refine wl (ro_cmp (r := decide (c < 24)) rfl rfl (congrArg some (decide_eq_decide.2 (by omega)))) ?_
  refine wl_nil (x_then (hK3 _ _ ?_))
  clear hK3 K3
  refine wc_cond rfl (fun hc10 => ?_) (fun hc10 => ?_)
  · try simp only [decide_eq_true_eq, decide_eq_false_iff_not, Bool.not_eq_true', Bool.not_eq_false', Bool.not_eq_eq_eq_not, Bool.not_true, Bool.not_false, beq_iff_eq, bne_iff_ne, ne_eq, beq_eq_false_iff_ne, bne_eq_false_iff_eq, gt_iff_lt, ge_iff_le, Int.not_lt, Int.not_le] at hc10
    have hcE := env_get (EL := EL) (c := c) (by omega)
    have hst : sweepT f m (envF EL) (24 - c) c T = sweepT f m (envF EL) (24 - (c + 1)) (c + 1) (if m.testBit c = true then takeT f (envF EL c) true T else T) := by
      rw [show 24 - c = (24 - (c + 1)) + 1 by omega]
      rfl
    rw [hst] at hTR
    refine c_skip (x_then (hK2 _ _ ?_))
    clear hK2 K2
    refine forget [(0, _), (1, _), (2, _), (3, _), (8, _)] ⟨rfl, rfl, rfl, rfl, rfl, trivial⟩ (fun e => ?_)
    refine c_seq (fun K4 hK4 => ?_)
    refine c_block ?_
    refine c_seq (fun K5 hK5 => ?_)
    refine c_reg ?_ -- region 3 run.go:122
    refine wl (ro_move rfl) ?_
    refine wl (ro_move rfl) ?_
    refine wl (ro_conv rfl sc_3 in_122 (Go.IntWalk.u64_in _ (by omega))) ?_
    refine wl (ro_shrN rfl rfl (by show c ≤ 32; omega)) ?_
    refine wl (ro_and32 rfl rfl (Nat.lt_of_le_of_lt (Nat.div_le_self _ _) (by omega)) (by decide)) ?_
    refine wl (ro_cmp (r := m.testBit c) rfl rfl (congrArg some (bitI m c))) ?_
    refine wl_nil (x_then (hK5 _ _ ?_))
    clear hK5 K5
    refine wc_cond rfl (fun hc18 => ?_) (fun hc18 => ?_)
    · try simp only [decide_eq_true_eq, decide_eq_false_iff_not, Bool.not_eq_true', Bool.not_eq_false', Bool.not_eq_eq_eq_not, Bool.not_true, Bool.not_false, beq_iff_eq, bne_iff_ne, ne_eq, beq_eq_false_iff_ne, bne_eq_false_iff_eq, gt_iff_lt, ge_iff_le, Int.not_lt, Int.not_le] at hc18
      refine c_reg ?_ -- region 4 run.go:123
      refine wl (ro_move rfl) ?_
      refine wl (ro_move rfl) ?_
      refine wl (ro_move rfl) ?_
      refine wl (ro_move rfl) ?_
      refine wl (ro_indexAddr (et := 104) (k := 3) rfl rfl se_86 rfl (by omega)) ?_
      refine wl (ro_loadAggB rfl ag_104 (hV) ((vlc_len _)) ((rw_agg vlc_len hcE (by omega)))) ?_
      refine wl_call rfl en_210 (take210 ho' hB hT (by rw [List.length_set]; exact hl) hd2 (hL c (by omega)) (hTo.up (by omega))) ?_
      rintro _ u2 ⟨hT, G2⟩
      rw [List.set_set] at hT
      replace hF := hF.transG G2 (by intro k hk h; simp only [one, none', es, et] at h ⊢ <;> omega)
      replace hB := G2.blkF hB (by intro h; simp only [one, none', es, et] at h <;> omega)
      replace hV := G2.blkF hV (by intro h; simp only [one, none', es, et] at h <;> omega)
      refine wl_nil (x_blk (x_then (hK4 _ _ ?_)))
      clear hK4 K4
      refine c_reg ?_ -- region 2 run.go:121
      refine wl (ro_move rfl) ?_
      refine wl (ro_arith (r := ((c + 1 : Nat) : Int)) rfl rfl rfl (Go.IntWalk.i64_in _ (by omega))) ?_
      refine wl (ro_assign rfl) ?_
      refine wl_nil (x_then ?_)
      first
        | (rw [if_pos hc18] at hTR
           exact ⟨24 - (c + 1), by omega, c + 1, _, rfl, by omega, hTo.take true (hL c (by omega)), hTR, hT, hB, hV, hF, kp _ ⟨rfl, rfl, rfl, rfl, rfl, trivial⟩⟩)
        | (rw [if_neg (by rw [hc18]; decide)] at hTR
           exact ⟨24 - (c + 1), by omega, c + 1, T, rfl, by omega, hTo.up (by omega), hTR, hT, hB, hV, hF, kp _ ⟨rfl, rfl, rfl, rfl, rfl, trivial⟩⟩)
    · try simp only [decide_eq_true_eq, decide_eq_false_iff_not, Bool.not_eq_true', Bool.not_eq_false', Bool.not_eq_eq_eq_not, Bool.not_true, Bool.not_false, beq_iff_eq, bne_iff_ne, ne_eq, beq_eq_false_iff_ne, bne_eq_false_iff_eq, gt_iff_lt, ge_iff_le, Int.not_lt, Int.not_le] at hc18
      refine c_skip (x_blk (x_then (hK4 _ _ ?_)))
      clear hK4 K4
      refine c_reg ?_ -- region 2 run.go:121
      refine wl (ro_move rfl) ?_
      refine wl (ro_arith (r := ((c + 1 : Nat) : Int)) rfl rfl rfl (Go.IntWalk.i64_in _ (by omega))) ?_
      refine wl (ro_assign rfl) ?_
      refine wl_nil (x_then ?_)
      first
        | (rw [if_pos hc18] at hTR
           exact ⟨24 - (c + 1), by omega, c + 1, _, rfl, by omega, hTo.take true (hL c (by omega)), hTR, hT, hB, hV, hF, kp _ ⟨rfl, rfl, rfl, rfl, rfl, trivial⟩⟩)
        | (rw [if_neg (by rw [hc18]; decide)] at hTR
           exact ⟨24 - (c + 1), by omega, c + 1, T, rfl, by omega, hTo.up (by omega), hTR, hT, hB, hV, hF, kp _ ⟨rfl, rfl, rfl, rfl, rfl, trivial⟩⟩)
  · try simp only [decide_eq_true_eq, decide_eq_false_iff_not, Bool.not_eq_true', Bool.not_eq_false', Bool.not_eq_eq_eq_not, Bool.not_true, Bool.not_false, beq_iff_eq, bne_iff_ne, ne_eq, beq_eq_false_iff_ne, bne_eq_false_iff_eq, gt_iff_lt, ge_iff_le, Int.not_lt, Int.not_le] at hc10
    refine c_exit (x_thenX (x_thenX (x_blkX ?_)))
    refine bp_end Tryz.results211 rfl ?_
    have hc24 : c = 24 := by omega
    subst hc24
    have : T = R := hTR
    rw [← this]
    exact ⟨hT, hF⟩

set_option maxHeartbeats 2000000 in
theorem shut212 {w : World} {B : EB} {st cl top d f : Nat} {TL : List Ty} {t : Ty} (ho : EBo B) (hB : Blk w.heap B.e (evs B st cl top (d + 1)) 89) (hT : Blk w.heap B.t (rws tyc TL) 228)
    (hl : TL.length = 24) (hd : TL[d]? = some t) (hok : TyOK f 1100 t) :
    Ret Tryz.prog 212 [ptr B.e, i64c f] w (fun v w' => v = vlA (shutT f t) ∧ Blk w'.heap B.e (evs B st cl top d) 89 ∧ Fram (one B.e) w w') := by
  have hF : Fram (one B.e) w w := Fram.refl _ _
  unfold EBo at ho
  have hd24 : d < TL.length := (List.getElem?_eq_some_iff.1 hd).1
  refine ret_of Tryz.func212 rfl Tryz.ntmps212 rfl ?_
  refine c_seq (fun K1 hK1 => ?_)
  refine c_reg ?_ -- region 0 run.go:129
  refine wl_new (ze_104) (fun b4 w1 hbb4 h4 F1 => ?_)
  have hbsb4 := Nat.le_trans hF.size hbb4
  have hneB.eb4 : B.e < b4 := Nat.lt_of_lt_of_le hB.lt hbb4
  have hneB.tb4 : B.t < b4 := Nat.lt_of_lt_of_le hT.lt hbb4
  replace hF := hF.thenDrew.thenN F1
  replace hB := F1.blkN hB
  replace hT := F1.blkN hT
  refine wl_nil (x_then (hK1 _ _ ?_))
  clear hK1 K1
  refine forget [(0, _), (1, _), (4, _)] ⟨rfl, rfl, rfl, trivial⟩ (fun e => ?_)
  refine c_seq (fun K2 hK2 => ?_)
  refine c_reg ?_ -- region 1 run.go:130
  refine wl (ro_move rfl) ?_
  refine wl (ro_nilCheck rfl) ?_
  refine wl (ro_fieldAddr (k := 8) rfl fo_89_8) ?_
  refine wl (ro_loadB rfl sc_3 (by assumption) rfl) ?_
  refine wl (ro_arith (r := (d : Int)) rfl rfl (congrArg some (by omega)) (Go.IntWalk.i64_in _ (by omega))) ?_
  refine wl (ro_nilCheck rfl) ?_
  refine wl (ro_fieldAddr (k := 8) rfl fo_89_8) ?_
  refine wl_put rfl rfl rfl sz_3 hB ((by simp)) ((show _ = evs B st cl top d from rfl)) (fun w2 hB F2 => ?_)
  replace hF := hF.thenDrew.thenO F2 (by first | exact .inr (by omega) | exact .inl rfl | exact .inl (by assumption))
  replace hT := F2.blkO hT (by omega)
  replace h4 := F2.blkO h4 (by omega)
  refine wl_nil (x_then (hK2 _ _ ?_))
  clear hK2 K2
  refine forget [(0, _), (1, _), (4, _)] ⟨rfl, rfl, rfl, trivial⟩ (fun e => ?_)
  refine c_seq (fun K3 hK3 => ?_)
  refine c_piL 11 [(0, false), (1, false), (2, false), (3, false), (4, false), (5, false), (6, false), (7, false), (8, false), (9, false), (10, true)] (fun w' => Blk w'.heap B.e (evs B st cl top d) 89 ∧ Blk w'.heap B.t (rws tyc TL) 228) mixed (by kernel_rfl) rfl (by kernel_rfl) (po_then (po_bp)) (⟨hB, hT⟩) ?_ -- region 2 run.go:131
  refine ql_ro rfl (fun w hS => ro_move rfl) ?_
  refine ql_ro rfl (fun w hS => ro_nilCheck rfl) ?_
  refine ql_ro rfl (fun w hS => ro_fieldAddr (k := 7) rfl fo_89_7) ?_
  refine ql_ro rfl (fun w hS => ro_loadB rfl sc_87 (hS.1) (rfl)) ?_
  refine ql_ro rfl (fun w hS => ro_move rfl) ?_
  refine ql_ro rfl (fun w hS => ro_nilCheck rfl) ?_
  refine ql_ro rfl (fun w hS => ro_fieldAddr (k := 8) rfl fo_89_8) ?_
  refine ql_ro rfl (fun w hS => ro_loadB rfl sc_3 (hS.1) (rfl)) ?_
  refine ql_ro rfl (fun w hS => ro_indexAddr (et := 228) (k := 5) rfl rfl se_87 rfl (by omega)) ?_
  refine ql_ro rfl (fun w hS => ro_loadAggB rfl ag_228 (hS.2) ((tyc_len t)) ((rw_agg tyc_len hd (by omega)))) ?_
  refine ql_new rfl ze_228 (fun w1 F ↦ ⟨F.blkN hB, F.blkN hT⟩) ?_
  intro b5 w3 hbb5 h5 F3
  have hbsb5 := Nat.le_trans hF.size hbb5
  have hneB.eb5 : B.e < b5 := Nat.lt_of_lt_of_le hB.lt hbb5
  have hneB.tb5 : B.t < b5 := Nat.lt_of_lt_of_le hT.lt hbb5
  have hneb4b5 : b4 < b5 := Nat.lt_of_lt_of_le h4.lt hbb5
  replace hF := hF.thenDrew.thenN F3
  replace hB := F3.blkN hB
  replace hT := F3.blkN hT
  replace h4 := F3.blkN h4
  refine ql_puta rfl rfl rfl ((tyc_cells _)) sz_228 (rfl) h5 ((by simp)) ((show _ = tyc t from rfl)) (fun w4 h5 F4 => ?_)
  replace hF := hF.thenDrew.thenO F4 (by first | exact .inr (by omega) | exact .inl rfl | exact .inl (by assumption))
  replace hB := F4.blkO hB (by omega)
  replace hT := F4.blkO hT (by omega)
  replace h4 := F4.blkO h4 (by omega)
  refine x_then (hK3 _ _ ?_)
  clear hK3 K3
  refine c_seq (fun K4 hK4 => ?_)
  refine c_seq (fun K5 hK5 => ?_)
  refine c_reg ?_ -- region 3 run.go:132
  refine wl (ro_fieldAddr (k := 0) rfl fo_228_0) ?_
  refine wl (ro_fieldAddr (k := 0) rfl fo_104_0) ?_
  refine wl (ro_loadB rfl sc_3 (by assumption) rfl) ?_
  refine wl (ro_cmp rfl rfl rfl) ?_
  refine wl_nil (x_then (hK5 _ _ ?_))
  clear hK5 K5
  refine wc_cond rfl (fun hc26 => ?_) (fun hc26 => ?_)
  · try simp only [decide_eq_true_eq, decide_eq_false_iff_not, Bool.not_eq_true', Bool.not_eq_false', Bool.not_eq_eq_eq_not, Bool.not_true, Bool.not_false, beq_iff_eq, bne_iff_ne, ne_eq, beq_eq_false_iff_ne, bne_eq_false_iff_eq, gt_iff_lt, ge_iff_le, Int.not_lt, Int.not_le] at hc26
    refine c_seq (fun K6 hK6 => ?_)
    refine c_reg ?_ -- region 4 run.go:133
    refine wl (ro_fieldAddr (k := 0) rfl fo_228_0) ?_
    refine wl (ro_loadAggB rfl ag_104 (by assumption) rfl rfl) ?_
    refine wl_puta rfl rfl ((by (try exact vlc_cells _); all_goals simp [Value.oneCell', i64c, icv, u64c, u8c, ptr, S])) sz_104 (rfl) h4 ((by simp)) (rfl) (fun w5 h4 F5 => ?_)
    replace hF := hF.thenDrew.thenO F5 (by first | exact .inr (by omega) | exact .inl rfl | exact .inl (by assumption))
    replace hB := F5.blkO hB (by omega)
    replace hT := F5.blkO hT (by omega)
    replace h5 := F5.blkO h5 (by omega)
    refine wl_nil (x_then (hK6 _ _ ?_))
    clear hK6 K6
    refine c_ret (x_thenR ?_)
    refine bq_ret (res1 Tryz.results212 (rv_c rfl ag_104 (h4) rfl)) ?_
    first
      | omega
      | (refine ⟨?_, hB, hF⟩
         unfold shutT
         repeat first | rw [if_pos (by omega)] | rw [if_neg (by omega)]
         first
           | rfl
           | (have h1 : (t.acc == 1) = decide (t.acc = 1) := by by_cases e : t.acc = 1 <;> simp [e]
              have h2 : ((f : Int) == 7) = decide (f = 7) := beqc f 7
              have h3 : ((t.acc == 1) == ((f : Int) == 7)) = decide (decide (t.acc = 1) = decide (f = 7)) := by rw [h1, h2]; by_cases e : decide (t.acc = 1) = decide (f = 7) <;> simp [e]
              rw [← h3]
              rfl))
  · try simp only [decide_eq_true_eq, decide_eq_false_iff_not, Bool.not_eq_true', Bool.not_eq_false', Bool.not_eq_eq_eq_not, Bool.not_true, Bool.not_false, beq_iff_eq, bne_iff_ne, ne_eq, beq_eq_false_iff_ne, bne_eq_false_iff_eq, gt_iff_lt, ge_iff_le, Int.not_lt, Int.not_le] at hc26
    refine c_skip (x_then (hK4 _ _ ?_))
    clear hK4 K4
    refine c_seq (fun K7 hK7 => ?_)
    refine c_seq (fun K8 hK8 => ?_)
    refine c_reg ?_ -- region 5 run.go:135
    refine wl (ro_move rfl) ?_
    refine wl_nil (x_then (hK8 _ _ ?_))
    clear hK8 K8
    refine c_block ?_
    refine forget [(1, _), (4, _), (5, _), (29, _)] ⟨rfl, rfl, rfl, rfl, trivial⟩ (fun e => ?_)
    refine c_seq (fun K9 hK9 => ?_)
    refine c_reg ?_ -- region 6 run.go:136
    refine wl (ro_cmp rfl rfl rfl) ?_
    refine wl (ro_assign rfl) ?_
    refine wl_nil (x_then (hK9 _ _ ?_))
    clear hK9 K9
    refine wc_cond rfl (fun hc30 => ?_) (fun hc30 => ?_)
    · try simp only [decide_eq_true_eq, decide_eq_false_iff_not, Bool.not_eq_true', Bool.not_eq_false', Bool.not_eq_eq_eq_not, Bool.not_true, Bool.not_false, beq_iff_eq, bne_iff_ne, ne_eq, beq_eq_false_iff_ne, bne_eq_false_iff_eq, gt_iff_lt, ge_iff_le, Int.not_lt, Int.not_le] at hc30
      refine c_seq (fun K10 hK10 => ?_)
      refine c_reg ?_ -- region 7 run.go:137
      refine wl (ro_fieldAddr (k := 3) rfl fo_228_1) ?_
      refine wl (ro_loadB rfl sc_3 (by assumption) rfl) ?_
      refine wl_call rfl en_225 (Num225) ?_
      rintro _ w6 ⟨rfl, F6⟩
      replace hF := hF.thenDrew.thenN F6
      replace hB := F6.blkN hB
      replace hT := F6.blkN hT
      replace h4 := F6.blkN h4
      replace h5 := F6.blkN h5
      refine wl_puta rfl rfl ((by (try exact vlc_cells _); all_goals simp [Value.oneCell', i64c, icv, u64c, u8c, ptr, S])) sz_104 (rfl) h4 ((by simp)) (rfl) (fun w7 h4 F7 => ?_)
      replace hF := hF.thenDrew.thenO F7 (by first | exact .inr (by omega) | exact .inl rfl | exact .inl (by assumption))
      replace hB := F7.blkO hB (by omega)
      replace hT := F7.blkO hT (by omega)
      replace h5 := F7.blkO h5 (by omega)
      refine wl_nil (x_then (hK10 _ _ ?_))
      clear hK10 K10
      refine c_ret (x_blkR (x_thenR ?_))
      refine bq_ret (res1 Tryz.results212 (rv_c rfl ag_104 (h4) rfl)) ?_
      first
        | omega
        | (refine ⟨?_, hB, hF⟩
           unfold shutT
           repeat first | rw [if_pos (by omega)] | rw [if_neg (by omega)]
           first
             | rfl
             | (have h1 : (t.acc == 1) = decide (t.acc = 1) := by by_cases e : t.acc = 1 <;> simp [e]
                have h2 : ((f : Int) == 7) = decide (f = 7) := beqc f 7
                have h3 : ((t.acc == 1) == ((f : Int) == 7)) = decide (decide (t.acc = 1) = decide (f = 7)) := by rw [h1, h2]; by_cases e : decide (t.acc = 1) = decide (f = 7) <;> simp [e]
                rw [← h3]
                rfl))
    · try simp only [decide_eq_true_eq, decide_eq_false_iff_not, Bool.not_eq_true', Bool.not_eq_false', Bool.not_eq_eq_eq_not, Bool.not_true, Bool.not_false, beq_iff_eq, bne_iff_ne, ne_eq, beq_eq_false_iff_ne, bne_eq_false_iff_eq, gt_iff_lt, ge_iff_le, Int.not_lt, Int.not_le] at hc30
      refine c_seq (fun K11 hK11 => ?_)
      refine c_seq (fun K12 hK12 => ?_)
      refine c_reg ?_ -- region 8 run.go:138
      refine wl (ro_cmp rfl rfl rfl) ?_
      refine wl (ro_assign rfl) ?_
      refine wl_nil (x_then (hK12 _ _ ?_))
      clear hK12 K12
      refine wc_cond rfl (fun hc35 => ?_) (fun hc35 => ?_)
      · try simp only [decide_eq_true_eq, decide_eq_false_iff_not, Bool.not_eq_true', Bool.not_eq_false', Bool.not_eq_eq_eq_not, Bool.not_true, Bool.not_false, beq_iff_eq, bne_iff_ne, ne_eq, beq_eq_false_iff_ne, bne_eq_false_iff_eq, gt_iff_lt, ge_iff_le, Int.not_lt, Int.not_le] at hc35
        refine c_skip (x_then (hK11 _ _ ?_))
        clear hK11 K11
        refine wc_cond rfl (fun hc35 => ?_) (fun hc35 => ?_)
        · try simp only [decide_eq_true_eq, decide_eq_false_iff_not, Bool.not_eq_true', Bool.not_eq_false', Bool.not_eq_eq_eq_not, Bool.not_true, Bool.not_false, beq_iff_eq, bne_iff_ne, ne_eq, beq_eq_false_iff_ne, bne_eq_false_iff_eq, gt_iff_lt, ge_iff_le, Int.not_lt, Int.not_le] at hc35
          refine c_seq (fun K13 hK13 => ?_)
          refine c_reg ?_ -- region 10 run.go:139
          refine wl (ro_fieldAddr (k := 3) rfl fo_228_1) ?_
          refine wl (ro_loadB rfl sc_3 (by assumption) rfl) ?_
          refine wl_call rfl en_187 (Int187) ?_
          rintro _ w8 ⟨rfl, F8⟩
          replace hF := hF.thenDrew.thenN F8
          replace hB := F8.blkN hB
          replace hT := F8.blkN hT
          replace h4 := F8.blkN h4
          replace h5 := F8.blkN h5
          refine wl_puta rfl rfl ((by (try exact vlc_cells _); all_goals simp [Value.oneCell', i64c, icv, u64c, u8c, ptr, S])) sz_104 (rfl) h4 ((by simp)) (rfl) (fun w9 h4 F9 => ?_)
          replace hF := hF.thenDrew.thenO F9 (by first | exact .inr (by omega) | exact .inl rfl | exact .inl (by assumption))
          replace hB := F9.blkO hB (by omega)
          replace hT := F9.blkO hT (by omega)
          replace h5 := F9.blkO h5 (by omega)
          refine wl_nil (x_then (hK13 _ _ ?_))
          clear hK13 K13
          refine c_ret (x_blkR (x_thenR ?_))
          refine bq_ret (res1 Tryz.results212 (rv_c rfl ag_104 (h4) rfl)) ?_
          first
            | omega
            | (refine ⟨?_, hB, hF⟩
               unfold shutT
               repeat first | rw [if_pos (by omega)] | rw [if_neg (by omega)]
               first
                 | rfl
                 | (have h1 : (t.acc == 1) = decide (t.acc = 1) := by by_cases e : t.acc = 1 <;> simp [e]
                    have h2 : ((f : Int) == 7) = decide (f = 7) := beqc f 7
                    have h3 : ((t.acc == 1) == ((f : Int) == 7)) = decide (decide (t.acc = 1) = decide (f = 7)) := by rw [h1, h2]; by_cases e : decide (t.acc = 1) = decide (f = 7) <;> simp [e]
                    rw [← h3]
                    rfl))
        · try simp only [decide_eq_true_eq, decide_eq_false_iff_not, Bool.not_eq_true', Bool.not_eq_false', Bool.not_eq_eq_eq_not, Bool.not_true, Bool.not_false, beq_iff_eq, bne_iff_ne, ne_eq, beq_eq_false_iff_ne, bne_eq_false_iff_eq, gt_iff_lt, ge_iff_le, Int.not_lt, Int.not_le] at hc35
          refine c_seq (fun K14 hK14 => ?_)
          refine c_reg ?_ -- region 11 run.go:140
          refine wl (ro_cmp rfl rfl rfl) ?_
          refine wl (ro_assign rfl) ?_
          refine wl_nil (x_then (hK14 _ _ ?_))
          clear hK14 K14
          refine wc_cond rfl (fun hc41 => ?_) (fun hc41 => ?_)
          · try simp only [decide_eq_true_eq, decide_eq_false_iff_not, Bool.not_eq_true', Bool.not_eq_false', Bool.not_eq_eq_eq_not, Bool.not_true, Bool.not_false, beq_iff_eq, bne_iff_ne, ne_eq, beq_eq_false_iff_ne, bne_eq_false_iff_eq, gt_iff_lt, ge_iff_le, Int.not_lt, Int.not_le] at hc41
            refine c_seq (fun K15 hK15 => ?_)
            refine c_reg ?_ -- region 12 run.go:141
            refine wl (ro_fieldAddr (k := 4) rfl fo_228_2) ?_
            refine wl (ro_loadB rfl sc_3 (by assumption) rfl) ?_
            refine wl_call rfl en_187 (Int187) ?_
            rintro _ w10 ⟨rfl, F10⟩
            replace hF := hF.thenDrew.thenN F10
            replace hB := F10.blkN hB
            replace hT := F10.blkN hT
            replace h4 := F10.blkN h4
            replace h5 := F10.blkN h5
            refine wl_puta rfl rfl ((by (try exact vlc_cells _); all_goals simp [Value.oneCell', i64c, icv, u64c, u8c, ptr, S])) sz_104 (rfl) h4 ((by simp)) (rfl) (fun w11 h4 F11 => ?_)
            replace hF := hF.thenDrew.thenO F11 (by first | exact .inr (by omega) | exact .inl rfl | exact .inl (by assumption))
            replace hB := F11.blkO hB (by omega)
            replace hT := F11.blkO hT (by omega)
            replace h5 := F11.blkO h5 (by omega)
            refine wl_nil (x_then (hK15 _ _ ?_))
            clear hK15 K15
            refine c_ret (x_blkR (x_thenR ?_))
            refine bq_ret (res1 Tryz.results212 (rv_c rfl ag_104 (h4) rfl)) ?_
            first
              | omega
              | (refine ⟨?_, hB, hF⟩
                 unfold shutT
                 repeat first | rw [if_pos (by omega)] | rw [if_neg (by omega)]
                 first
                   | rfl
                   | (have h1 : (t.acc == 1) = decide (t.acc = 1) := by by_cases e : t.acc = 1 <;> simp [e]
                      have h2 : ((f : Int) == 7) = decide (f = 7) := beqc f 7
                      have h3 : ((t.acc == 1) == ((f : Int) == 7)) = decide (decide (t.acc = 1) = decide (f = 7)) := by rw [h1, h2]; by_cases e : decide (t.acc = 1) = decide (f = 7) <;> simp [e]
                      rw [← h3]
                      rfl))
          · try simp only [decide_eq_true_eq, decide_eq_false_iff_not, Bool.not_eq_true', Bool.not_eq_false', Bool.not_eq_eq_eq_not, Bool.not_true, Bool.not_false, beq_iff_eq, bne_iff_ne, ne_eq, beq_eq_false_iff_ne, bne_eq_false_iff_eq, gt_iff_lt, ge_iff_le, Int.not_lt, Int.not_le] at hc41
            refine c_skip (x_blk (x_then (hK7 _ _ ?_)))
            clear hK7 K7
            refine forget [(1, _), (4, _), (5, _)] ⟨rfl, rfl, rfl, trivial⟩ (fun e => ?_)
            refine c_seq (fun K16 hK16 => ?_)
            refine c_reg ?_ -- region 13 run.go:143
            refine wl (ro_fieldAddr (k := 3) rfl fo_228_1) ?_
            refine wl (ro_loadB rfl sc_3 (by assumption) rfl) ?_
            refine wl (ro_cmp rfl rfl rfl) ?_
            refine wl (ro_move rfl) ?_
            refine wl (ro_cmp rfl rfl rfl) ?_
            refine wl (ro_eqBool rfl rfl (by kernel_rfl) rfl) ?_
            refine wl_call rfl en_219 (Bool219) ?_
            rintro _ w12 ⟨rfl, F12⟩
            replace hF := hF.thenDrew.thenN F12
            replace hB := F12.blkN hB
            replace hT := F12.blkN hT
            replace h4 := F12.blkN h4
            replace h5 := F12.blkN h5
            refine wl_puta rfl rfl ((by (try exact vlc_cells _); all_goals simp [Value.oneCell', i64c, icv, u64c, u8c, ptr, S])) sz_104 (rfl) h4 ((by simp)) (rfl) (fun w13 h4 F13 => ?_)
            replace hF := hF.thenDrew.thenO F13 (by first | exact .inr (by omega) | exact .inl rfl | exact .inl (by assumption))
            replace hB := F13.blkO hB (by omega)
            replace hT := F13.blkO hT (by omega)
            replace h5 := F13.blkO h5 (by omega)
            refine wl_nil (x_then (hK16 _ _ ?_))
            clear hK16 K16
            refine c_ret ?_
            refine bq_ret (res1 Tryz.results212 (rv_c rfl ag_104 (h4) rfl)) ?_
            first
              | omega
              | (refine ⟨?_, hB, hF⟩
                 unfold shutT
                 repeat first | rw [if_pos (by omega)] | rw [if_neg (by omega)]
                 first
                   | rfl
                   | (have h1 : (t.acc == 1) = decide (t.acc = 1) := by by_cases e : t.acc = 1 <;> simp [e]
                      have h2 : ((f : Int) == 7) = decide (f = 7) := beqc f 7
                      have h3 : ((t.acc == 1) == ((f : Int) == 7)) = decide (decide (t.acc = 1) = decide (f = 7)) := by rw [h1, h2]; by_cases e : decide (t.acc = 1) = decide (f = 7) <;> simp [e]
                      rw [← h3]
                      rfl))
      · try simp only [decide_eq_true_eq, decide_eq_false_iff_not, Bool.not_eq_true', Bool.not_eq_false', Bool.not_eq_eq_eq_not, Bool.not_true, Bool.not_false, beq_iff_eq, bne_iff_ne, ne_eq, beq_eq_false_iff_ne, bne_eq_false_iff_eq, gt_iff_lt, ge_iff_le, Int.not_lt, Int.not_le] at hc35
        refine c_reg ?_ -- region 9 run.go:138
        refine wl (ro_cmp rfl rfl rfl) ?_
        refine wl (ro_assign rfl) ?_
        refine wl_nil (x_then (hK11 _ _ ?_))
        clear hK11 K11
        refine wc_cond rfl (fun hc35 => ?_) (fun hc35 => ?_)
        · try simp only [decide_eq_true_eq, decide_eq_false_iff_not, Bool.not_eq_true', Bool.not_eq_false', Bool.not_eq_eq_eq_not, Bool.not_true, Bool.not_false, beq_iff_eq, bne_iff_ne, ne_eq, beq_eq_false_iff_ne, bne_eq_false_iff_eq, gt_iff_lt, ge_iff_le, Int.not_lt, Int.not_le] at hc35
          refine c_seq (fun K17 hK17 => ?_)
          refine c_reg ?_ -- region 10 run.go:139
          refine wl (ro_fieldAddr (k := 3) rfl fo_228_1) ?_
          refine wl (ro_loadB rfl sc_3 (by assumption) rfl) ?_
          refine wl_call rfl en_187 (Int187) ?_
          rintro _ w14 ⟨rfl, F14⟩
          replace hF := hF.thenDrew.thenN F14
          replace hB := F14.blkN hB
          replace hT := F14.blkN hT
          replace h4 := F14.blkN h4
          replace h5 := F14.blkN h5
          refine wl_puta rfl rfl ((by (try exact vlc_cells _); all_goals simp [Value.oneCell', i64c, icv, u64c, u8c, ptr, S])) sz_104 (rfl) h4 ((by simp)) (rfl) (fun w15 h4 F15 => ?_)
          replace hF := hF.thenDrew.thenO F15 (by first | exact .inr (by omega) | exact .inl rfl | exact .inl (by assumption))
          replace hB := F15.blkO hB (by omega)
          replace hT := F15.blkO hT (by omega)
          replace h5 := F15.blkO h5 (by omega)
          refine wl_nil (x_then (hK17 _ _ ?_))
          clear hK17 K17
          refine c_ret (x_blkR (x_thenR ?_))
          refine bq_ret (res1 Tryz.results212 (rv_c rfl ag_104 (h4) rfl)) ?_
          first
            | omega
            | (refine ⟨?_, hB, hF⟩
               unfold shutT
               repeat first | rw [if_pos (by omega)] | rw [if_neg (by omega)]
               first
                 | rfl
                 | (have h1 : (t.acc == 1) = decide (t.acc = 1) := by by_cases e : t.acc = 1 <;> simp [e]
                    have h2 : ((f : Int) == 7) = decide (f = 7) := beqc f 7
                    have h3 : ((t.acc == 1) == ((f : Int) == 7)) = decide (decide (t.acc = 1) = decide (f = 7)) := by rw [h1, h2]; by_cases e : decide (t.acc = 1) = decide (f = 7) <;> simp [e]
                    rw [← h3]
                    rfl))
        · try simp only [decide_eq_true_eq, decide_eq_false_iff_not, Bool.not_eq_true', Bool.not_eq_false', Bool.not_eq_eq_eq_not, Bool.not_true, Bool.not_false, beq_iff_eq, bne_iff_ne, ne_eq, beq_eq_false_iff_ne, bne_eq_false_iff_eq, gt_iff_lt, ge_iff_le, Int.not_lt, Int.not_le] at hc35
          refine c_seq (fun K18 hK18 => ?_)
          refine c_reg ?_ -- region 11 run.go:140
          refine wl (ro_cmp rfl rfl rfl) ?_
          refine wl (ro_assign rfl) ?_
          refine wl_nil (x_then (hK18 _ _ ?_))
          clear hK18 K18
          refine wc_cond rfl (fun hc41 => ?_) (fun hc41 => ?_)
          · try simp only [decide_eq_true_eq, decide_eq_false_iff_not, Bool.not_eq_true', Bool.not_eq_false', Bool.not_eq_eq_eq_not, Bool.not_true, Bool.not_false, beq_iff_eq, bne_iff_ne, ne_eq, beq_eq_false_iff_ne, bne_eq_false_iff_eq, gt_iff_lt, ge_iff_le, Int.not_lt, Int.not_le] at hc41
            refine c_seq (fun K19 hK19 => ?_)
            refine c_reg ?_ -- region 12 run.go:141
            refine wl (ro_fieldAddr (k := 4) rfl fo_228_2) ?_
            refine wl (ro_loadB rfl sc_3 (by assumption) rfl) ?_
            refine wl_call rfl en_187 (Int187) ?_
            rintro _ w16 ⟨rfl, F16⟩
            replace hF := hF.thenDrew.thenN F16
            replace hB := F16.blkN hB
            replace hT := F16.blkN hT
            replace h4 := F16.blkN h4
            replace h5 := F16.blkN h5
            refine wl_puta rfl rfl ((by (try exact vlc_cells _); all_goals simp [Value.oneCell', i64c, icv, u64c, u8c, ptr, S])) sz_104 (rfl) h4 ((by simp)) (rfl) (fun w17 h4 F17 => ?_)
            replace hF := hF.thenDrew.thenO F17 (by first | exact .inr (by omega) | exact .inl rfl | exact .inl (by assumption))
            replace hB := F17.blkO hB (by omega)
            replace hT := F17.blkO hT (by omega)
            replace h5 := F17.blkO h5 (by omega)
            refine wl_nil (x_then (hK19 _ _ ?_))
            clear hK19 K19
            refine c_ret (x_blkR (x_thenR ?_))
            refine bq_ret (res1 Tryz.results212 (rv_c rfl ag_104 (h4) rfl)) ?_
            first
              | omega
              | (refine ⟨?_, hB, hF⟩
                 unfold shutT
                 repeat first | rw [if_pos (by omega)] | rw [if_neg (by omega)]
                 first
                   | rfl
                   | (have h1 : (t.acc == 1) = decide (t.acc = 1) := by by_cases e : t.acc = 1 <;> simp [e]
                      have h2 : ((f : Int) == 7) = decide (f = 7) := beqc f 7
                      have h3 : ((t.acc == 1) == ((f : Int) == 7)) = decide (decide (t.acc = 1) = decide (f = 7)) := by rw [h1, h2]; by_cases e : decide (t.acc = 1) = decide (f = 7) <;> simp [e]
                      rw [← h3]
                      rfl))
          · try simp only [decide_eq_true_eq, decide_eq_false_iff_not, Bool.not_eq_true', Bool.not_eq_false', Bool.not_eq_eq_eq_not, Bool.not_true, Bool.not_false, beq_iff_eq, bne_iff_ne, ne_eq, beq_eq_false_iff_ne, bne_eq_false_iff_eq, gt_iff_lt, ge_iff_le, Int.not_lt, Int.not_le] at hc41
            refine c_skip (x_blk (x_then (hK7 _ _ ?_)))
            clear hK7 K7
            refine forget [(1, _), (4, _), (5, _)] ⟨rfl, rfl, rfl, trivial⟩ (fun e => ?_)
            refine c_seq (fun K20 hK20 => ?_)
            refine c_reg ?_ -- region 13 run.go:143
            refine wl (ro_fieldAddr (k := 3) rfl fo_228_1) ?_
            refine wl (ro_loadB rfl sc_3 (by assumption) rfl) ?_
            refine wl (ro_cmp rfl rfl rfl) ?_
            refine wl (ro_move rfl) ?_
            refine wl (ro_cmp rfl rfl rfl) ?_
            refine wl (ro_eqBool rfl rfl (by kernel_rfl) rfl) ?_
            refine wl_call rfl en_219 (Bool219) ?_
            rintro _ w18 ⟨rfl, F18⟩
            replace hF := hF.thenDrew.thenN F18
            replace hB := F18.blkN hB
            replace hT := F18.blkN hT
            replace h4 := F18.blkN h4
            replace h5 := F18.blkN h5
            refine wl_puta rfl rfl ((by (try exact vlc_cells _); all_goals simp [Value.oneCell', i64c, icv, u64c, u8c, ptr, S])) sz_104 (rfl) h4 ((by simp)) (rfl) (fun w19 h4 F19 => ?_)
            replace hF := hF.thenDrew.thenO F19 (by first | exact .inr (by omega) | exact .inl rfl | exact .inl (by assumption))
            replace hB := F19.blkO hB (by omega)
            replace hT := F19.blkO hT (by omega)
            replace h5 := F19.blkO h5 (by omega)
            refine wl_nil (x_then (hK20 _ _ ?_))
            clear hK20 K20
            refine c_ret ?_
            refine bq_ret (res1 Tryz.results212 (rv_c rfl ag_104 (h4) rfl)) ?_
            first
              | omega
              | (refine ⟨?_, hB, hF⟩
                 unfold shutT
                 repeat first | rw [if_pos (by omega)] | rw [if_neg (by omega)]
                 first
                   | rfl
                   | (have h1 : (t.acc == 1) = decide (t.acc = 1) := by by_cases e : t.acc = 1 <;> simp [e]
                      have h2 : ((f : Int) == 7) = decide (f = 7) := beqc f 7
                      have h3 : ((t.acc == 1) == ((f : Int) == 7)) = decide (decide (t.acc = 1) = decide (f = 7)) := by rw [h1, h2]; by_cases e : decide (t.acc = 1) = decide (f = 7) <;> simp [e]
                      rw [← h3]
                      rfl))

end Go.Proofs.Qxb6500570aGreat
