import Derived.Test.Qxb6500570aGreatJb
/- The real printer: the climb. -/
namespace Go.Proofs.Qxb6500570aGreat
set_option linter.unusedVariables false
set_option linter.unusedSimpArgs false

def pcT (x : Nd) : List UInt8 := if x.k = 6 then [45] else if x.k = 7 ∨ x.k = 9 then [] else fnm x.o.toNat ++ [40]
structure NbO (nb : Nat) (B : FB7) : Prop where
  f : nb ≠ B.f
  u : nb ≠ B.u
  n : nb ≠ B.n
theorem ne_all {B : FB7} {nb : Nat} (ho : FBo B) (hnb : NbO nb B) : B.f ≠ B.u ∧ B.u ≠ B.f ∧ B.f ≠ B.n ∧ B.n ≠ B.f ∧ B.n ≠ B.u ∧ B.u ≠ B.n ∧ nb ≠ B.f ∧ nb ≠ B.u ∧ nb ≠ B.n ∧ B.f ≠ nb ∧ B.u ≠ nb ∧ B.n ≠ nb :=
  ⟨ho.h1.2.2.2.2.2, ho.h1.2.2.2.2.2.symm, ho.h1.2.2.2.2.1, ho.h1.2.2.2.2.1.symm, ho.h6, ho.h6.symm, hnb.f, hnb.u, hnb.n, hnb.f.symm, hnb.u.symm, hnb.n.symm⟩
def UpP (n : List Nd) (N : Nts) (c p : Nat) (x : Nd) (T : List UInt8) : Prop := ¬ (x.k = 7 ∧ (c : Int) = x.b) → ¬ (x.k = 9 ∧ (c : Int) = x.a ∧ 0 ≤ x.b) → clm n N c T = clm n N p ((if (N p).2 = true then [40] else []) ++ (pcT x ++ T))
def GeP (c : Nat) (x : Nd) (T Y : List UInt8) : Prop := ¬ (x.k = 7 ∧ (c : Int) = x.b) → ¬ (x.k = 9 ∧ (c : Int) = x.a ∧ 0 ≤ x.b) → (pcT x ++ T).length ≤ Y.length
def O78 (x : Nd) : Prop := x.k = 7 ∨ x.k = 8 → 1 ≤ x.o ∧ x.o ≤ 10
set_option maxHeartbeats 8000000 in
theorem climb172 {w : World} {B : FB7} {k : Nat} {pos : Int} {hv dn : Bool} {er bd : Int} {T Y : List UInt8} {n : List Nd} {nb c0 : Nat} {fn : Nat → Value} {N : Nts} (ho : FBo B) (hD : DoneOK n) (hnb : NbO nb B) (h : PBV w B k pos hv dn er bd T) (hN : Blk w.heap nb (rws ndc n) 143) (hO : FB w.heap B.n 48 fn 201) (hc0 : c0 < n.length) (hM : ∀ j, c0 ≤ j → j < n.length → Mt n fn N j) (hY : clm n N c0 T = Y) (hYl : Y.length ≤ 288) :
    Ret Tryz.prog 172 [ptr B.f, sl nb n.length, i64c c0] w (fun _ w' => PBV w' B k pos hv dn er bd Y ∧ Fram (pset B) w w') := by
  have hF : Fram (pset B) w w := Fram.refl _ _
  have hn24 := hD.2.1
  refine ret_of Tryz.func172 rfl Tryz.ntmps172 rfl ?_
  refine c_block ?_
  -- loop@r0: live slots [0, 1, 2]
  refine c_loopG (fun q a' w' => ∃ c T, q = n.length - c ∧ c0 ≤ c ∧ c < n.length ∧ clm n N c T = Y ∧ PBV w' B k pos hv dn er bd T ∧ Blk w'.heap nb (rws ndc n) 143 ∧ FB w'.heap B.n 48 fn 201 ∧ Fram (pset B) w w' ∧ ∃ e, a' = Fr 78 (upds e [(0, ptr B.f), (1, sl nb n.length), (2, i64c c)]) []) _ ⟨c0, T, rfl, Nat.le_refl _, hc0, hY, h, hN, hO, hF, kp _ ⟨rfl, rfl, rfl, trivial⟩⟩ ?_
  clear hF hN hO h hY
  rintro q a' u1 ⟨c, T, rfl, hcc, hc, hY, h, hN, hO, hF, e, rfl⟩
  obtain ⟨m1, m2, m3⟩ := hM c hcc hc
  have hup : UpOK n N c := fun j hj hl => by
    rcases (hM j (by omega) hl).2.2 with q | q
    · exact .inl q
    · exact .inr ⟨q.1, q.2.1⟩
  have hB := h.hB
  have hTY : T.length ≤ Y.length := by rw [← hY]; exact climb_ge _ _ _ _ _
  obtain ⟨hl1, hl2⟩ := h.lt
  have hl3 := Blk.lt hO
  refine c_seq (fun K1 hK1 => ?_)
  refine c_seq (fun K2 hK2 => ?_)
  refine c_reg ?_ -- region 0 fill.go:125
  refine wl (ro_move rfl) ?_
  refine wl (ro_nilCheck rfl) ?_
  refine wl (ro_fieldAddr (k := 14) rfl fo_83_14) ?_
  refine wl (ro_loadB rfl sc_81 (by assumption) rfl) ?_
  refine wl (ro_move rfl) ?_
  refine wl (ro_indexAddr (et := 201) (k := 2) rfl rfl se_81 rfl (by omega)) ?_
  refine wl (ro_fieldAddr (k := 0) rfl fo_201_0) ?_
  refine wl (ro_loadB rfl sc_3 (hO) ((cel_at (by omega) (show _ = 2 * c by omega) m1))) ?_
  refine wl (ro_cmp (r := decide (0 ≤ (N c).1)) rfl rfl rfl) ?_
  refine wl_nil (x_then (hK2 _ _ ?_))
  clear hK2 K2
  refine wc_cond rfl (fun hc17 => ?_) (fun hc17 => ?_)
  · try simp only [decide_eq_true_eq, decide_eq_false_iff_not, Bool.not_eq_true', Bool.not_eq_false', Bool.not_eq_eq_eq_not, Bool.not_true, Bool.not_false, beq_iff_eq, bne_iff_ne, ne_eq, beq_eq_false_iff_ne, bne_eq_false_iff_eq, gt_iff_lt, ge_iff_le, Int.not_lt, Int.not_le] at hc17
    obtain ⟨p, hp⟩ : ∃ p : Nat, (N c).1 = (p : Int) := ⟨(N c).1.toNat, by omega⟩
    have m4 : c < p ∧ p < n.length ∧ 6 ≤ (ndA n (p : Nat)).k := by
      rw [hp] at m3
      omega
    obtain ⟨hcp, hpl, hp6⟩ := m4
    obtain ⟨x, hx, hloc⟩ := loc_all hD hpl
    have hxi := ndA_get hx
    obtain ⟨p1, p2, p3⟩ := hM p (by omega) hpl
    rw [hxi] at hp6
    have hk9 := hloc.2.1
    have hup' := @clm_up n N c p T hup hp hc
    have hop' := @clm_op n N c p T hp hc
    have har' := @clm_arg n N c p T hp hc
    rw [hxi] at hup' hop' har'
    replace hup' : UpP n N c p x T := hup'
    have hge : GeP c x T Y := fun q1 q2 => by
      rw [← hY, hup' q1 q2]
      refine Nat.le_trans ?_ (climb_ge n N (n.length - p) p _)
      generalize pcT x ++ T = Z
      rw [List.length_append]
      exact Nat.le_add_left _ _
    have hl78 : O78 x := fun q => by
      rcases q with q | q
      · obtain ⟨o, ho1, ho2, ho3, -⟩ := hloc.2.2.2.2.2.1 q
        omega
      · obtain ⟨-, -, o, ho1, ho2, ho3⟩ := hloc.2.2.2.2.2.2.1 q
        omega
    clear hloc m3 p3
    refine c_skip (x_then (hK1 _ _ ?_))
    clear hK1 K1
    refine c_block ?_
    refine forget [(0, _), (1, _), (2, _)] ⟨rfl, rfl, rfl, trivial⟩ (fun e => ?_)
    refine c_seq (fun K3 hK3 => ?_)
    refine c_reg ?_ -- region 1 fill.go:126
    refine wl (ro_move rfl) ?_
    refine wl (ro_nilCheck rfl) ?_
    refine wl (ro_fieldAddr (k := 14) rfl fo_83_14) ?_
    refine wl (ro_loadB rfl sc_81 (by assumption) rfl) ?_
    refine wl (ro_move rfl) ?_
    refine wl (ro_indexAddr (et := 201) (k := 2) rfl rfl se_81 rfl (by omega)) ?_
    refine wl (ro_fieldAddr (k := 0) rfl fo_201_0) ?_
    refine wl (ro_loadB rfl sc_3 (hO) ((cel_at (by omega) (show _ = 2 * c by omega) (show _ = i64c p by rw [m1, hp]; rfl)))) ?_
    refine wl (ro_assign rfl) ?_
    refine wl_nil (x_then (hK3 _ _ ?_))
    clear hK3 K3
    refine forget [(0, _), (1, _), (2, _), (6, _)] ⟨rfl, rfl, rfl, rfl, trivial⟩ (fun e => ?_)
    refine c_seq (fun K4 hK4 => ?_)
    refine c_reg ?_ -- region 2 fill.go:127
    refine wl (ro_move rfl) ?_
    refine wl (ro_move rfl) ?_
    refine wl (ro_indexAddr (et := 143) (k := 13) rfl rfl se_78 rfl (by omega)) ?_
    refine wl (ro_loadAggB rfl ag_143 (hN) ((ndc_len _)) ((rw_agg ndc_len hx (by omega)))) ?_
    refine wl_new (ze_143) (fun b7 w1 hbb7 h7 F1 => ?_)
    have hbsb7 := Nat.le_trans hF.size hbb7
    have hnenbb7 : nb < b7 := Nat.lt_of_lt_of_le hN.lt hbb7
    have hneB.nb7 : B.n < b7 := Nat.lt_of_lt_of_le hO.lt hbb7
    have hneB.fb7 : B.f < b7 := Nat.lt_of_lt_of_le hB.lt hbb7
    replace hF := hF.thenDrew.thenN F1
    replace hN := F1.blkN hN
    replace hO := F1.blkN hO
    replace hB := F1.blkN hB
    replace h := h.far F1 (fun h ↦ h) (fun h ↦ h)
    refine wl_puta rfl rfl ((ndc_cells _)) sz_143 (rfl) h7 ((by simp)) ((show _ = ndc x from rfl)) (fun w2 h7 F2 => ?_)
    replace hF := hF.thenDrew.thenO F2 (by first | exact .inr (by omega) | exact .inl rfl | exact .inl (by assumption))
    replace hN := F2.blkO hN (by first | (simp only [ne_eq, (ne_all ho hnb), not_false_eq_true]; done) | omega)
    replace hO := F2.blkO hO (by first | (simp only [ne_eq, (ne_all ho hnb), not_false_eq_true]; done) | omega)
    replace hB := F2.blkO hB (by first | (simp only [ne_eq, (ne_all ho hnb), not_false_eq_true]; done) | omega)
    replace h := h.far F2 (fun hh ↦ absurd (show B.f = b7 from hh) (by omega)) (fun hh ↦ absurd (show B.u = b7 from hh) (by omega))
    clear hB
    refine wl_nil (x_then (hK4 _ _ ?_))
    clear hK4 K4
    refine c_mid (fun a' w' => ¬ (x.k = 7 ∧ (c : Int) = x.b) ∧ ¬ (x.k = 9 ∧ (c : Int) = x.a ∧ 0 ≤ x.b) ∧ PBV w' B k pos hv dn er bd (pcT x ++ T) ∧ Blk w'.heap nb (rws ndc n) 143 ∧ FB w'.heap B.n 48 fn 201 ∧ Fram (pset B) w w' ∧ ∃ e, a' = Fr 78 (upds e [(0, ptr B.f), (1, sl nb n.length), (6, i64c p)]) []) ?_ ?_
    · skip
      refine c_seq (fun K5 hK5 => ?_)
      refine c_reg ?_ -- region 3 fill.go:128
      refine wl (ro_fieldAddr (k := 0) rfl fo_143_0) ?_
      refine wl (ro_loadB rfl sc_3 (by assumption) rfl) ?_
      refine wl_nil (x_then (hK5 _ _ ?_))
      clear hK5 K5
      refine c_block ?_
      refine forget [(0, _), (1, _), (2, _), (6, _), (7, _), (31, _)] ⟨rfl, rfl, rfl, rfl, rfl, rfl, trivial⟩ (fun e => ?_)
      refine c_seq (fun K6 hK6 => ?_)
      refine c_reg ?_ -- region 7 fill.go:129
      refine wl (ro_cmp rfl rfl rfl) ?_
      refine wl (ro_assign rfl) ?_
      refine wl_nil (x_then (hK6 _ _ ?_))
      clear hK6 K6
      refine wc_cond rfl (fun hc40 => ?_) (fun hc40 => ?_)
      · try simp only [decide_eq_true_eq, decide_eq_false_iff_not, Bool.not_eq_true', Bool.not_eq_false', Bool.not_eq_eq_eq_not, Bool.not_true, Bool.not_false, beq_iff_eq, bne_iff_ne, ne_eq, beq_eq_false_iff_ne, bne_eq_false_iff_eq, gt_iff_lt, ge_iff_le, Int.not_lt, Int.not_le] at hc40
        have hl2 : T.length + 1 ≤ Y.length := by
          have := hge (fun q => by omega) (fun q => by omega)
          unfold pcT at this
          rw [if_pos hc40] at this
          exact this
        refine c_reg ?_ -- region 8 fill.go:130
        refine wl (ro_move rfl) ?_
        refine wl_call rfl en_169 (put169 (c := 45) ho.h1.2.2.2.2.2 h (by omega)) ?_
        rintro _ u3 ⟨h4, G3⟩
        replace hF := hF.transG G3 (by intro k hk h; simp only [pset, none', one] at h ⊢ <;> omega)
        replace hN := G3.blkF hN (by intro h; simp only [pset, none', one, (ne_all ho hnb), or_self, false_or, or_false] at h <;> omega)
        replace hO := G3.blkF hO (by intro h; simp only [pset, none', one, (ne_all ho hnb), or_self, false_or, or_false] at h <;> omega)
        replace h7 := G3.blkF h7 (by intro h; simp only [pset, none', one, (ne_all ho hnb), or_self, false_or, or_false] at h <;> omega)
        refine wl_nil (x_blk (x_then ?_))
        first
          | exact ⟨fun q => by omega, fun q => by omega, by unfold pcT; rw [if_pos hc40]; exact h4, hN, hO, hF, kp _ ⟨rfl, rfl, rfl, trivial⟩⟩
          | exact ⟨fun q => hc49 q.2, fun q => by omega, by unfold pcT; rw [if_neg hc40, if_pos (.inl hc44)]; exact h, hN, hO, hF, kp _ ⟨rfl, rfl, rfl, trivial⟩⟩
          | exact ⟨fun q => by omega, fun q => hg60 q.2.1, by unfold pcT; rw [if_neg hc40, if_pos (.inr hc54)]; exact h, hN, hO, hF, kp _ ⟨rfl, rfl, rfl, trivial⟩⟩
          | exact ⟨fun q => by omega, fun q => absurd q.2.2 (by omega), by unfold pcT; rw [if_neg hc40, if_pos (.inr hc54)]; exact h, hN, hO, hF, kp _ ⟨rfl, rfl, rfl, trivial⟩⟩
          | exact ⟨fun q => by omega, fun q => by omega, by unfold pcT; rw [if_neg hc40, if_neg (by omega), List.append_assoc]; exact h6, hN, hO, hF, kp _ ⟨rfl, rfl, rfl, trivial⟩⟩
      · try simp only [decide_eq_true_eq, decide_eq_false_iff_not, Bool.not_eq_true', Bool.not_eq_false', Bool.not_eq_eq_eq_not, Bool.not_true, Bool.not_false, beq_iff_eq, bne_iff_ne, ne_eq, beq_eq_false_iff_ne, bne_eq_false_iff_eq, gt_iff_lt, ge_iff_le, Int.not_lt, Int.not_le] at hc40
        refine c_seq (fun K7 hK7 => ?_)
        refine c_reg ?_ -- region 9 fill.go:131
        refine wl (ro_cmp rfl rfl rfl) ?_
        refine wl (ro_assign rfl) ?_
        refine wl_nil (x_then (hK7 _ _ ?_))
        clear hK7 K7
        refine wc_cond rfl (fun hc44 => ?_) (fun hc44 => ?_)
        · try simp only [decide_eq_true_eq, decide_eq_false_iff_not, Bool.not_eq_true', Bool.not_eq_false', Bool.not_eq_eq_eq_not, Bool.not_true, Bool.not_false, beq_iff_eq, bne_iff_ne, ne_eq, beq_eq_false_iff_ne, bne_eq_false_iff_eq, gt_iff_lt, ge_iff_le, Int.not_lt, Int.not_le] at hc44
          refine c_seq (fun K8 hK8 => ?_)
          refine c_reg ?_ -- region 10 fill.go:132
          refine wl (ro_move rfl) ?_
          refine wl (ro_fieldAddr (k := 3) rfl fo_143_3) ?_
          refine wl (ro_loadB rfl sc_3 (by assumption) rfl) ?_
          refine wl (ro_cmp rfl rfl rfl) ?_
          refine wl_nil (x_then (hK8 _ _ ?_))
          clear hK8 K8
          refine wc_cond rfl (fun hc49 => ?_) (fun hc49 => ?_)
          · try simp only [decide_eq_true_eq, decide_eq_false_iff_not, Bool.not_eq_true', Bool.not_eq_false', Bool.not_eq_eq_eq_not, Bool.not_true, Bool.not_false, beq_iff_eq, bne_iff_ne, ne_eq, beq_eq_false_iff_ne, bne_eq_false_iff_eq, gt_iff_lt, ge_iff_le, Int.not_lt, Int.not_le] at hc49
            have hl : (opT x.o.toNat ++ T).length ≤ 288 := by
              rw [← hop' hc44 hc49, hY]
              exact hYl
            have hoo := hl78 (.inl hc44)
            refine c_seq (fun K9 hK9 => ?_)
            refine c_reg ?_ -- region 11 fill.go:133
            refine wl (ro_move rfl) ?_
            refine wl (ro_fieldAddr (k := 1) rfl fo_143_1) ?_
            refine wl (ro_loadB rfl sc_3 (h7) ((show _ = some (i64c x.o.toNat) from congrArg some (congrArg icv (by omega))))) ?_
            refine wl_call rfl en_202 (putOp202 ho.h1.2.2.2.2.2 h (by omega) (by omega) hl) ?_
            rintro _ u3 ⟨h4, G3⟩
            replace hF := hF.transG G3 (by intro k hk h; simp only [pset, none', one] at h ⊢ <;> omega)
            replace hN := G3.blkF hN (by intro h; simp only [pset, none', one, (ne_all ho hnb), or_self, false_or, or_false] at h <;> omega)
            replace hO := G3.blkF hO (by intro h; simp only [pset, none', one, (ne_all ho hnb), or_self, false_or, or_false] at h <;> omega)
            replace h7 := G3.blkF h7 (by intro h; simp only [pset, none', one, (ne_all ho hnb), or_self, false_or, or_false] at h <;> omega)
            refine wl_nil (x_then (hK9 _ _ ?_))
            clear hK9 K9
            refine c_ret (x_blkR (x_thenR (x_blkR (x_thenR (x_blkR ?_)))))
            refine bp_ret Tryz.results172 rfl ?_
            exact ⟨by rw [← hY, hop' hc44 hc49]; exact h4, hF⟩
          · try simp only [decide_eq_true_eq, decide_eq_false_iff_not, Bool.not_eq_true', Bool.not_eq_false', Bool.not_eq_eq_eq_not, Bool.not_true, Bool.not_false, beq_iff_eq, bne_iff_ne, ne_eq, beq_eq_false_iff_ne, bne_eq_false_iff_eq, gt_iff_lt, ge_iff_le, Int.not_lt, Int.not_le] at hc49
            refine c_skip (x_blk (x_then ?_))
            first
              | exact ⟨fun q => by omega, fun q => by omega, by unfold pcT; rw [if_pos hc40]; exact h4, hN, hO, hF, kp _ ⟨rfl, rfl, rfl, trivial⟩⟩
              | exact ⟨fun q => hc49 q.2, fun q => by omega, by unfold pcT; rw [if_neg hc40, if_pos (.inl hc44)]; exact h, hN, hO, hF, kp _ ⟨rfl, rfl, rfl, trivial⟩⟩
              | exact ⟨fun q => by omega, fun q => hg60 q.2.1, by unfold pcT; rw [if_neg hc40, if_pos (.inr hc54)]; exact h, hN, hO, hF, kp _ ⟨rfl, rfl, rfl, trivial⟩⟩
              | exact ⟨fun q => by omega, fun q => absurd q.2.2 (by omega), by unfold pcT; rw [if_neg hc40, if_pos (.inr hc54)]; exact h, hN, hO, hF, kp _ ⟨rfl, rfl, rfl, trivial⟩⟩
              | exact ⟨fun q => by omega, fun q => by omega, by unfold pcT; rw [if_neg hc40, if_neg (by omega), List.append_assoc]; exact h6, hN, hO, hF, kp _ ⟨rfl, rfl, rfl, trivial⟩⟩
        · try simp only [decide_eq_true_eq, decide_eq_false_iff_not, Bool.not_eq_true', Bool.not_eq_false', Bool.not_eq_eq_eq_not, Bool.not_true, Bool.not_false, beq_iff_eq, bne_iff_ne, ne_eq, beq_eq_false_iff_ne, bne_eq_false_iff_eq, gt_iff_lt, ge_iff_le, Int.not_lt, Int.not_le] at hc44
          refine c_seq (fun K10 hK10 => ?_)
          refine c_reg ?_ -- region 12 fill.go:136
          refine wl (ro_cmp rfl rfl rfl) ?_
          refine wl (ro_assign rfl) ?_
          refine wl_nil (x_then (hK10 _ _ ?_))
          clear hK10 K10
          refine wc_cond rfl (fun hc54 => ?_) (fun hc54 => ?_)
          · try simp only [decide_eq_true_eq, decide_eq_false_iff_not, Bool.not_eq_true', Bool.not_eq_false', Bool.not_eq_eq_eq_not, Bool.not_true, Bool.not_false, beq_iff_eq, bne_iff_ne, ne_eq, beq_eq_false_iff_ne, bne_eq_false_iff_eq, gt_iff_lt, ge_iff_le, Int.not_lt, Int.not_le] at hc54
            refine c_seq (fun K11 hK11 => ?_)
            refine c_reg ?_ -- region 13 fill.go:137
            refine wl (ro_move rfl) ?_
            refine wl (ro_fieldAddr (k := 2) rfl fo_143_2) ?_
            refine wl (ro_loadB rfl sc_3 (by assumption) rfl) ?_
            refine wl (ro_cmp rfl rfl rfl) ?_
            refine wl_fork rfl (fun hg60 => ?_) (fun hg60 => ?_)
            · try simp only [decide_eq_true_eq, decide_eq_false_iff_not, Bool.not_eq_true', Bool.not_eq_false', Bool.not_eq_eq_eq_not, Bool.not_true, Bool.not_false, beq_iff_eq, bne_iff_ne, ne_eq, beq_eq_false_iff_ne, bne_eq_false_iff_eq, gt_iff_lt, ge_iff_le, Int.not_lt, Int.not_le] at hg60
              refine wlg_yes rfl (ro_fieldAddr (k := 3) rfl fo_143_3) ?_
              refine wlg_yes rfl (ro_loadB rfl sc_3 (by assumption) rfl) ?_
              refine wlg_yes rfl (ro_cmp (r := decide (0 ≤ x.b)) rfl rfl rfl) ?_
              refine wl (ro_pick rfl rfl rfl) ?_
              refine wl_nil (x_then (hK11 _ _ ?_))
              clear hK11 K11
              refine wc_cond rfl (fun hc64 => ?_) (fun hc64 => ?_)
              · try simp only [decide_eq_true_eq, decide_eq_false_iff_not, Bool.not_eq_true', Bool.not_eq_false', Bool.not_eq_eq_eq_not, Bool.not_true, Bool.not_false, beq_iff_eq, bne_iff_ne, ne_eq, beq_eq_false_iff_ne, bne_eq_false_iff_eq, gt_iff_lt, ge_iff_le, Int.not_lt, Int.not_le] at hc64
                have hq : clm n N c T = 44 :: T := har' hc54 hg60 hc64
                rw [hY] at hq
                have hl2 : T.length + 1 ≤ Y.length := by rw [hq, List.length_cons]; omega
                refine c_seq (fun K12 hK12 => ?_)
                refine c_reg ?_ -- region 14 fill.go:138
                refine wl (ro_move rfl) ?_
                refine wl_call rfl en_169 (put169 (c := 44) ho.h1.2.2.2.2.2 h (by omega)) ?_
                rintro _ u3 ⟨h4, G3⟩
                replace hF := hF.transG G3 (by intro k hk h; simp only [pset, none', one] at h ⊢ <;> omega)
                replace hN := G3.blkF hN (by intro h; simp only [pset, none', one, (ne_all ho hnb), or_self, false_or, or_false] at h <;> omega)
                replace hO := G3.blkF hO (by intro h; simp only [pset, none', one, (ne_all ho hnb), or_self, false_or, or_false] at h <;> omega)
                replace h7 := G3.blkF h7 (by intro h; simp only [pset, none', one, (ne_all ho hnb), or_self, false_or, or_false] at h <;> omega)
                refine wl_nil (x_then (hK12 _ _ ?_))
                clear hK12 K12
                refine c_ret (x_blkR (x_thenR (x_blkR (x_thenR (x_blkR ?_)))))
                refine bp_ret Tryz.results172 rfl ?_
                exact ⟨by rw [hq]; exact h4, hF⟩
              · try simp only [decide_eq_true_eq, decide_eq_false_iff_not, Bool.not_eq_true', Bool.not_eq_false', Bool.not_eq_eq_eq_not, Bool.not_true, Bool.not_false, beq_iff_eq, bne_iff_ne, ne_eq, beq_eq_false_iff_ne, bne_eq_false_iff_eq, gt_iff_lt, ge_iff_le, Int.not_lt, Int.not_le] at hc64
                refine c_skip (x_blk (x_then ?_))
                first
                  | exact ⟨fun q => by omega, fun q => by omega, by unfold pcT; rw [if_pos hc40]; exact h4, hN, hO, hF, kp _ ⟨rfl, rfl, rfl, trivial⟩⟩
                  | exact ⟨fun q => hc49 q.2, fun q => by omega, by unfold pcT; rw [if_neg hc40, if_pos (.inl hc44)]; exact h, hN, hO, hF, kp _ ⟨rfl, rfl, rfl, trivial⟩⟩
                  | exact ⟨fun q => by omega, fun q => hg60 q.2.1, by unfold pcT; rw [if_neg hc40, if_pos (.inr hc54)]; exact h, hN, hO, hF, kp _ ⟨rfl, rfl, rfl, trivial⟩⟩
                  | exact ⟨fun q => by omega, fun q => absurd q.2.2 (by omega), by unfold pcT; rw [if_neg hc40, if_pos (.inr hc54)]; exact h, hN, hO, hF, kp _ ⟨rfl, rfl, rfl, trivial⟩⟩
                  | exact ⟨fun q => by omega, fun q => by omega, by unfold pcT; rw [if_neg hc40, if_neg (by omega), List.append_assoc]; exact h6, hN, hO, hF, kp _ ⟨rfl, rfl, rfl, trivial⟩⟩
            · try simp only [decide_eq_true_eq, decide_eq_false_iff_not, Bool.not_eq_true', Bool.not_eq_false', Bool.not_eq_eq_eq_not, Bool.not_true, Bool.not_false, beq_iff_eq, bne_iff_ne, ne_eq, beq_eq_false_iff_ne, bne_eq_false_iff_eq, gt_iff_lt, ge_iff_le, Int.not_lt, Int.not_le] at hg60
              refine wlg_no rfl ?_
              refine wlg_no rfl ?_
              refine wlg_no rfl ?_
              refine wl (ro_pick rfl rfl rfl) ?_
              refine wl_nil (x_then (hK11 _ _ ?_))
              clear hK11 K11
              refine wc_condF rfl ?_
              refine c_skip (x_blk (x_then ?_))
              first
                | exact ⟨fun q => by omega, fun q => by omega, by unfold pcT; rw [if_pos hc40]; exact h4, hN, hO, hF, kp _ ⟨rfl, rfl, rfl, trivial⟩⟩
                | exact ⟨fun q => hc49 q.2, fun q => by omega, by unfold pcT; rw [if_neg hc40, if_pos (.inl hc44)]; exact h, hN, hO, hF, kp _ ⟨rfl, rfl, rfl, trivial⟩⟩
                | exact ⟨fun q => by omega, fun q => hg60 q.2.1, by unfold pcT; rw [if_neg hc40, if_pos (.inr hc54)]; exact h, hN, hO, hF, kp _ ⟨rfl, rfl, rfl, trivial⟩⟩
                | exact ⟨fun q => by omega, fun q => absurd q.2.2 (by omega), by unfold pcT; rw [if_neg hc40, if_pos (.inr hc54)]; exact h, hN, hO, hF, kp _ ⟨rfl, rfl, rfl, trivial⟩⟩
                | exact ⟨fun q => by omega, fun q => by omega, by unfold pcT; rw [if_neg hc40, if_neg (by omega), List.append_assoc]; exact h6, hN, hO, hF, kp _ ⟨rfl, rfl, rfl, trivial⟩⟩
          · try simp only [decide_eq_true_eq, decide_eq_false_iff_not, Bool.not_eq_true', Bool.not_eq_false', Bool.not_eq_eq_eq_not, Bool.not_true, Bool.not_false, beq_iff_eq, bne_iff_ne, ne_eq, beq_eq_false_iff_ne, bne_eq_false_iff_eq, gt_iff_lt, ge_iff_le, Int.not_lt, Int.not_le] at hc54
            have hk8 : x.k = 8 := by omega
            have hoo := hl78 (.inr hk8)
            have hl2 : (fnm x.o.toNat).length + 1 + T.length ≤ Y.length := by
              have := hge (fun q => by omega) (fun q => by omega)
              unfold pcT at this
              rw [if_neg (by omega), if_neg (by omega)] at this
              simp only [List.length_append, List.length_cons, List.length_nil] at this
              omega
            refine c_seq (fun K13 hK13 => ?_)
            refine c_reg ?_ -- region 4 fill.go:142
            refine wl (ro_move rfl) ?_
            refine wl_call rfl en_169 (put169 (c := 40) ho.h1.2.2.2.2.2 h (by omega)) ?_
            rintro _ u3 ⟨h4, G3⟩
            replace hF := hF.transG G3 (by intro k hk h; simp only [pset, none', one] at h ⊢ <;> omega)
            replace hN := G3.blkF hN (by intro h; simp only [pset, none', one, (ne_all ho hnb), or_self, false_or, or_false] at h <;> omega)
            replace hO := G3.blkF hO (by intro h; simp only [pset, none', one, (ne_all ho hnb), or_self, false_or, or_false] at h <;> omega)
            replace h7 := G3.blkF h7 (by intro h; simp only [pset, none', one, (ne_all ho hnb), or_self, false_or, or_false] at h <;> omega)
            refine wl_nil (x_then (hK13 _ _ ?_))
            clear hK13 K13
            refine forget [(0, _), (1, _), (6, _), (7, _)] ⟨rfl, rfl, rfl, rfl, trivial⟩ (fun e => ?_)
            refine c_seq (fun K14 hK14 => ?_)
            refine c_reg ?_ -- region 5 fill.go:143
            refine wl (ro_fieldAddr (k := 1) rfl fo_143_1) ?_
            refine wl (ro_loadB rfl sc_3 (h7) ((show _ = some (i64c x.o.toNat) from congrArg some (congrArg icv (by omega))))) ?_
            refine wl_call rfl en_182 (FuncName182 (by omega) (by omega)) ?_
            rintro _ _ ⟨rfl, rfl⟩
            refine wl (ro_assign rfl) ?_
            refine wl_nil (x_then (hK14 _ _ ?_))
            clear hK14 K14
            refine c_reg ?_ -- region 6 fill.go:144
            refine wl (ro_move rfl) ?_
            refine wl (ro_move rfl) ?_
            refine wl_call rfl en_200 (puts200 ho.h1.2.2.2.2.2 h4 (by simp only [List.length_append, List.length_cons]; omega)) ?_
            rintro _ u4 ⟨h6, G4⟩
            replace hF := hF.transG G4 (by intro k hk h; simp only [pset, none', one] at h ⊢ <;> omega)
            replace hN := G4.blkF hN (by intro h; simp only [pset, none', one, (ne_all ho hnb), or_self, false_or, or_false] at h <;> omega)
            replace hO := G4.blkF hO (by intro h; simp only [pset, none', one, (ne_all ho hnb), or_self, false_or, or_false] at h <;> omega)
            replace h7 := G4.blkF h7 (by intro h; simp only [pset, none', one, (ne_all ho hnb), or_self, false_or, or_false] at h <;> omega)
            refine wl_nil (x_blk (x_then ?_))
            first
              | exact ⟨fun q => by omega, fun q => by omega, by unfold pcT; rw [if_pos hc40]; exact h4, hN, hO, hF, kp _ ⟨rfl, rfl, rfl, trivial⟩⟩
              | exact ⟨fun q => hc49 q.2, fun q => by omega, by unfold pcT; rw [if_neg hc40, if_pos (.inl hc44)]; exact h, hN, hO, hF, kp _ ⟨rfl, rfl, rfl, trivial⟩⟩
              | exact ⟨fun q => by omega, fun q => hg60 q.2.1, by unfold pcT; rw [if_neg hc40, if_pos (.inr hc54)]; exact h, hN, hO, hF, kp _ ⟨rfl, rfl, rfl, trivial⟩⟩
              | exact ⟨fun q => by omega, fun q => absurd q.2.2 (by omega), by unfold pcT; rw [if_neg hc40, if_pos (.inr hc54)]; exact h, hN, hO, hF, kp _ ⟨rfl, rfl, rfl, trivial⟩⟩
              | exact ⟨fun q => by omega, fun q => by omega, by unfold pcT; rw [if_neg hc40, if_neg (by omega), List.append_assoc]; exact h6, hN, hO, hF, kp _ ⟨rfl, rfl, rfl, trivial⟩⟩
    clear hF hN hO h
    rintro a' u2 ⟨hn7, hn9, h, hN, hO, hF, e, rfl⟩
    replace hY : clm n N p ((if (N p).2 = true then [40] else []) ++ (pcT x ++ T)) = Y := by rw [← hY]; exact (hup' hn7 hn9).symm
    have hTY2 : ((if (N p).2 = true then [40] else []) ++ (pcT x ++ T)).length ≤ Y.length := by
      rw [← hY]
      exact climb_ge n N (n.length - p) p _
    have hB := h.hB
    refine c_seq (fun K15 hK15 => ?_)
    refine c_seq (fun K16 hK16 => ?_)
    refine c_reg ?_ -- region 15 fill.go:146
    refine wl (ro_move rfl) ?_
    refine wl (ro_nilCheck rfl) ?_
    refine wl (ro_fieldAddr (k := 14) rfl fo_83_14) ?_
    refine wl (ro_loadB rfl sc_81 (by assumption) rfl) ?_
    refine wl (ro_move rfl) ?_
    refine wl (ro_indexAddr (et := 201) (k := 2) rfl rfl se_81 rfl (by omega)) ?_
    refine wl (ro_fieldAddr (k := 1) rfl fo_201_1) ?_
    refine wl (ro_loadB rfl sc_4 (hO) ((cel_at (by omega) (show _ = 2 * p + 1 by omega) p2))) ?_
    refine wl_nil (x_then (hK16 _ _ ?_))
    clear hK16 K16
    refine wc_cond rfl (fun hc74 => ?_) (fun hc74 => ?_)
    · try simp only [decide_eq_true_eq, decide_eq_false_iff_not, Bool.not_eq_true', Bool.not_eq_false', Bool.not_eq_eq_eq_not, Bool.not_true, Bool.not_false, beq_iff_eq, bne_iff_ne, ne_eq, beq_eq_false_iff_ne, bne_eq_false_iff_eq, gt_iff_lt, ge_iff_le, Int.not_lt, Int.not_le] at hc74
      rw [if_pos hc74] at hY hTY2
      simp only [List.length_append, List.length_cons, List.length_nil] at hTY2
      refine c_reg ?_ -- region 16 fill.go:147
      refine wl (ro_move rfl) ?_
      refine wl_call rfl en_169 (put169 (c := 40) ho.h1.2.2.2.2.2 h (by rw [List.length_append]; omega)) ?_
      rintro _ u4 ⟨h6, G4⟩
      replace hF := hF.transG G4 (by intro k hk h; simp only [pset, none', one] at h ⊢ <;> omega)
      replace hN := G4.blkF hN (by intro h; simp only [pset, none', one, (ne_all ho hnb), or_self, false_or, or_false] at h <;> omega)
      replace hO := G4.blkF hO (by intro h; simp only [pset, none', one, (ne_all ho hnb), or_self, false_or, or_false] at h <;> omega)
      refine wl_nil (x_then (hK15 _ _ ?_))
      clear hK15 K15
      refine c_reg ?_ -- region 17 fill.go:149
      refine wl (ro_move rfl) ?_
      refine wl (ro_assign rfl) ?_
      refine wl_nil (x_blk (x_then ?_))
      first
        | exact ⟨n.length - p, by omega, p, _, rfl, by omega, hpl, hY, h6, hN, hO, hF, kp _ ⟨rfl, rfl, rfl, trivial⟩⟩
        | exact ⟨n.length - p, by omega, p, _, rfl, by omega, hpl, hY, h, hN, hO, hF, kp _ ⟨rfl, rfl, rfl, trivial⟩⟩
    · try simp only [decide_eq_true_eq, decide_eq_false_iff_not, Bool.not_eq_true', Bool.not_eq_false', Bool.not_eq_eq_eq_not, Bool.not_true, Bool.not_false, beq_iff_eq, bne_iff_ne, ne_eq, beq_eq_false_iff_ne, bne_eq_false_iff_eq, gt_iff_lt, ge_iff_le, Int.not_lt, Int.not_le] at hc74
      rw [if_neg (by simp [hc74])] at hY
      refine c_skip (x_then (hK15 _ _ ?_))
      clear hK15 K15
      refine c_reg ?_ -- region 17 fill.go:149
      refine wl (ro_move rfl) ?_
      refine wl (ro_assign rfl) ?_
      refine wl_nil (x_blk (x_then ?_))
      first
        | exact ⟨n.length - p, by omega, p, _, rfl, by omega, hpl, hY, h6, hN, hO, hF, kp _ ⟨rfl, rfl, rfl, trivial⟩⟩
        | exact ⟨n.length - p, by omega, p, _, rfl, by omega, hpl, hY, h, hN, hO, hF, kp _ ⟨rfl, rfl, rfl, trivial⟩⟩
  · try simp only [decide_eq_true_eq, decide_eq_false_iff_not, Bool.not_eq_true', Bool.not_eq_false', Bool.not_eq_eq_eq_not, Bool.not_true, Bool.not_false, beq_iff_eq, bne_iff_ne, ne_eq, beq_eq_false_iff_ne, bne_eq_false_iff_eq, gt_iff_lt, ge_iff_le, Int.not_lt, Int.not_le] at hc17
    refine c_exit (x_thenX (x_thenX (x_blkX ?_)))
    refine bp_end Tryz.results172 rfl ?_
    have hq : clm n N c T = T := by
      show climbF n N (n.length - c) c T = T
      rw [show n.length - c = (n.length - c - 1) + 1 by omega]
      unfold climbF
      rw [if_pos (by omega)]
    rw [← hY, hq]
    exact ⟨h, hF⟩

end Go.Proofs.Qxb6500570aGreat
