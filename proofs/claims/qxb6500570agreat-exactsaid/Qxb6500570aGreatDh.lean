import Derived.Test.Qxb6500570aGreatDg
import Derived.Test.Qxb6500570aGreatPr
/- The real evaluator: a tree compiled. -/
namespace Go.Proofs.Qxb6500570aGreat
set_option linter.unusedVariables false
set_option linter.unusedSimpArgs false

theorem cmp_next {n : List Nd} {C P : List In} {OL OL2 : List Nat} {x : Nd} {i : Nat} (hP : cmpF n (i + 1) (ownL OL) ++ C = P) (hx : n[i]? = some x) (h2 : ∀ j, j < i → ownL OL2 j = ownS (ownL OL) x i j) : cmpF n i (ownL OL2) ++ (cI n (ownL OL i) x ++ C) = P := by
  rw [← hP, cmp_succ hx, List.append_assoc, cmp_own h2]
theorem own_same {OL : List Nat} {x : Nd} {i : Nat} (h8 : x.k ≠ 8) (h9 : x.k ≠ 9) : ∀ j, j < i → ownL OL j = ownS (ownL OL) x i j := by
  intro j hj
  unfold ownS
  rw [if_neg h8, if_neg h9]

theorem emitI {w : World} {B : EB} {C : List In} {x : In} {a' : Int} (ha : a' = ((x.a : Nat) : Int)) (ho : EBo B) (h : PV w B C) (hl : C.length < 48) (hm : x.m < 2 ^ 24) :
    Ret Tryz.prog 183 [ptr B.e, i64c x.d, icv a', vlA x.v, u32c x.m] w (fun _ w' => PV w' B (x :: C) ∧ Fram (ec B) w w') := by subst ha; exact emitP ho h hl hm
theorem callI {w : World} {B : EB} {C : List In} {f : Nat} {a' : Int} (ha : a' = ((f : Nat) : Int)) (ho : EBo B) (h : PV w B C) (hl : C.length < 48) :
    Ret Tryz.prog 185 [ptr B.e, icv a'] w (fun _ w' => PV w' B (⟨if a' = 5 then 5 else if tallF f = true then 10 else 3, f, vZ, 0⟩ :: C) ∧ Fram (ec B) w w') := by subst ha; exact call185 ho h hl
theorem linkI {w : World} {B : EB} {C : List In} {n : List Nd} {OL : List Nat} {nb i : Nat} {i' : Int} {x : Nd} (hi' : i' = ((i : Nat) : Int)) (ho : EBo B) (hnb : B.t < nb) (h : PV w B C) (hO : Blk w.heap B.o (rws onc OL) 3) (hN : Blk w.heap nb (rws ndc n) 143) (hl : C.length + 2 ≤ 48) (hol : OL.length = 24) (hx : n[i]? = some x) (hn : n.length ≤ 24)
    (hk : x.k = 9) (ha : 0 ≤ x.a ∧ x.a < n.length) (hb : x.b < n.length) (hf : ownL OL i ≤ 10) :
    Ret Tryz.prog 186 [ptr B.e, sl nb n.length, icv i'] w (fun _ w' => PV w' B (cI n (ownL OL i) x ++ C) ∧ Blk w'.heap B.o (rws onc (if 0 ≤ x.b then OL.set x.b.toNat (ownL OL i) else OL)) 3 ∧ Blk w'.heap nb (rws ndc n) 143 ∧ Fram (eco B) w w') := by
  subst hi'; exact link186 ho hnb h hO hN hl hol hx hn hk ha hb hf

theorem PV.as {w : World} {B : EB} {L L' C : List In} (e : L' = L) (h : PV w B (L ++ C)) : PV w B (L' ++ C) := by rw [e]; exact h

set_option maxHeartbeats 8000000 in
theorem compile140 {w : World} {B : EB} {n : List Nd} {CL : List In} {OL : List Nat} {nb st cl : Nat} (ho : EBo B) (hnb : B.t < nb) (hB : Blk w.heap B.e (evs B st cl 0 0) 89) (hC : Blk w.heap B.c (rws inc CL) 213) (hcl : CL.length = 48) (hO : Blk w.heap B.o (rws onc OL) 3) (hol : OL.length = 24) (h10 : ∀ j, ownL OL j ≤ 10)
    (hN : Blk w.heap nb (rws ndc n) 143) (hD : DoneOK n) :
    Ret Tryz.prog 140 [ptr B.e, sl nb n.length] w (fun _ w' => PV w' B (progT n) ∧ (∃ OL', Blk w'.heap B.o (rws onc OL') 3 ∧ OL'.length = 24 ∧ ∀ j, ownL OL' j ≤ 10) ∧ Fram (eco B) w w') := by
  have hF : Fram (eco B) w w := Fram.refl _ _
  have hm1 : eco B B.o := .inr (.inr rfl)
  have hm2 : eco B B.e := .inl rfl
  have ho' := ho
  unfold EBo at ho
  have hn24 := hD.2.1
  have hn1 := hD.1
  have hprog := (tree_law (env := fun _ => vZ) hD (fun _ _ => Lw.z)).1 (ownL OL)
  refine ret_of Tryz.func140 rfl Tryz.ntmps140 rfl ?_
  refine c_seq (fun K1 hK1 => ?_)
  refine c_reg ?_ -- region 0 code.go:40
  refine wl (ro_move rfl) ?_
  refine wl (ro_move rfl) ?_
  refine wl (ro_nilCheck rfl) ?_
  refine wl (ro_fieldAddr (k := 1) rfl fo_89_1) ?_
  refine wl (ro_loadB rfl sc_84 (by assumption) rfl) ?_
  refine wl (ro_lenL rfl se_84) ?_
  refine wl (ro_nilCheck rfl) ?_
  refine wl (ro_fieldAddr (k := 2) rfl fo_89_2) ?_
  refine wl_put rfl rfl rfl sz_3 hB ((by simp)) ((show _ = evs B 48 cl 0 0 from rfl)) (fun w1 hB F1 => ?_)
  replace hF := hF.thenDrew.thenO F1 (by first | exact .inr (by omega) | exact .inl rfl | exact .inl (by assumption))
  replace hC := F1.blkO hC (by omega)
  replace hO := F1.blkO hO (by omega)
  replace hN := F1.blkO hN (by omega)
  refine wl_nil (x_then (hK1 _ _ ?_))
  clear hK1 K1
  refine forget [(0, _), (1, _)] ⟨rfl, rfl, trivial⟩ (fun e => ?_)
  refine c_seq (fun K2 hK2 => ?_)
  refine c_reg ?_ -- region 1 code.go:41
  refine wl (ro_move rfl) ?_
  refine wl (ro_nilCheck rfl) ?_
  refine wl (ro_fieldAddr (k := 3) rfl fo_89_3) ?_
  refine wl_put rfl rfl rfl sz_85 hB ((by simp)) ((show _ = evs B 48 0 0 0 from rfl)) (fun w2 hB F2 => ?_)
  replace hF := hF.thenDrew.thenO F2 (by first | exact .inr (by omega) | exact .inl rfl | exact .inl (by assumption))
  replace hC := F2.blkO hC (by omega)
  replace hO := F2.blkO hO (by omega)
  replace hN := F2.blkO hN (by omega)
  refine wl_nil (x_then (hK2 _ _ ?_))
  clear hK2 K2
  refine forget [(0, _), (1, _)] ⟨rfl, rfl, trivial⟩ (fun e => ?_)
  refine c_seq (fun K3 hK3 => ?_)
  refine c_reg ?_ -- region 2 code.go:42
  refine wl (ro_build rfl bld_104) ?_
  refine wl_new (ze_104) (fun b4 w3 hbb4 h4 F3 => ?_)
  have hbsb4 := Nat.le_trans hF.size hbb4
  have hneB.eb4 : B.e < b4 := Nat.lt_of_lt_of_le hB.lt hbb4
  have hneB.cb4 : B.c < b4 := Nat.lt_of_lt_of_le hC.lt hbb4
  have hneB.ob4 : B.o < b4 := Nat.lt_of_lt_of_le hO.lt hbb4
  have hnenbb4 : nb < b4 := Nat.lt_of_lt_of_le hN.lt hbb4
  replace hF := hF.thenDrew.thenN F3
  replace hB := F3.blkN hB
  replace hC := F3.blkN hC
  replace hO := F3.blkN hO
  replace hN := F3.blkN hN
  refine wl_puta rfl rfl ((by (try exact vlc_cells _); all_goals simp [Value.oneCell', i64c, icv, u64c, u8c, ptr, S])) sz_104 (rfl) h4 ((by simp)) (rfl) (fun w4 h4 F4 => ?_)
  replace hF := hF.thenDrew.thenO F4 (by first | exact .inr (by omega) | exact .inl rfl | exact .inl (by assumption))
  replace hB := F4.blkO hB (by omega)
  replace hC := F4.blkO hC (by omega)
  replace hO := F4.blkO hO (by omega)
  replace hN := F4.blkO hN (by omega)
  refine wl_nil (x_then (hK3 _ _ ?_))
  clear hK3 K3
  refine forget [(0, _), (1, _), (4, _)] ⟨rfl, rfl, rfl, trivial⟩ (fun e => ?_)
  refine c_seq (fun K4 hK4 => ?_)
  refine c_reg ?_ -- region 3 code.go:43
  refine wl (ro_move rfl) ?_
  refine wl (ro_lenL rfl se_78) ?_
  refine wl (ro_arith (r := ((n.length : Nat) : Int) - 1) rfl rfl rfl (Go.IntWalk.i64_in _ (by omega))) ?_
  refine wl (ro_assign rfl) ?_
  refine wl_nil (x_then (hK4 _ _ ?_))
  clear hK4 K4
  refine c_block ?_
  -- loop@r4: live slots [0, 1, 4, 5]
  have h0 : PV _ B [] := ⟨48, CL, rfl, hcl, by rw [List.drop_eq_nil_of_le (by omega)], by show 0 < 2 ^ 24; decide, hB, hC⟩
  refine c_loopG (fun m a' w' => ∃ i C OL, i = m ∧ i ≤ n.length ∧ PV w' B C ∧ cmpF n i (ownL OL) ++ C = progT n ∧ C.length ≤ 2 * (n.length - i) ∧ Blk w'.heap B.o (rws onc OL) 3 ∧ OL.length = 24 ∧ (∀ j, ownL OL j ≤ 10) ∧ Blk w'.heap nb (rws ndc n) 143 ∧ Blk w'.heap b4 (vlc vZ) 104 ∧ Fram (eco B) w w' ∧ ∃ e, a' = Fr 90 (upds e [(0, ptr B.e), (1, sl nb n.length), (4, ptr b4), (5, icv ((i : Int) - 1))]) []) n.length ⟨n.length, [], OL, rfl, by omega, h0, by rw [List.append_nil]; exact hprog, by simp, hO, hol, h10, hN, h4, hF, kp _ ⟨rfl, rfl, rfl, rfl, trivial⟩⟩ ?_
  clear hF hB hC hO hN h4 h0 hprog h10 hol
  rintro m a' u4 ⟨i, C, OL, rfl, hi, h, hP, hCl, hO, hol, h10, hN, h4, hF, e, rfl⟩
  have hb4 : B.e < b4 ∧ B.c < b4 ∧ B.o < b4 ∧ nb < b4 := by omega
  refine c_seq (fun K5 hK5 => ?_)
  refine c_seq (fun K6 hK6 => ?_)
  refine c_reg ?_ -- region 4 code.go:43
  refine wl (ro_move rfl) ?_
  refine wl (ro_cmp (r := decide (1 ≤ i)) rfl rfl (congrArg some (decide_eq_decide.2 (by omega)))) ?_
  refine wl_nil (x_then (hK6 _ _ ?_))
  clear hK6 K6
  refine wc_cond rfl (fun hc23 => ?_) (fun hc23 => ?_)
  · try simp only [decide_eq_true_eq, decide_eq_false_iff_not, Bool.not_eq_true', Bool.not_eq_false', Bool.not_eq_eq_eq_not, Bool.not_true, Bool.not_false, beq_iff_eq, bne_iff_ne, ne_eq, beq_eq_false_iff_ne, bne_eq_false_iff_eq, gt_iff_lt, ge_iff_le, Int.not_lt, Int.not_le] at hc23
    obtain ⟨i, rfl⟩ : ∃ k, i = k + 1 := ⟨i - 1, by omega⟩
    obtain ⟨x, hx, hlc⟩ := loc_all hD (j := i) (by omega)
    have hk1 := hlc.1
    have hk9 := hlc.2.1
    have hci := cI_len n (ownL OL i) x
    refine c_skip (x_then (hK5 _ _ ?_))
    clear hK5 K5
    refine forget [(0, _), (1, _), (4, _), (5, _)] ⟨rfl, rfl, rfl, rfl, trivial⟩ (fun e => ?_)
    refine c_seq (fun K7 hK7 => ?_)
    refine c_block ?_
    refine c_seq (fun K8 hK8 => ?_)
    refine c_reg ?_ -- region 6 code.go:44
    refine wl (ro_move rfl) ?_
    refine wl (ro_move rfl) ?_
    refine wl (ro_indexAddr (et := 143) (k := 13) rfl rfl se_78 ((show ((i + 1 : Nat) : Int) - 1 = ((i : Nat) : Int) by omega)) ((by omega))) ?_
    refine wl (ro_loadAggB rfl ag_143 (hN) ((ndc_len _)) ((rw_agg ndc_len hx (by omega)))) ?_
    refine wl_new (ze_143) (fun b6 w5 hbb6 h6 F5 => ?_)
    have hbsb6 := Nat.le_trans hF.size hbb6
    have hneB.ob6 : B.o < b6 := Nat.lt_of_lt_of_le hO.lt hbb6
    have hnenbb6 : nb < b6 := Nat.lt_of_lt_of_le hN.lt hbb6
    have hneb4b6 : b4 < b6 := Nat.lt_of_lt_of_le h4.lt hbb6
    replace hF := hF.thenDrew.thenN F5
    replace hO := F5.blkN hO
    replace hN := F5.blkN hN
    replace h4 := F5.blkN h4
    replace h := h.far F5 (fun h ↦ h) (fun h ↦ h)
    refine wl_puta rfl rfl ((ndc_cells _)) sz_143 (rfl) h6 ((by simp)) ((show _ = ndc x from rfl)) (fun w6 h6 F6 => ?_)
    replace hF := hF.thenDrew.thenO F6 (by first | exact .inr (by omega) | exact .inl rfl | exact .inl (by assumption))
    replace hO := F6.blkO hO (by omega)
    replace hN := F6.blkO hN (by omega)
    replace h4 := F6.blkO h4 (by omega)
    replace h := h.far F6 (fun h ↦ absurd (show B.e = b6 from h) (by omega)) (fun h ↦ absurd (show B.c = b6 from h) (by omega))
    refine wl_nil (x_then (hK8 _ _ ?_))
    clear hK8 K8
    refine forget [(0, _), (1, _), (4, _), (5, _), (6, _)] ⟨rfl, rfl, rfl, rfl, rfl, trivial⟩ (fun e => ?_)
    refine c_seq (fun K9 hK9 => ?_)
    refine c_reg ?_ -- region 7 code.go:45
    refine wl (ro_fieldAddr (k := 0) rfl fo_143_0) ?_
    refine wl (ro_loadB rfl sc_3 (by assumption) rfl) ?_
    refine wl_nil (x_then (hK9 _ _ ?_))
    clear hK9 K9
    refine c_block ?_
    refine forget [(0, _), (1, _), (4, _), (5, _), (6, _), (31, _)] ⟨rfl, rfl, rfl, rfl, rfl, rfl, trivial⟩ (fun e => ?_)
    refine c_seq (fun K10 hK10 => ?_)
    refine c_reg ?_ -- region 8 code.go:46
    refine wl (ro_cmp rfl rfl rfl) ?_
    refine wl (ro_assign rfl) ?_
    refine wl_nil (x_then (hK10 _ _ ?_))
    clear hK10 K10
    refine wc_cond rfl (fun hc32 => ?_) (fun hc32 => ?_)
    · try simp only [decide_eq_true_eq, decide_eq_false_iff_not, Bool.not_eq_true', Bool.not_eq_false', Bool.not_eq_eq_eq_not, Bool.not_true, Bool.not_false, beq_iff_eq, bne_iff_ne, ne_eq, beq_eq_false_iff_ne, bne_eq_false_iff_eq, gt_iff_lt, ge_iff_le, Int.not_lt, Int.not_le] at hc32
      refine c_reg ?_ -- region 9 code.go:47
      refine wl (ro_move rfl) ?_
      refine wl (ro_fieldAddr (k := 4) rfl fo_143_4) ?_
      refine wl (ro_loadB rfl sc_3 (by assumption) rfl) ?_
      refine wl (ro_build rfl bld_104_0_1) ?_
      refine wl_call rfl en_183 (emitP (x := ⟨1, 0, vI x.n, 0⟩) ho' h (by omega) (by show 0 < 2 ^ 24; decide)) ?_
      rintro _ u5 ⟨h, G5⟩
      replace hF := hF.transG G5 (by intro k hk h; simp only [one, none', ec, eco] at h ⊢ <;> omega)
      replace hO := G5.blkF hO (by intro h; simp only [one, none', ec, eco] at h <;> omega)
      replace hN := G5.blkF hN (by intro h; simp only [one, none', ec, eco] at h <;> omega)
      replace h4 := G5.blkF h4 (by intro h; simp only [one, none', ec, eco] at h <;> omega)
      replace h6 := G5.blkF h6 (by intro h; simp only [one, none', ec, eco] at h <;> omega)
      have hcx : cI n (ownL OL i) x = [⟨1, 0, vI x.n, 0⟩] := by unfold cI; rw [if_pos hc32]
      refine wl_nil (x_blk (x_blk (x_then (hK7 _ _ ?_))))
      clear hK7 K7
      refine c_reg ?_ -- region 5 code.go:43
      refine wl (ro_move rfl) ?_
      refine wl (ro_arith (r := ((i : Nat) : Int) - 1) rfl rfl (congrArg some (by omega)) (Go.IntWalk.i64_in _ (by omega))) ?_
      refine wl (ro_assign rfl) ?_
      refine wl_nil (x_then ?_)
      have h' := PV.as hcx h
      exact ⟨i, by omega, i, _, OL, rfl, by omega, h', cmp_next hP hx (own_same (by omega) (by omega)), by rw [List.length_append]; omega, hO, hol, h10, hN, h4, hF, kp _ ⟨rfl, rfl, rfl, rfl, trivial⟩⟩
    · try simp only [decide_eq_true_eq, decide_eq_false_iff_not, Bool.not_eq_true', Bool.not_eq_false', Bool.not_eq_eq_eq_not, Bool.not_true, Bool.not_false, beq_iff_eq, bne_iff_ne, ne_eq, beq_eq_false_iff_ne, bne_eq_false_iff_eq, gt_iff_lt, ge_iff_le, Int.not_lt, Int.not_le] at hc32
      refine c_seq (fun K11 hK11 => ?_)
      refine c_reg ?_ -- region 10 code.go:48
      refine wl (ro_cmp rfl rfl rfl) ?_
      refine wl (ro_assign rfl) ?_
      refine wl_nil (x_then (hK11 _ _ ?_))
      clear hK11 K11
      refine wc_cond rfl (fun hc39 => ?_) (fun hc39 => ?_)
      · try simp only [decide_eq_true_eq, decide_eq_false_iff_not, Bool.not_eq_true', Bool.not_eq_false', Bool.not_eq_eq_eq_not, Bool.not_true, Bool.not_false, beq_iff_eq, bne_iff_ne, ne_eq, beq_eq_false_iff_ne, bne_eq_false_iff_eq, gt_iff_lt, ge_iff_le, Int.not_lt, Int.not_le] at hc39
        refine c_reg ?_ -- region 11 code.go:49
        refine wl (ro_move rfl) ?_
        refine wl (ro_fieldAddr (k := 4) rfl fo_143_4) ?_
        refine wl (ro_loadB rfl sc_3 (by assumption) rfl) ?_
        refine wl (ro_build rfl bld_104_0_1) ?_
        refine wl_call rfl en_183 (emitP (x := ⟨1, 0, ⟨3, x.n, []⟩, 0⟩) ho' h (by omega) (by show 0 < 2 ^ 24; decide)) ?_
        rintro _ u5 ⟨h, G5⟩
        replace hF := hF.transG G5 (by intro k hk h; simp only [one, none', ec, eco] at h ⊢ <;> omega)
        replace hO := G5.blkF hO (by intro h; simp only [one, none', ec, eco] at h <;> omega)
        replace hN := G5.blkF hN (by intro h; simp only [one, none', ec, eco] at h <;> omega)
        replace h4 := G5.blkF h4 (by intro h; simp only [one, none', ec, eco] at h <;> omega)
        replace h6 := G5.blkF h6 (by intro h; simp only [one, none', ec, eco] at h <;> omega)
        have hcx : cI n (ownL OL i) x = [⟨1, 0, ⟨3, x.n, []⟩, 0⟩] := by unfold cI; rw [if_neg hc32, if_pos hc39]
        refine wl_nil (x_blk (x_blk (x_then (hK7 _ _ ?_))))
        clear hK7 K7
        refine c_reg ?_ -- region 5 code.go:43
        refine wl (ro_move rfl) ?_
        refine wl (ro_arith (r := ((i : Nat) : Int) - 1) rfl rfl (congrArg some (by omega)) (Go.IntWalk.i64_in _ (by omega))) ?_
        refine wl (ro_assign rfl) ?_
        refine wl_nil (x_then ?_)
        first
          | (have h' := PV.as hcx h
             exact ⟨i, by omega, i, _, OL, rfl, by omega, h', cmp_next hP hx (own_same (by omega) (by omega)), by rw [List.length_append]; omega, hO, hol, h10, hN, h4, hF, kp _ ⟨rfl, rfl, rfl, rfl, trivial⟩⟩)
          | (have h' := PV.as hcx h
             refine ⟨i, by omega, i, _, OL.set (i - 1) fo, rfl, by omega, h', cmp_next hP hx ?_, by rw [List.length_append]; omega, hO, by rw [List.length_set]; exact hol, ?_, hN, h4, hF, kp _ ⟨rfl, rfl, rfl, rfl, trivial⟩⟩
             · intro j hj
               rw [ownL_set (by omega)]
               unfold ownS
               rw [if_pos hc69, show x.a.toNat = i - 1 by omega, show x.o.toNat = fo by omega]
             · intro j
               rw [ownL_set (by omega)]
               have := h10 j
               split <;> omega)
          | (refine ⟨i, by omega, i, _, _, rfl, by omega, h, cmp_next hP hx ?_, by rw [List.length_append]; omega, hO, by split <;> simp [hol], ?_, hN, h4, hF, kp _ ⟨rfl, rfl, rfl, rfl, trivial⟩⟩
             · intro j hj
               unfold ownS
               rw [if_neg (by omega), if_pos hc84]
               split
               · rw [ownL_set (by omega)]
               · rfl
             · intro j
               have h1 := h10 j
               have h2 := h10 i
               split
               · rw [ownL_set (by omega)]
                 split <;> omega
               · exact h1)
          | (have hcx : cI n (ownL OL i) x = [] := by unfold cI; rw [if_neg hc32, if_neg hc39, if_neg hc46, if_neg hc51, if_neg hc57, if_neg hc62, if_neg hc69, if_neg hc84]
             have h' := PV.as hcx h
             exact ⟨i, by omega, i, _, OL, rfl, by omega, h', cmp_next hP hx (own_same (by omega) (by omega)), by rw [List.length_append]; omega, hO, hol, h10, hN, h4, hF, kp _ ⟨rfl, rfl, rfl, rfl, trivial⟩⟩)
      · try simp only [decide_eq_true_eq, decide_eq_false_iff_not, Bool.not_eq_true', Bool.not_eq_false', Bool.not_eq_eq_eq_not, Bool.not_true, Bool.not_false, beq_iff_eq, bne_iff_ne, ne_eq, beq_eq_false_iff_ne, bne_eq_false_iff_eq, gt_iff_lt, ge_iff_le, Int.not_lt, Int.not_le] at hc39
        refine c_seq (fun K12 hK12 => ?_)
        refine c_reg ?_ -- region 12 code.go:50
        refine wl (ro_cmp rfl rfl rfl) ?_
        refine wl (ro_assign rfl) ?_
        refine wl_nil (x_then (hK12 _ _ ?_))
        clear hK12 K12
        refine wc_cond rfl (fun hc46 => ?_) (fun hc46 => ?_)
        · try simp only [decide_eq_true_eq, decide_eq_false_iff_not, Bool.not_eq_true', Bool.not_eq_false', Bool.not_eq_eq_eq_not, Bool.not_true, Bool.not_false, beq_iff_eq, bne_iff_ne, ne_eq, beq_eq_false_iff_ne, bne_eq_false_iff_eq, gt_iff_lt, ge_iff_le, Int.not_lt, Int.not_le] at hc46
          refine c_reg ?_ -- region 13 code.go:51
          refine wl (ro_move rfl) ?_
          refine wl (ro_build rfl bld_104_0_1) ?_
          refine wl_call rfl en_183 (emitP (x := ⟨1, 0, vE 2, 0⟩) ho' h (by omega) (by show 0 < 2 ^ 24; decide)) ?_
          rintro _ u5 ⟨h, G5⟩
          replace hF := hF.transG G5 (by intro k hk h; simp only [one, none', ec, eco] at h ⊢ <;> omega)
          replace hO := G5.blkF hO (by intro h; simp only [one, none', ec, eco] at h <;> omega)
          replace hN := G5.blkF hN (by intro h; simp only [one, none', ec, eco] at h <;> omega)
          replace h4 := G5.blkF h4 (by intro h; simp only [one, none', ec, eco] at h <;> omega)
          replace h6 := G5.blkF h6 (by intro h; simp only [one, none', ec, eco] at h <;> omega)
          have hcx : cI n (ownL OL i) x = [⟨1, 0, vE 2, 0⟩] := by unfold cI; rw [if_neg hc32, if_neg hc39, if_pos hc46]
          refine wl_nil (x_blk (x_blk (x_then (hK7 _ _ ?_))))
          clear hK7 K7
          refine c_reg ?_ -- region 5 code.go:43
          refine wl (ro_move rfl) ?_
          refine wl (ro_arith (r := ((i : Nat) : Int) - 1) rfl rfl (congrArg some (by omega)) (Go.IntWalk.i64_in _ (by omega))) ?_
          refine wl (ro_assign rfl) ?_
          refine wl_nil (x_then ?_)
          first
            | (have h' := PV.as hcx h
               exact ⟨i, by omega, i, _, OL, rfl, by omega, h', cmp_next hP hx (own_same (by omega) (by omega)), by rw [List.length_append]; omega, hO, hol, h10, hN, h4, hF, kp _ ⟨rfl, rfl, rfl, rfl, trivial⟩⟩)
            | (have h' := PV.as hcx h
               refine ⟨i, by omega, i, _, OL.set (i - 1) fo, rfl, by omega, h', cmp_next hP hx ?_, by rw [List.length_append]; omega, hO, by rw [List.length_set]; exact hol, ?_, hN, h4, hF, kp _ ⟨rfl, rfl, rfl, rfl, trivial⟩⟩
               · intro j hj
                 rw [ownL_set (by omega)]
                 unfold ownS
                 rw [if_pos hc69, show x.a.toNat = i - 1 by omega, show x.o.toNat = fo by omega]
               · intro j
                 rw [ownL_set (by omega)]
                 have := h10 j
                 split <;> omega)
            | (refine ⟨i, by omega, i, _, _, rfl, by omega, h, cmp_next hP hx ?_, by rw [List.length_append]; omega, hO, by split <;> simp [hol], ?_, hN, h4, hF, kp _ ⟨rfl, rfl, rfl, rfl, trivial⟩⟩
               · intro j hj
                 unfold ownS
                 rw [if_neg (by omega), if_pos hc84]
                 split
                 · rw [ownL_set (by omega)]
                 · rfl
               · intro j
                 have h1 := h10 j
                 have h2 := h10 i
                 split
                 · rw [ownL_set (by omega)]
                   split <;> omega
                 · exact h1)
            | (have hcx : cI n (ownL OL i) x = [] := by unfold cI; rw [if_neg hc32, if_neg hc39, if_neg hc46, if_neg hc51, if_neg hc57, if_neg hc62, if_neg hc69, if_neg hc84]
               have h' := PV.as hcx h
               exact ⟨i, by omega, i, _, OL, rfl, by omega, h', cmp_next hP hx (own_same (by omega) (by omega)), by rw [List.length_append]; omega, hO, hol, h10, hN, h4, hF, kp _ ⟨rfl, rfl, rfl, rfl, trivial⟩⟩)
        · try simp only [decide_eq_true_eq, decide_eq_false_iff_not, Bool.not_eq_true', Bool.not_eq_false', Bool.not_eq_eq_eq_not, Bool.not_true, Bool.not_false, beq_iff_eq, bne_iff_ne, ne_eq, beq_eq_false_iff_ne, bne_eq_false_iff_eq, gt_iff_lt, ge_iff_le, Int.not_lt, Int.not_le] at hc46
          refine c_seq (fun K13 hK13 => ?_)
          refine c_reg ?_ -- region 14 code.go:52
          refine wl (ro_cmp rfl rfl rfl) ?_
          refine wl (ro_assign rfl) ?_
          refine wl_nil (x_then (hK13 _ _ ?_))
          clear hK13 K13
          refine wc_cond rfl (fun hc51 => ?_) (fun hc51 => ?_)
          · try simp only [decide_eq_true_eq, decide_eq_false_iff_not, Bool.not_eq_true', Bool.not_eq_false', Bool.not_eq_eq_eq_not, Bool.not_true, Bool.not_false, beq_iff_eq, bne_iff_ne, ne_eq, beq_eq_false_iff_ne, bne_eq_false_iff_eq, gt_iff_lt, ge_iff_le, Int.not_lt, Int.not_le] at hc51
            refine c_reg ?_ -- region 15 code.go:53
            refine wl (ro_move rfl) ?_
            refine wl (ro_fieldAddr (k := 5) rfl fo_143_5) ?_
            refine wl (ro_loadAggB rfl ag_141 (by assumption) rfl rfl) ?_
            refine wl_call rfl en_184 (refer184 (r := x.p) ho' h (by omega)) ?_
            rintro _ u5 ⟨h, G5⟩
            replace hF := hF.transG G5 (by intro k hk h; simp only [one, none', ec, eco] at h ⊢ <;> omega)
            replace hO := G5.blkF hO (by intro h; simp only [one, none', ec, eco] at h <;> omega)
            replace hN := G5.blkF hN (by intro h; simp only [one, none', ec, eco] at h <;> omega)
            replace h4 := G5.blkF h4 (by intro h; simp only [one, none', ec, eco] at h <;> omega)
            replace h6 := G5.blkF h6 (by intro h; simp only [one, none', ec, eco] at h <;> omega)
            have hcx : cI n (ownL OL i) x = [if gridR x.p = true then ⟨2, cellR x.p, vZ, 2 ^ cellR x.p⟩ else ⟨1, 0, vE 2, 0⟩] := by unfold cI; rw [if_neg hc32, if_neg hc39, if_neg hc46, if_pos hc51]; split <;> rfl
            refine wl_nil (x_blk (x_blk (x_then (hK7 _ _ ?_))))
            clear hK7 K7
            refine c_reg ?_ -- region 5 code.go:43
            refine wl (ro_move rfl) ?_
            refine wl (ro_arith (r := ((i : Nat) : Int) - 1) rfl rfl (congrArg some (by omega)) (Go.IntWalk.i64_in _ (by omega))) ?_
            refine wl (ro_assign rfl) ?_
            refine wl_nil (x_then ?_)
            first
              | (have h' := PV.as hcx h
                 exact ⟨i, by omega, i, _, OL, rfl, by omega, h', cmp_next hP hx (own_same (by omega) (by omega)), by rw [List.length_append]; omega, hO, hol, h10, hN, h4, hF, kp _ ⟨rfl, rfl, rfl, rfl, trivial⟩⟩)
              | (have h' := PV.as hcx h
                 refine ⟨i, by omega, i, _, OL.set (i - 1) fo, rfl, by omega, h', cmp_next hP hx ?_, by rw [List.length_append]; omega, hO, by rw [List.length_set]; exact hol, ?_, hN, h4, hF, kp _ ⟨rfl, rfl, rfl, rfl, trivial⟩⟩
                 · intro j hj
                   rw [ownL_set (by omega)]
                   unfold ownS
                   rw [if_pos hc69, show x.a.toNat = i - 1 by omega, show x.o.toNat = fo by omega]
                 · intro j
                   rw [ownL_set (by omega)]
                   have := h10 j
                   split <;> omega)
              | (refine ⟨i, by omega, i, _, _, rfl, by omega, h, cmp_next hP hx ?_, by rw [List.length_append]; omega, hO, by split <;> simp [hol], ?_, hN, h4, hF, kp _ ⟨rfl, rfl, rfl, rfl, trivial⟩⟩
                 · intro j hj
                   unfold ownS
                   rw [if_neg (by omega), if_pos hc84]
                   split
                   · rw [ownL_set (by omega)]
                   · rfl
                 · intro j
                   have h1 := h10 j
                   have h2 := h10 i
                   split
                   · rw [ownL_set (by omega)]
                     split <;> omega
                   · exact h1)
              | (have hcx : cI n (ownL OL i) x = [] := by unfold cI; rw [if_neg hc32, if_neg hc39, if_neg hc46, if_neg hc51, if_neg hc57, if_neg hc62, if_neg hc69, if_neg hc84]
                 have h' := PV.as hcx h
                 exact ⟨i, by omega, i, _, OL, rfl, by omega, h', cmp_next hP hx (own_same (by omega) (by omega)), by rw [List.length_append]; omega, hO, hol, h10, hN, h4, hF, kp _ ⟨rfl, rfl, rfl, rfl, trivial⟩⟩)
          · try simp only [decide_eq_true_eq, decide_eq_false_iff_not, Bool.not_eq_true', Bool.not_eq_false', Bool.not_eq_eq_eq_not, Bool.not_true, Bool.not_false, beq_iff_eq, bne_iff_ne, ne_eq, beq_eq_false_iff_ne, bne_eq_false_iff_eq, gt_iff_lt, ge_iff_le, Int.not_lt, Int.not_le] at hc51
            refine c_seq (fun K14 hK14 => ?_)
            refine c_reg ?_ -- region 16 code.go:54
            refine wl (ro_cmp rfl rfl rfl) ?_
            refine wl (ro_assign rfl) ?_
            refine wl_nil (x_then (hK14 _ _ ?_))
            clear hK14 K14
            refine wc_cond rfl (fun hc57 => ?_) (fun hc57 => ?_)
            · try simp only [decide_eq_true_eq, decide_eq_false_iff_not, Bool.not_eq_true', Bool.not_eq_false', Bool.not_eq_eq_eq_not, Bool.not_true, Bool.not_false, beq_iff_eq, bne_iff_ne, ne_eq, beq_eq_false_iff_ne, bne_eq_false_iff_eq, gt_iff_lt, ge_iff_le, Int.not_lt, Int.not_le] at hc57
              refine c_reg ?_ -- region 17 code.go:55
              refine wl (ro_move rfl) ?_
              refine wl (ro_loadAggB rfl ag_104 (by assumption) rfl rfl) ?_
              refine wl_call rfl en_183 (emitP (x := ⟨3, 0, vZ, 0⟩) ho' h (by omega) (by show 0 < 2 ^ 24; decide)) ?_
              rintro _ u5 ⟨h, G5⟩
              replace hF := hF.transG G5 (by intro k hk h; simp only [one, none', ec, eco] at h ⊢ <;> omega)
              replace hO := G5.blkF hO (by intro h; simp only [one, none', ec, eco] at h <;> omega)
              replace hN := G5.blkF hN (by intro h; simp only [one, none', ec, eco] at h <;> omega)
              replace h4 := G5.blkF h4 (by intro h; simp only [one, none', ec, eco] at h <;> omega)
              replace h6 := G5.blkF h6 (by intro h; simp only [one, none', ec, eco] at h <;> omega)
              have hcx : cI n (ownL OL i) x = [⟨3, 0, vZ, 0⟩] := by unfold cI; rw [if_neg hc32, if_neg hc39, if_neg hc46, if_neg hc51, if_pos hc57]
              refine wl_nil (x_blk (x_blk (x_then (hK7 _ _ ?_))))
              clear hK7 K7
              refine c_reg ?_ -- region 5 code.go:43
              refine wl (ro_move rfl) ?_
              refine wl (ro_arith (r := ((i : Nat) : Int) - 1) rfl rfl (congrArg some (by omega)) (Go.IntWalk.i64_in _ (by omega))) ?_
              refine wl (ro_assign rfl) ?_
              refine wl_nil (x_then ?_)
              first
                | (have h' := PV.as hcx h
                   exact ⟨i, by omega, i, _, OL, rfl, by omega, h', cmp_next hP hx (own_same (by omega) (by omega)), by rw [List.length_append]; omega, hO, hol, h10, hN, h4, hF, kp _ ⟨rfl, rfl, rfl, rfl, trivial⟩⟩)
                | (have h' := PV.as hcx h
                   refine ⟨i, by omega, i, _, OL.set (i - 1) fo, rfl, by omega, h', cmp_next hP hx ?_, by rw [List.length_append]; omega, hO, by rw [List.length_set]; exact hol, ?_, hN, h4, hF, kp _ ⟨rfl, rfl, rfl, rfl, trivial⟩⟩
                   · intro j hj
                     rw [ownL_set (by omega)]
                     unfold ownS
                     rw [if_pos hc69, show x.a.toNat = i - 1 by omega, show x.o.toNat = fo by omega]
                   · intro j
                     rw [ownL_set (by omega)]
                     have := h10 j
                     split <;> omega)
                | (refine ⟨i, by omega, i, _, _, rfl, by omega, h, cmp_next hP hx ?_, by rw [List.length_append]; omega, hO, by split <;> simp [hol], ?_, hN, h4, hF, kp _ ⟨rfl, rfl, rfl, rfl, trivial⟩⟩
                   · intro j hj
                     unfold ownS
                     rw [if_neg (by omega), if_pos hc84]
                     split
                     · rw [ownL_set (by omega)]
                     · rfl
                   · intro j
                     have h1 := h10 j
                     have h2 := h10 i
                     split
                     · rw [ownL_set (by omega)]
                       split <;> omega
                     · exact h1)
                | (have hcx : cI n (ownL OL i) x = [] := by unfold cI; rw [if_neg hc32, if_neg hc39, if_neg hc46, if_neg hc51, if_neg hc57, if_neg hc62, if_neg hc69, if_neg hc84]
                   have h' := PV.as hcx h
                   exact ⟨i, by omega, i, _, OL, rfl, by omega, h', cmp_next hP hx (own_same (by omega) (by omega)), by rw [List.length_append]; omega, hO, hol, h10, hN, h4, hF, kp _ ⟨rfl, rfl, rfl, rfl, trivial⟩⟩)
            · try simp only [decide_eq_true_eq, decide_eq_false_iff_not, Bool.not_eq_true', Bool.not_eq_false', Bool.not_eq_eq_eq_not, Bool.not_true, Bool.not_false, beq_iff_eq, bne_iff_ne, ne_eq, beq_eq_false_iff_ne, bne_eq_false_iff_eq, gt_iff_lt, ge_iff_le, Int.not_lt, Int.not_le] at hc57
              refine c_seq (fun K15 hK15 => ?_)
              refine c_reg ?_ -- region 18 code.go:56
              refine wl (ro_cmp rfl rfl rfl) ?_
              refine wl (ro_assign rfl) ?_
              refine wl_nil (x_then (hK15 _ _ ?_))
              clear hK15 K15
              refine wc_cond rfl (fun hc62 => ?_) (fun hc62 => ?_)
              · try simp only [decide_eq_true_eq, decide_eq_false_iff_not, Bool.not_eq_true', Bool.not_eq_false', Bool.not_eq_eq_eq_not, Bool.not_true, Bool.not_false, beq_iff_eq, bne_iff_ne, ne_eq, beq_eq_false_iff_ne, bne_eq_false_iff_eq, gt_iff_lt, ge_iff_le, Int.not_lt, Int.not_le] at hc62
                obtain ⟨o, hxo, ho1, ho2, -⟩ := hlc.2.2.2.2.2.1 hc62
                refine c_reg ?_ -- region 19 code.go:57
                refine wl (ro_move rfl) ?_
                refine wl (ro_fieldAddr (k := 1) rfl fo_143_1) ?_
                refine wl (ro_loadB rfl sc_3 (by assumption) rfl) ?_
                refine wl (ro_loadAggB rfl ag_104 (by assumption) rfl rfl) ?_
                refine wl_call rfl en_183 (emitI (x := ⟨4, o, vZ, 0⟩) hxo ho' h (by omega) (by show 0 < 2 ^ 24; decide)) ?_
                rintro _ u5 ⟨h, G5⟩
                replace hF := hF.transG G5 (by intro k hk h; simp only [one, none', ec, eco] at h ⊢ <;> omega)
                replace hO := G5.blkF hO (by intro h; simp only [one, none', ec, eco] at h <;> omega)
                replace hN := G5.blkF hN (by intro h; simp only [one, none', ec, eco] at h <;> omega)
                replace h4 := G5.blkF h4 (by intro h; simp only [one, none', ec, eco] at h <;> omega)
                replace h6 := G5.blkF h6 (by intro h; simp only [one, none', ec, eco] at h <;> omega)
                have hcx : cI n (ownL OL i) x = [⟨4, o, vZ, 0⟩] := by unfold cI; rw [if_neg hc32, if_neg hc39, if_neg hc46, if_neg hc51, if_neg hc57, if_pos hc62, show x.o.toNat = o by omega]
                refine wl_nil (x_blk (x_blk (x_then (hK7 _ _ ?_))))
                clear hK7 K7
                refine c_reg ?_ -- region 5 code.go:43
                refine wl (ro_move rfl) ?_
                refine wl (ro_arith (r := ((i : Nat) : Int) - 1) rfl rfl (congrArg some (by omega)) (Go.IntWalk.i64_in _ (by omega))) ?_
                refine wl (ro_assign rfl) ?_
                refine wl_nil (x_then ?_)
                first
                  | (have h' := PV.as hcx h
                     exact ⟨i, by omega, i, _, OL, rfl, by omega, h', cmp_next hP hx (own_same (by omega) (by omega)), by rw [List.length_append]; omega, hO, hol, h10, hN, h4, hF, kp _ ⟨rfl, rfl, rfl, rfl, trivial⟩⟩)
                  | (have h' := PV.as hcx h
                     refine ⟨i, by omega, i, _, OL.set (i - 1) fo, rfl, by omega, h', cmp_next hP hx ?_, by rw [List.length_append]; omega, hO, by rw [List.length_set]; exact hol, ?_, hN, h4, hF, kp _ ⟨rfl, rfl, rfl, rfl, trivial⟩⟩
                     · intro j hj
                       rw [ownL_set (by omega)]
                       unfold ownS
                       rw [if_pos hc69, show x.a.toNat = i - 1 by omega, show x.o.toNat = fo by omega]
                     · intro j
                       rw [ownL_set (by omega)]
                       have := h10 j
                       split <;> omega)
                  | (refine ⟨i, by omega, i, _, _, rfl, by omega, h, cmp_next hP hx ?_, by rw [List.length_append]; omega, hO, by split <;> simp [hol], ?_, hN, h4, hF, kp _ ⟨rfl, rfl, rfl, rfl, trivial⟩⟩
                     · intro j hj
                       unfold ownS
                       rw [if_neg (by omega), if_pos hc84]
                       split
                       · rw [ownL_set (by omega)]
                       · rfl
                     · intro j
                       have h1 := h10 j
                       have h2 := h10 i
                       split
                       · rw [ownL_set (by omega)]
                         split <;> omega
                       · exact h1)
                  | (have hcx : cI n (ownL OL i) x = [] := by unfold cI; rw [if_neg hc32, if_neg hc39, if_neg hc46, if_neg hc51, if_neg hc57, if_neg hc62, if_neg hc69, if_neg hc84]
                     have h' := PV.as hcx h
                     exact ⟨i, by omega, i, _, OL, rfl, by omega, h', cmp_next hP hx (own_same (by omega) (by omega)), by rw [List.length_append]; omega, hO, hol, h10, hN, h4, hF, kp _ ⟨rfl, rfl, rfl, rfl, trivial⟩⟩)
              · try simp only [decide_eq_true_eq, decide_eq_false_iff_not, Bool.not_eq_true', Bool.not_eq_false', Bool.not_eq_eq_eq_not, Bool.not_true, Bool.not_false, beq_iff_eq, bne_iff_ne, ne_eq, beq_eq_false_iff_ne, bne_eq_false_iff_eq, gt_iff_lt, ge_iff_le, Int.not_lt, Int.not_le] at hc62
                refine c_seq (fun K16 hK16 => ?_)
                refine c_reg ?_ -- region 20 code.go:58
                refine wl (ro_cmp rfl rfl rfl) ?_
                refine wl (ro_assign rfl) ?_
                refine wl_nil (x_then (hK16 _ _ ?_))
                clear hK16 K16
                refine wc_cond rfl (fun hc69 => ?_) (fun hc69 => ?_)
                · try simp only [decide_eq_true_eq, decide_eq_false_iff_not, Bool.not_eq_true', Bool.not_eq_false', Bool.not_eq_eq_eq_not, Bool.not_true, Bool.not_false, beq_iff_eq, bne_iff_ne, ne_eq, beq_eq_false_iff_ne, bne_eq_false_iff_eq, gt_iff_lt, ge_iff_le, Int.not_lt, Int.not_le] at hc69
                  refine c_seq (fun K17 hK17 => ?_)
                  obtain ⟨hi1, hxa, fo, hxo, ho1, ho2⟩ := hlc.2.2.2.2.2.2.1 hc69
                  obtain ⟨st', CL', q1, q2, q3, q4, hB, hC⟩ := h
                  refine c_piL 9 [(0, false), (1, false), (2, false), (3, false), (4, false), (5, false), (6, false), (7, false), (8, false)] (SameH _) mixed (by kernel_rfl) rfl (by kernel_rfl) (po_then (po_blk (po_blk (po_then (po_then (po_blk (po_bp))))))) (sameH_now _ _) ?_ -- region 21 code.go:59
                  refine ql_ro rfl (fun w hS => ro_move rfl) ?_
                  refine ql_ro rfl (fun w hS => ro_nilCheck rfl) ?_
                  refine ql_ro rfl (fun w hS => ro_fieldAddr (k := 4) rfl fo_89_4) ?_
                  refine ql_ro rfl (fun w hS => ro_loadB rfl sc_79 (Blk.of_heap (by assumption) hS) rfl) ?_
                  refine ql_ro rfl (fun w hS => ro_fieldAddr (k := 2) rfl fo_143_2) ?_
                  refine ql_ro rfl (fun w hS => ro_loadB rfl sc_3 (Blk.of_heap (by assumption) hS) rfl) ?_
                  refine ql_ro rfl (fun w hS => ro_fieldAddr (k := 1) rfl fo_143_1) ?_
                  refine ql_ro rfl (fun w hS => ro_loadB rfl sc_3 (Blk.of_heap (by assumption) hS) rfl) ?_
                  refine ql_ro rfl (fun w hS => ro_indexAddr (et := 3) (k := 1) rfl rfl se_79 ((show x.a = ((i - 1 : Nat) : Int) by omega)) ((by omega))) ?_
                  refine ql_put rfl rfl rfl rfl sz_3 hO ((rw_fit onc_len (i := i - 1) (j := 0) (m := 1) (by omega) (by omega) (by omega))) ((rw_put onc_len (i := i - 1) (j := 0) (x := ownL OL (i - 1)) (x' := fo) (ownL_get (by omega)) (by omega) (by omega) (by show [icv x.o] = [icv (fo : Int)]; rw [hxo]))) (fun w7 hO F7 => ?_)
                  replace hF := hF.thenDrew.thenO F7 (by first | exact .inr (by omega) | exact .inl rfl | exact .inl (by assumption))
                  replace hN := F7.blkO hN (by omega)
                  replace h4 := F7.blkO h4 (by omega)
                  replace h6 := F7.blkO h6 (by omega)
                  replace hB := F7.blkO hB (by omega)
                  replace hC := F7.blkO hC (by omega)
                  refine x_then (hK17 _ _ ?_)
                  clear hK17 K17
                  have h : PV _ B C := ⟨st', CL', q1, q2, q3, q4, hB, hC⟩
                  refine c_reg ?_ -- region 22 code.go:60
                  refine wl (ro_move rfl) ?_
                  refine wl (ro_fieldAddr (k := 1) rfl fo_143_1) ?_
                  refine wl (ro_loadB rfl sc_3 (by assumption) rfl) ?_
                  refine wl_call rfl en_185 (callI (f := fo) hxo ho' h (by omega)) ?_
                  rintro _ u5 ⟨h, G5⟩
                  replace hF := hF.transG G5 (by intro k hk h; simp only [one, none', ec, eco] at h ⊢ <;> omega)
                  replace hO := G5.blkF hO (by intro h; simp only [one, none', ec, eco] at h <;> omega)
                  replace hN := G5.blkF hN (by intro h; simp only [one, none', ec, eco] at h <;> omega)
                  replace h4 := G5.blkF h4 (by intro h; simp only [one, none', ec, eco] at h <;> omega)
                  replace h6 := G5.blkF h6 (by intro h; simp only [one, none', ec, eco] at h <;> omega)
                  have hcx : cI n (ownL OL i) x = [⟨if x.o = 5 then 5 else if tallF fo = true then 10 else 3, fo, vZ, 0⟩] := by unfold cI; rw [if_neg hc32, if_neg hc39, if_neg hc46, if_neg hc51, if_neg hc57, if_neg hc62, if_pos hc69, show x.o.toNat = fo by omega]
                  refine wl_nil (x_blk (x_blk (x_then (hK7 _ _ ?_))))
                  clear hK7 K7
                  refine c_reg ?_ -- region 5 code.go:43
                  refine wl (ro_move rfl) ?_
                  refine wl (ro_arith (r := ((i : Nat) : Int) - 1) rfl rfl (congrArg some (by omega)) (Go.IntWalk.i64_in _ (by omega))) ?_
                  refine wl (ro_assign rfl) ?_
                  refine wl_nil (x_then ?_)
                  first
                    | (have h' := PV.as hcx h
                       exact ⟨i, by omega, i, _, OL, rfl, by omega, h', cmp_next hP hx (own_same (by omega) (by omega)), by rw [List.length_append]; omega, hO, hol, h10, hN, h4, hF, kp _ ⟨rfl, rfl, rfl, rfl, trivial⟩⟩)
                    | (have h' := PV.as hcx h
                       refine ⟨i, by omega, i, _, OL.set (i - 1) fo, rfl, by omega, h', cmp_next hP hx ?_, by rw [List.length_append]; omega, hO, by rw [List.length_set]; exact hol, ?_, hN, h4, hF, kp _ ⟨rfl, rfl, rfl, rfl, trivial⟩⟩
                       · intro j hj
                         rw [ownL_set (by omega)]
                         unfold ownS
                         rw [if_pos hc69, show x.a.toNat = i - 1 by omega, show x.o.toNat = fo by omega]
                       · intro j
                         rw [ownL_set (by omega)]
                         have := h10 j
                         split <;> omega)
                    | (refine ⟨i, by omega, i, _, _, rfl, by omega, h, cmp_next hP hx ?_, by rw [List.length_append]; omega, hO, by split <;> simp [hol], ?_, hN, h4, hF, kp _ ⟨rfl, rfl, rfl, rfl, trivial⟩⟩
                       · intro j hj
                         unfold ownS
                         rw [if_neg (by omega), if_pos hc84]
                         split
                         · rw [ownL_set (by omega)]
                         · rfl
                       · intro j
                         have h1 := h10 j
                         have h2 := h10 i
                         split
                         · rw [ownL_set (by omega)]
                           split <;> omega
                         · exact h1)
                    | (have hcx : cI n (ownL OL i) x = [] := by unfold cI; rw [if_neg hc32, if_neg hc39, if_neg hc46, if_neg hc51, if_neg hc57, if_neg hc62, if_neg hc69, if_neg hc84]
                       have h' := PV.as hcx h
                       exact ⟨i, by omega, i, _, OL, rfl, by omega, h', cmp_next hP hx (own_same (by omega) (by omega)), by rw [List.length_append]; omega, hO, hol, h10, hN, h4, hF, kp _ ⟨rfl, rfl, rfl, rfl, trivial⟩⟩)
                · try simp only [decide_eq_true_eq, decide_eq_false_iff_not, Bool.not_eq_true', Bool.not_eq_false', Bool.not_eq_eq_eq_not, Bool.not_true, Bool.not_false, beq_iff_eq, bne_iff_ne, ne_eq, beq_eq_false_iff_ne, bne_eq_false_iff_eq, gt_iff_lt, ge_iff_le, Int.not_lt, Int.not_le] at hc69
                  refine c_seq (fun K18 hK18 => ?_)
                  refine c_reg ?_ -- region 23 code.go:61
                  refine wl (ro_cmp rfl rfl rfl) ?_
                  refine wl (ro_assign rfl) ?_
                  refine wl_nil (x_then (hK18 _ _ ?_))
                  clear hK18 K18
                  refine wc_cond rfl (fun hc84 => ?_) (fun hc84 => ?_)
                  · try simp only [decide_eq_true_eq, decide_eq_false_iff_not, Bool.not_eq_true', Bool.not_eq_false', Bool.not_eq_eq_eq_not, Bool.not_true, Bool.not_false, beq_iff_eq, bne_iff_ne, ne_eq, beq_eq_false_iff_ne, bne_eq_false_iff_eq, gt_iff_lt, ge_iff_le, Int.not_lt, Int.not_le] at hc84
                    obtain ⟨hi1, hxa, hb1, hb2⟩ := hlc.2.2.2.2.2.2.2 hc84
                    refine c_reg ?_ -- region 24 code.go:62
                    refine wl (ro_move rfl) ?_
                    refine wl (ro_move rfl) ?_
                    refine wl (ro_move rfl) ?_
                    refine wl_call rfl en_186 (linkI (i := i) (show ((i + 1 : Nat) : Int) - 1 = ((i : Nat) : Int) by omega) ho' hnb h hO hN (by omega) hol hx hn24 hc84 (by omega) (by omega) (h10 i)) ?_
                    rintro _ u5 ⟨h, hO, hN, G5⟩
                    replace hF := hF.transG G5 (by intro k hk h; simp only [one, none', ec, eco] at h ⊢ <;> omega)
                    replace h4 := G5.blkF h4 (by intro h; simp only [one, none', ec, eco] at h <;> omega)
                    replace h6 := G5.blkF h6 (by intro h; simp only [one, none', ec, eco] at h <;> omega)
                    refine wl_nil (x_blk (x_blk (x_then (hK7 _ _ ?_))))
                    clear hK7 K7
                    refine c_reg ?_ -- region 5 code.go:43
                    refine wl (ro_move rfl) ?_
                    refine wl (ro_arith (r := ((i : Nat) : Int) - 1) rfl rfl (congrArg some (by omega)) (Go.IntWalk.i64_in _ (by omega))) ?_
                    refine wl (ro_assign rfl) ?_
                    refine wl_nil (x_then ?_)
                    refine ⟨i, by omega, i, _, _, rfl, by omega, h, cmp_next hP hx ?_, by rw [List.length_append]; omega, hO, by split <;> simp [hol], ?_, hN, h4, hF, kp _ ⟨rfl, rfl, rfl, rfl, trivial⟩⟩
                    · intro j hj
                      unfold ownS
                      rw [if_neg (show ¬ x.k = 8 by omega), if_pos hc84]
                      by_cases hb0 : 0 ≤ x.b
                      · rw [if_pos hb0, if_pos hb0, ownL_set (OL := OL) (i := x.b.toNat) (by omega)]
                      · rw [if_neg hb0, if_neg hb0]
                    · intro j
                      have h1 := h10 j
                      have h2 := h10 i
                      by_cases hb0 : 0 ≤ x.b
                      · rw [if_pos hb0, ownL_set (OL := OL) (i := x.b.toNat) (by omega)]
                        split <;> omega
                      · rw [if_neg hb0]
                        exact h1
                  · try simp only [decide_eq_true_eq, decide_eq_false_iff_not, Bool.not_eq_true', Bool.not_eq_false', Bool.not_eq_eq_eq_not, Bool.not_true, Bool.not_false, beq_iff_eq, bne_iff_ne, ne_eq, beq_eq_false_iff_ne, bne_eq_false_iff_eq, gt_iff_lt, ge_iff_le, Int.not_lt, Int.not_le] at hc84
                    refine c_skip (x_blk (x_blk (x_then (hK7 _ _ ?_))))
                    clear hK7 K7
                    refine c_reg ?_ -- region 5 code.go:43
                    refine wl (ro_move rfl) ?_
                    refine wl (ro_arith (r := ((i : Nat) : Int) - 1) rfl rfl (congrArg some (by omega)) (Go.IntWalk.i64_in _ (by omega))) ?_
                    refine wl (ro_assign rfl) ?_
                    refine wl_nil (x_then ?_)
                    first
                      | (have h' := PV.as hcx h
                         exact ⟨i, by omega, i, _, OL, rfl, by omega, h', cmp_next hP hx (own_same (by omega) (by omega)), by rw [List.length_append]; omega, hO, hol, h10, hN, h4, hF, kp _ ⟨rfl, rfl, rfl, rfl, trivial⟩⟩)
                      | (have h' := PV.as hcx h
                         refine ⟨i, by omega, i, _, OL.set (i - 1) fo, rfl, by omega, h', cmp_next hP hx ?_, by rw [List.length_append]; omega, hO, by rw [List.length_set]; exact hol, ?_, hN, h4, hF, kp _ ⟨rfl, rfl, rfl, rfl, trivial⟩⟩
                         · intro j hj
                           rw [ownL_set (by omega)]
                           unfold ownS
                           rw [if_pos hc69, show x.a.toNat = i - 1 by omega, show x.o.toNat = fo by omega]
                         · intro j
                           rw [ownL_set (by omega)]
                           have := h10 j
                           split <;> omega)
                      | (refine ⟨i, by omega, i, _, _, rfl, by omega, h, cmp_next hP hx ?_, by rw [List.length_append]; omega, hO, by split <;> simp [hol], ?_, hN, h4, hF, kp _ ⟨rfl, rfl, rfl, rfl, trivial⟩⟩
                         · intro j hj
                           unfold ownS
                           rw [if_neg (by omega), if_pos hc84]
                           split
                           · rw [ownL_set (by omega)]
                           · rfl
                         · intro j
                           have h1 := h10 j
                           have h2 := h10 i
                           split
                           · rw [ownL_set (by omega)]
                             split <;> omega
                           · exact h1)
                      | (have hcx : cI n (ownL OL i) x = [] := by unfold cI; rw [if_neg hc32, if_neg hc39, if_neg hc46, if_neg hc51, if_neg hc57, if_neg hc62, if_neg hc69, if_neg hc84]
                         have h' := PV.as hcx h
                         exact ⟨i, by omega, i, _, OL, rfl, by omega, h', cmp_next hP hx (own_same (by omega) (by omega)), by rw [List.length_append]; omega, hO, hol, h10, hN, h4, hF, kp _ ⟨rfl, rfl, rfl, rfl, trivial⟩⟩)
  · try simp only [decide_eq_true_eq, decide_eq_false_iff_not, Bool.not_eq_true', Bool.not_eq_false', Bool.not_eq_eq_eq_not, Bool.not_true, Bool.not_false, beq_iff_eq, bne_iff_ne, ne_eq, beq_eq_false_iff_ne, bne_eq_false_iff_eq, gt_iff_lt, ge_iff_le, Int.not_lt, Int.not_le] at hc23
    refine c_exit (x_thenX (x_thenX (x_blkX ?_)))
    refine bp_end Tryz.results140 rfl ?_
    have hi0 : i = 0 := by omega
    subst hi0
    have hP' : C = progT n := hP
    rw [← hP']
    exact ⟨h, ⟨OL, hO, hol, h10⟩, hF⟩

end Go.Proofs.Qxb6500570aGreat
