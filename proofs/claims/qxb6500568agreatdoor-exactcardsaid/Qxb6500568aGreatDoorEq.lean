import Derived.Test.Qxb6500568aGreatDoorEp
/- The real parser: function literals. -/
namespace Go.Proofs.Qxb6500568aGreatDoor
open Ieee
set_option linter.unusedVariables false
set_option linter.unusedSimpArgs false

theorem ElM.nm {w : World} {ow : Nat → Nat} : ∀ {l : List Str} {vs : List Value}, ElM w ow 0 (l.map Ex.name) vs → nmM w ow l vs
  | [], _, h => h
  | s :: l, vs, ⟨v, r, h1, h2, h3⟩ => by
    obtain ⟨b, p, e, hB⟩ := TrM_name.1 h2
    injection e with e
    subst e
    exact ⟨b, p, r, h1, hB, h3.nm⟩
theorem nmM.farG {w w' : World} {ow : Nat → Nat} {G : Nat → Prop} (f : Fram G w w') (hn : ∀ b, ow b = 63 → b < w.heap.size → ¬ G b) : ∀ {l : List Str} {vs : List Value}, nmM w ow l vs → nmM w' ow l vs
  | [], _, h => h
  | _ :: _, _, ⟨b, p, r, h1, h2, h3⟩ => ⟨b, p, r, h1, h2.far2 f hn (fun _ _ h => h), nmM.farG f hn h3⟩
theorem nmM.thru {w w' : World} {ow : Nat → Nat} {pb tb cap : Nat} {L : List Tok} {l : List Str} {vs : List Value} (h : nmM w ow l vs) (hc : PCx w ow pb tb cap L) (f : Fram (one pb) w w') : nmM w' ow l vs :=
  nmM.farG f (fun b hb _ e => by have e : b = pb := e; rw [e, hc.pt] at hb; omega) h
theorem nmM.thruN {w w' : World} {ow : Nat → Nat} {l : List Str} {vs : List Value} (h : nmM w ow l vs) (f : Fram none' w w') : nmM w' ow l vs := nmM.farG f (fun _ _ _ h => h) h
set_option maxHeartbeats 8000000 in
theorem literal220 {f : Nat} {w : World} {ow : Nat → Nat} {pb tb cap : Nat} {L : List Tok} {s : PS} {lv p : Nat} {ρ : Int} {R : PO} (ih : PAll f) (hf : f < 1000000000) (hG : PGo w ow pb tb cap L s lv ρ) (hlv : lv ≤ 12) (hfu : s.fu < 12) (hR : parP (f + 1) 12 lv 0 0 dumT s = some R) : Ret Tryz.prog 220 [ptr pb, .int .i64 ρ, i64c p] w (RsF w ow pb tb cap L R) := by
  have hP := hG.pr
  have hne := hG.cx.ne
  have hρ := hG.rm
  have hPl := hG.cx.pl
  have hl13 := hG.l13
  have hF : Fram (one pb) w w := Fram.refl _ _
  have hmpb : one pb pb := rfl
  have hlo := hP.lo
  have ef0 : s.adv.fu = s.fu := rfl
  replace hR : pLit (parP f) lv s = some R := hR
  unfold pLit expP at hR
  refine ret_of Tryz.func220 rfl Tryz.ntmps220 rfl ?_
  refine c_seq (fun K1 hK1 => ?_)
  refine c_reg ?_ -- region 0 expr.go:246
  refine wl (ro_assign rfl) ?_
  refine wl_nil (x_then (hK1 _ _ ?_))
  clear hK1 K1
  refine c_seq (fun K2 hK2 => ?_)
  refine c_seq (fun K3 hK3 => ?_)
  refine c_reg ?_ -- region 1 expr.go:247
  refine wl (ro_move rfl) ?_
  refine wl_call rfl en_222 (expect222 hP hG.cx.tk hne (by decide)) ?_
  rintro _ u1 ⟨rfl, hq1, F9⟩
  replace hF := hF.trans' F9 (fun _ _ h => h)
  refine wl (ro_not rfl) ?_
  refine wl_nil (x_then (hK3 _ _ ?_))
  clear hK3 K3
  refine wc_cond rfl (fun hc15 => ?_) (fun hc15 => ?_)
  · try simp only [decide_eq_true_eq, decide_eq_false_iff_not, Bool.not_eq_true', Bool.not_eq_false', Bool.not_eq_eq_eq_not, Bool.not_true, Bool.not_false, beq_iff_eq, bne_iff_ne, ne_eq, beq_eq_false_iff_ne, bne_eq_false_iff_eq, gt_iff_lt, ge_iff_le, Int.not_lt, Int.not_le] at hc15
    refine c_seq (fun K4 hK4 => ?_)
    refine c_reg ?_ -- region 2 expr.go:248
    refine wl (ro_assign rfl) ?_
    refine wl_nil (x_then (hK4 _ _ ?_))
    clear hK4 K4
    refine c_ret (x_thenR ?_)
    refine bp_ret Tryz.results220 rfl ?_
    rw [if_neg (by omega)] at hR hq1
    cases failP_inj hR
    exact ⟨hF, rfl, hq1⟩
  · try simp only [decide_eq_true_eq, decide_eq_false_iff_not, Bool.not_eq_true', Bool.not_eq_false', Bool.not_eq_eq_eq_not, Bool.not_true, Bool.not_false, beq_iff_eq, bne_iff_ne, ne_eq, beq_eq_false_iff_ne, bne_eq_false_iff_eq, gt_iff_lt, ge_iff_le, Int.not_lt, Int.not_le] at hc15
    rw [if_pos (by omega)] at hR hq1
    obtain ⟨i0, hX, hi0, hs0⟩ := hq1.ex
    unfold prc at hX
    obtain ⟨R7, hq7, hR7⟩ := bdP_res hR
    have hp9 : Pe { s.adv with fu := s.adv.fu + 1 } := ⟨(hG.pe.cm (Cm.adv hG.pe)).tk, by show s.fu + 1 ≤ 12; omega⟩
    refine c_skip (x_then (hK2 _ _ ?_))
    clear hK2 K2
    refine forget [(0, _), (1, _), (2, _)] ⟨rfl, rfl, rfl, trivial⟩ (fun e => ?_)
    refine c_seq (fun K5 hK5 => ?_)
    refine c_reg ?_ -- region 3 expr.go:250
    refine wl (ro_move rfl) ?_
    refine wl (ro_nilCheck rfl) ?_
    refine wl (ro_fieldAddr (k := 9) rfl fo_186_4) ?_
    refine wl (ro_loadB rfl sc_3 (by assumption) rfl) ?_
    refine wl (ro_arith rfl rfl rfl (Go.IntWalk.i64_in _ (by omega))) ?_
    refine wl (ro_nilCheck rfl) ?_
    refine wl (ro_fieldAddr (k := 9) rfl fo_186_4) ?_
    refine wl_put rfl rfl rfl sz_3 hX (by simp) (rfl) (fun w1 hX F1 => ?_)
    replace hF := hF.thenDrew.thenO F1 (by first | exact .inr (by omega) | exact .inl rfl | exact .inl (by assumption) | assumption)
    refine wl_nil (x_then (hK5 _ _ ?_))
    clear hK5 K5
    refine forget [(0, _), (1, _), (2, _)] ⟨rfl, rfl, rfl, trivial⟩ (fun e => ?_)
    refine c_seq (fun K6 hK6 => ?_)
    refine c_reg ?_ -- region 4 expr.go:251
    refine wl (ro_move rfl) ?_
    refine wl (ro_nilCheck rfl) ?_
    refine wl (ro_fieldAddr (k := 9) rfl fo_186_4) ?_
    refine wl (ro_loadB rfl sc_3 (by assumption) rfl) ?_
    refine wl (ro_assign rfl) ?_
    refine wl_nil (x_then (hK6 _ _ ?_))
    clear hK6 K6
    refine forget [(0, _), (1, _), (2, _), (7, _)] ⟨rfl, rfl, rfl, rfl, trivial⟩ (fun e => ?_)
    refine c_seq (fun K7 hK7 => ?_)
    refine c_reg ?_ -- region 5 expr.go:252
    refine wl (ro_assign rfl) ?_
    refine wl_nil (x_then (hK7 _ _ ?_))
    clear hK7 K7
    refine forget [(0, _), (1, _), (2, _), (7, _), (8, _)] ⟨rfl, rfl, rfl, rfl, rfl, trivial⟩ (fun e => ?_)
    refine c_seq (fun K8 hK8 => ?_)
    refine c_block ?_
    -- loop@r6: live slots [0, 1, 2, 7, 8]
    refine c_loopG (fun n a' w' => ∃ (x : Tr) (l : List Str) (vs : List Value) (U : Value) (s1 : PS), n + l.length ≤ f ∧ parP n 11 0 0 l.length x s1 = some R7 ∧ x.ps = l ∧ l.length ≤ 3 ∧ PrV w' pb tb cap L s1 ∧ Sm { s.adv with fu := s.adv.fu + 1 } s1 ∧ Fram (one pb) w w' ∧ LsM w ow w' 0 U (l.map Ex.name) vs ∧ ∃ e, a' = Fr 91 (upds e [(0, ptr pb), (1, .int .i64 ρ), (2, i64c p), (7, i64c (s.fu + 1)), (8, U)]) []) f ⟨dumT, [], [], _, { s.adv with fu := s.adv.fu + 1 }, Nat.le_refl _, hq7, rfl, by decide, ⟨⟨i0, hX, hi0, hs0⟩, hq1.al, hq1.lo, by show s.fu + 1 ≤ 100; omega⟩, Sm.refl hp9, hF, LsM.nil, kp _ ⟨rfl, rfl, rfl, rfl, rfl, trivial⟩⟩ ?_
    clear hF hq7 hX hP hq1
    rintro n a' u1 ⟨x, l, vs, U, s1, hn, hR, hxl, hl3, hP, hSm, hF, hU, e, rfl⟩
    obtain ⟨i, hX, hi, hs⟩ := hP.ex
    unfold prc at hX
    obtain ⟨ua, uc, rfl⟩ := hU.own.form
    have hvl := hU.el.len
    rw [List.length_map] at hvl
    have hkk : s1.k = s1.cur.k := rfl
    obtain ⟨g, rfl⟩ : ∃ g, n = g + 1 := by
      cases n with
      | zero => cases hR
      | succ g => exact ⟨g, rfl⟩
    replace hR : pPars (parP g) l.length x s1 = some R7 := hR
    unfold pPars at hR
    refine c_seq (fun K9 hK9 => ?_)
    refine c_seq (fun K10 hK10 => ?_)
    refine c_reg ?_ -- region 6 expr.go:253
    refine wl (ro_move rfl) ?_
    refine wl (ro_nilCheck rfl) ?_
    refine wl (ro_fieldAddr (k := 2) rfl fo_186_2) ?_
    refine wl (ro_fieldAddr (k := 0) rfl fo_182_0) ?_
    refine wl (ro_loadB rfl sc_180 (by assumption) rfl) ?_
    refine wl (ro_cmp rfl rfl rfl) ?_
    refine wl_nil (x_then (hK10 _ _ ?_))
    clear hK10 K10
    refine wc_cond rfl (fun hc32 => ?_) (fun hc32 => ?_)
    · try simp only [decide_eq_true_eq, decide_eq_false_iff_not, Bool.not_eq_true', Bool.not_eq_false', Bool.not_eq_eq_eq_not, Bool.not_true, Bool.not_false, beq_iff_eq, bne_iff_ne, ne_eq, beq_eq_false_iff_ne, bne_eq_false_iff_eq, gt_iff_lt, ge_iff_le, Int.not_lt, Int.not_le] at hc32
      rw [if_neg (by omega)] at hR
      refine c_skip (x_then (hK9 _ _ ?_))
      clear hK9 K9
      refine c_block ?_
      refine c_mid (fun a' w' => ∃ s2, PrV w' pb tb cap L s2 ∧ Sm { s.adv with fu := s.adv.fu + 1 } s2 ∧ (if l.length = 3 then failP 19 s2 else nameP 0 s2 fun nm s => parP g 11 0 0 (l.length + 1) { x with ps := x.ps ++ [nm] } s) = some R7 ∧ Fram (one pb) w w' ∧ LsM w ow w' 0 (.slice ua vs.length uc) (l.map Ex.name) vs ∧ ∃ e, a' = Fr 91 (upds e [(0, ptr pb), (1, .int .i64 ρ), (2, i64c p), (7, i64c (s.fu + 1)), (8, .slice ua vs.length uc)]) []) ?_ ?_
      · skip
        refine c_seq (fun K11 hK11 => ?_)
        refine c_reg ?_ -- region 7 expr.go:254
        refine wl (ro_move rfl) ?_
        refine wl (ro_lenL rfl se_188) ?_
        refine wl (ro_cmp rfl rfl rfl) ?_
        refine wl_fork rfl (fun hg36 => ?_) (fun hg36 => ?_)
        · try simp only [decide_eq_true_eq, decide_eq_false_iff_not, Bool.not_eq_true', Bool.not_eq_false', Bool.not_eq_eq_eq_not, Bool.not_true, Bool.not_false, beq_iff_eq, bne_iff_ne, ne_eq, beq_eq_false_iff_ne, bne_eq_false_iff_eq, gt_iff_lt, ge_iff_le, Int.not_lt, Int.not_le] at hg36
          refine wlg_yes rfl (ro_move rfl) ?_
          refine wlg_call rfl rfl en_222 (expect222 hP (hU.cx hG.cx hF).tk hne (by decide)) ?_
          rintro _ u2 ⟨rfl, hq2, F9⟩
          have hU2 := hU.thru hG.cx hF F9
          have hF2 := hF.trans' F9 (fun _ _ h => h)
          rw [if_pos (by omega)] at hR
          unfold expP at hR
          refine wlg_yes rfl (ro_not rfl) ?_
          refine wl (ro_pick rfl rfl rfl) ?_
          refine wl_nil (x_then (hK11 _ _ ?_))
          clear hK11 K11
          refine wc_cond rfl (fun hc40 => ?_) (fun hc40 => ?_)
          · try simp only [decide_eq_true_eq, decide_eq_false_iff_not, Bool.not_eq_true', Bool.not_eq_false', Bool.not_eq_eq_eq_not, Bool.not_true, Bool.not_false, beq_iff_eq, bne_iff_ne, ne_eq, beq_eq_false_iff_ne, bne_eq_false_iff_eq, gt_iff_lt, ge_iff_le, Int.not_lt, Int.not_le] at hc40
            refine c_seq (fun K12 hK12 => ?_)
            refine c_reg ?_ -- region 8 expr.go:255
            refine wl (ro_assign rfl) ?_
            refine wl_nil (x_then (hK12 _ _ ?_))
            clear hK12 K12
            refine c_ret (x_thenR (x_blkR (x_thenR (x_blkR (x_thenR ?_)))))
            refine bp_ret Tryz.results220 rfl ?_
            rw [if_neg (by omega)] at hR hq2
            cases failP_inj hR
            cases hR7
            exact ⟨hF2, rfl, hq2⟩
          · try simp only [decide_eq_true_eq, decide_eq_false_iff_not, Bool.not_eq_true', Bool.not_eq_false', Bool.not_eq_eq_eq_not, Bool.not_true, Bool.not_false, beq_iff_eq, bne_iff_ne, ne_eq, beq_eq_false_iff_ne, bne_eq_false_iff_eq, gt_iff_lt, ge_iff_le, Int.not_lt, Int.not_le] at hc40
            refine c_skip (x_then ?_)
            rw [if_pos (by omega)] at hR hq2
            exact ⟨s1.adv, hq2, hSm.trans (Sm.adv (hp9.cm hSm.toCm)), hR, hF2, hU2, kp _ ⟨rfl, rfl, rfl, rfl, rfl, trivial⟩⟩
        · try simp only [decide_eq_true_eq, decide_eq_false_iff_not, Bool.not_eq_true', Bool.not_eq_false', Bool.not_eq_eq_eq_not, Bool.not_true, Bool.not_false, beq_iff_eq, bne_iff_ne, ne_eq, beq_eq_false_iff_ne, bne_eq_false_iff_eq, gt_iff_lt, ge_iff_le, Int.not_lt, Int.not_le] at hg36
          refine wlg_no rfl ?_
          refine wlg_no rfl ?_
          refine wlg_no rfl ?_
          refine wl (ro_pick rfl rfl rfl) ?_
          refine wl_nil (x_then (hK11 _ _ ?_))
          clear hK11 K11
          refine wc_condF rfl ?_
          refine c_skip (x_then ?_)
          rw [if_neg (by omega)] at hR
          exact ⟨s1, hP, hSm, hR, hF, hU, kp _ ⟨rfl, rfl, rfl, rfl, rfl, trivial⟩⟩
      clear hP hSm hR hF hU hX
      rintro a' u2 ⟨s2, hP, hSm, hR, hF, hU, e, rfl⟩
      refine c_seq (fun K13 hK13 => ?_)
      refine c_seq (fun K14 hK14 => ?_)
      refine c_reg ?_ -- region 9 expr.go:257
      refine wl (ro_move rfl) ?_
      refine wl (ro_lenL rfl se_188) ?_
      refine wl (ro_cmp rfl rfl rfl) ?_
      refine wl_nil (x_then (hK14 _ _ ?_))
      clear hK14 K14
      refine wc_cond rfl (fun hc43 => ?_) (fun hc43 => ?_)
      · try simp only [decide_eq_true_eq, decide_eq_false_iff_not, Bool.not_eq_true', Bool.not_eq_false', Bool.not_eq_eq_eq_not, Bool.not_true, Bool.not_false, beq_iff_eq, bne_iff_ne, ne_eq, beq_eq_false_iff_ne, bne_eq_false_iff_eq, gt_iff_lt, ge_iff_le, Int.not_lt, Int.not_le] at hc43
        rw [if_pos (by omega)] at hR
        cases failP_inj hR
        cases hR7
        refine c_seq (fun K15 hK15 => ?_)
        refine c_reg ?_ -- region 10 expr.go:258
        refine wl (ro_move rfl) ?_
        refine wl_call rfl en_77 (fail77 (e := 19) hP) ?_
        rintro _ u3 ⟨rfl, hP1, F9⟩
        refine wl_nil (x_then (hK15 _ _ ?_))
        clear hK15 K15
        refine forget [] trivial (fun e => ?_)
        refine c_seq (fun K16 hK16 => ?_)
        refine c_reg ?_ -- region 11 expr.go:259
        refine wl (ro_assign rfl) ?_
        refine wl_nil (x_then (hK16 _ _ ?_))
        clear hK16 K16
        refine c_ret (x_thenR (x_blkR (x_thenR (x_blkR (x_thenR ?_)))))
        refine bp_ret Tryz.results220 rfl ?_
        exact ⟨hF.trans' F9 (fun _ _ h => h), rfl, hP1⟩
      · try simp only [decide_eq_true_eq, decide_eq_false_iff_not, Bool.not_eq_true', Bool.not_eq_false', Bool.not_eq_eq_eq_not, Bool.not_true, Bool.not_false, beq_iff_eq, bne_iff_ne, ne_eq, beq_eq_false_iff_ne, bne_eq_false_iff_eq, gt_iff_lt, ge_iff_le, Int.not_lt, Int.not_le] at hc43
        rw [if_neg (by omega)] at hR
        refine c_skip (x_then (hK13 _ _ ?_))
        clear hK13 K13
        refine forget [(0, _), (1, _), (2, _), (7, _), (8, _)] ⟨rfl, rfl, rfl, rfl, rfl, trivial⟩ (fun e => ?_)
        refine c_seq (fun K17 hK17 => ?_)
        by_cases hk2 : s2.k = 2
        · skip
          refine c_reg ?_ -- region 12 expr.go:261
          refine wl (ro_move rfl) ?_
          refine wl_call rfl en_219 (name219 (x := 0) hP (hU.cx hG.cx hF).tk hne (by decide)) ?_
          rintro v u3 ⟨F9, hv⟩
          rw [if_neg (by omega), if_neg (by omega)] at hv
          obtain ⟨b7, p7, rfl, hb7, h7, hP2⟩ := hv
          have htg : T64 (.slice ua vs.length uc) (N63 w ow) b7 = 63 := by rw [← hU.n63 hF.size]; exact nw_new hb7
          replace hU := hU.thru hG.cx hF F9
          have hT1 : TrM u3 (T64 (.slice ua vs.length uc) (N63 w ow)) 0 (Ex.name s2.cur.s) [.iface 305 (ptr b7)] := TrM_name.2 ⟨b7, p7, rfl, h7, htg⟩
          replace hF := hF.trans' F9 (fun _ _ h => h)
          unfold nameP at hR
          rw [if_neg (by omega), if_neg (by omega)] at hR
          refine wl (ro_assign rfl) ?_
          refine wl_nil (x_then (hK17 _ _ ?_))
          clear hK17 K17
          refine c_seq (fun K18 hK18 => ?_)
          refine c_seq (fun K19 hK19 => ?_)
          refine c_reg ?_ -- region 13 expr.go:262
          refine wl (ro_move rfl) ?_
          refine wl (ro_eqPtrNil rfl pt_305 rfl) ?_
          refine wl_nil (x_then (hK19 _ _ ?_))
          clear hK19 K19
          refine wc_condF rfl ?_
          refine c_skip (x_then (hK18 _ _ ?_))
          clear hK18 K18
          refine c_reg ?_ -- region 15 expr.go:265
          refine wl (ro_move rfl) ?_
          refine wl (ro_move rfl) ?_
          refine wl (ro_mkIface rfl (by kernel_rfl)) ?_
          refine wl_bsapp (t := 188) (et := 242) (k := 1) (cs := [.iface 305 (ptr b7)]) rfl rfl rfl rfl se_188 zx_242 by_242 rfl rfl rfl (by simp [Value.oneCell']) hU.own (by omega) (by omega) ?_
          intro v' u5 hon G5 hnb
          have hU5 := hU.app hF.size hT1 hon G5 hnb
          have hnw := hU.new
          have hF5 := hF.trans' G5 (fun k hk q => by have := hnw k q; omega)
          have hP5 := hP2.far G5 (fun q => by have := hnw _ q; omega)
          skip
          refine wl (ro_assign rfl) ?_
          refine wl_nil (x_blk (x_then ?_))
          exact ⟨g, by omega, { x with ps := x.ps ++ [s2.cur.s] }, l ++ [s2.cur.s], _, v', s2.adv, by rw [List.length_append]; simp only [List.length_cons, List.length_nil]; omega, by rw [List.length_append]; exact hR, by rw [← hxl], by rw [List.length_append]; simp only [List.length_cons, List.length_nil]; omega, hP5, hSm.trans (Sm.adv (hp9.cm hSm.toCm)), hF5, by rw [List.map_append]; exact hU5, kp _ ⟨rfl, rfl, rfl, rfl, rfl, trivial⟩⟩
        · skip
          refine c_reg ?_ -- region 12 expr.go:261
          refine wl (ro_move rfl) ?_
          refine wl_call rfl en_219 (name219 (x := 0) hP (hU.cx hG.cx hF).tk hne (by decide)) ?_
          rintro v u3 ⟨F9, hv⟩
          rw [if_pos hk2] at hv
          obtain ⟨rfl, hE⟩ := hv
          unfold nameP at hR
          rw [if_pos hk2] at hR
          cases failP_inj hR
          cases hR7
          replace hF := hF.trans' F9 (fun _ _ h => h)
          refine wl (ro_assign rfl) ?_
          refine wl_nil (x_then (hK17 _ _ ?_))
          clear hK17 K17
          refine c_seq (fun K20 hK20 => ?_)
          refine c_seq (fun K21 hK21 => ?_)
          refine c_reg ?_ -- region 13 expr.go:262
          refine wl (ro_move rfl) ?_
          refine wl (ro_eqPtrNil rfl pt_305 rfl) ?_
          refine wl_nil (x_then (hK21 _ _ ?_))
          clear hK21 K21
          refine wc_condT rfl ?_
          refine c_seq (fun K22 hK22 => ?_)
          refine c_reg ?_ -- region 14 expr.go:263
          refine wl (ro_assign rfl) ?_
          refine wl_nil (x_then (hK22 _ _ ?_))
          clear hK22 K22
          refine c_ret (x_thenR (x_blkR (x_thenR (x_blkR (x_thenR ?_)))))
          refine bp_ret Tryz.results220 rfl ?_
          exact ⟨hF, rfl, hE⟩
    · try simp only [decide_eq_true_eq, decide_eq_false_iff_not, Bool.not_eq_true', Bool.not_eq_false', Bool.not_eq_eq_eq_not, Bool.not_true, Bool.not_false, beq_iff_eq, bne_iff_ne, ne_eq, beq_eq_false_iff_ne, bne_eq_false_iff_eq, gt_iff_lt, ge_iff_le, Int.not_lt, Int.not_le] at hc32
      rw [if_pos (by omega)] at hR
      cases okP_inj hR
      refine c_exit (x_thenX (x_thenX (x_blkX (x_then (hK8 _ _ ?_)))))
      clear hK9 K9 hK8 K8
      refine forget [(0, _), (1, _), (2, _), (7, _), (8, _)] ⟨rfl, rfl, rfl, rfl, rfl, trivial⟩ (fun e => ?_)
      refine c_seq (fun K23 hK23 => ?_)
      refine c_reg ?_ -- region 16 expr.go:267
      refine wl (ro_move rfl) ?_
      refine wl_call rfl en_176 (next176 hP (hU.cx hG.cx hF).tk hne (by omega)) ?_
      rintro _ u2 ⟨rfl, hP1, F9⟩
      have hU2 := hU.thru hG.cx hF F9
      obtain ⟨hU3, hE3⟩ := hU2.done
      have hN3 := hE3.nm
      replace hF := hF.trans' F9 (fun _ _ h => h)
      obtain ⟨i, hX, hi, hs⟩ := hP1.ex
      unfold prc at hX
      have hSa := hSm.al
      have hSo := hSm.lo
      have hL : Fram none' u2 u2 := Fram.refl _ _
      refine wl_nil (x_then (hK23 _ _ ?_))
      clear hK23 K23
      refine forget [(0, _), (1, _), (2, _), (7, _), (8, _)] ⟨rfl, rfl, rfl, rfl, rfl, trivial⟩ (fun e => ?_)
      refine c_seq (fun K24 hK24 => ?_)
      refine c_reg ?_ -- region 17 expr.go:268
      refine wl (ro_move rfl) ?_
      refine wl (ro_nilCheck rfl) ?_
      refine wl (ro_fieldAddr (k := 7) rfl fo_186_3) ?_
      refine wl (ro_loadAggB rfl ag_184 (by assumption) rfl rfl) ?_
      refine wl_new (ze_184) (fun b10 w2 hbb10 h10 F2 => ?_)
      have hbsb10 := Nat.le_trans hF.size hbb10
      have hnepbb10 : pb < b10 := Nat.lt_of_lt_of_le hX.lt hbb10
      have hbsb10 := Nat.le_trans hL.size hbb10
      replace hF := hF.thenDrew.thenN F2
      replace hX := F2.blkN hX
      replace hL := hL.thenDrew.thenN F2
      refine wl_puta rfl rfl (by simp [Value.oneCell', i64c, u64c, u8c, ptr]) sz_184 (rfl) h10 (by simp) (rfl) (fun w3 h10 F3 => ?_)
      replace hF := hF.thenDrew.thenO F3 (by first | exact .inr (by omega) | exact .inl rfl | exact .inl (by assumption) | assumption)
      replace hX := F3.blkO hX (by omega)
      replace hL := hL.thenDrew.thenO F3 (by first | exact .inr (by omega) | exact .inl rfl | exact .inl (by assumption) | assumption)
      refine wl_nil (x_then (hK24 _ _ ?_))
      clear hK24 K24
      refine forget [(0, _), (1, _), (2, _), (7, _), (8, _), (10, _)] ⟨rfl, rfl, rfl, rfl, rfl, rfl, trivial⟩ (fun e => ?_)
      refine c_seq (fun K25 hK25 => ?_)
      have hU4 := hU3.thruN hL
      have hN4 := hN3.thruN hL
      have hc4 := hG.cx.go hF
      refine c_reg ?_ -- region 18 expr.go:269
      refine wl (ro_move rfl) ?_
      refine wl (ro_move rfl) ?_
      refine wl (ro_lenL rfl se_188) ?_
      refine wl (ro_build rfl bld_184_0) ?_
      refine wl (ro_nilCheck rfl) ?_
      refine wl (ro_fieldAddr (k := 7) rfl fo_186_3) ?_
      refine wl_puta rfl rfl (by simp [Value.oneCell', i64c, u64c, u8c, ptr]) sz_184 (rfl) hX (by simp) (rfl) (fun w4 hX F4 => ?_)
      replace hF := hF.thenDrew.thenO F4 (by first | exact .inr (by omega) | exact .inl rfl | exact .inl (by assumption) | assumption)
      replace h10 := F4.blkO h10 (by omega)
      have hU5 := hU4.thru hc4 F4
      have hN5 := hN4.thru hc4 F4
      refine wl_nil (x_then (hK25 _ _ ?_))
      clear hK25 K25
      refine forget [(0, _), (1, _), (2, _), (7, _), (8, _), (10, _)] ⟨rfl, rfl, rfl, rfl, rfl, rfl, trivial⟩ (fun e => ?_)
      refine c_seq (fun K26 hK26 => ?_)
      rcases bdP_some hR7 with ⟨⟨ee, pp⟩, hq, rfl⟩ | ⟨t1, s3, hq, hR⟩
      · skip
        have e5 : x.ps.length = vs.length := by rw [hxl]; omega
        have hP5 : PrV _ pb tb cap L { s1.adv with al := vs.length, lo := 0 } := ⟨⟨i, hX, hi, hs⟩, (by show vs.length ≤ 12; omega), Nat.zero_le _, hP1.fu⟩
        rw [← e5] at hP5
        have hpe1 := hp9.cm hSm.toCm
        have hpe5 : Pe { s1.adv with al := x.ps.length, lo := 0 } := ⟨(hpe1.cm (Cm.adv hpe1)).tk, hpe1.fu⟩
        refine c_reg ?_ -- region 19 expr.go:270
        refine wl (ro_move rfl) ?_
        refine wl (ro_move rfl) ?_
        refine wl (ro_arith rfl rfl rfl (Go.IntWalk.i64_in _ (by omega))) ?_
        refine wl_call rfl en_76 (ih.b6 (lv := lv + 1) (ρ := ρ - 1) ⟨hG.cx.go hF, hP5, hpe5, by omega, Nat.zero_le _, by omega⟩ hq) ?_
        rintro v u6 hr6
        obtain ⟨hF, rfl, hE⟩ := hr6.thru hF
        refine wl (ro_move rfl) ?_
        refine wl (ro_extract rfl rfl) ?_
        refine wl (ro_extract rfl rfl) ?_
        refine wl (ro_assign rfl) ?_
        refine wl (ro_assign rfl) ?_
        refine wl_nil (x_then (hK26 _ _ ?_))
        clear hK26 K26
        refine c_seq (fun K27 hK27 => ?_)
        refine c_seq (fun K28 hK28 => ?_)
        refine c_reg ?_ -- region 20 expr.go:271
        refine wl (ro_move rfl) ?_
        refine wl (ro_not rfl) ?_
        refine wl (ro_move rfl) ?_
        refine wlg_no rfl ?_
        refine wlg_no rfl ?_
        refine wlg_no rfl ?_
        refine wl (ro_pick rfl rfl rfl) ?_
        refine wl_nil (x_then (hK28 _ _ ?_))
        clear hK28 K28
        refine wc_condT rfl ?_
        refine c_seq (fun K29 hK29 => ?_)
        refine c_reg ?_ -- region 21 expr.go:272
        refine wl (ro_assign rfl) ?_
        refine wl_nil (x_then (hK29 _ _ ?_))
        clear hK29 K29
        refine c_ret (x_thenR ?_)
        refine bp_ret Tryz.results220 rfl ?_
        exact ⟨hF, rfl, hE⟩
      · skip
        have e5 : x.ps.length = vs.length := by rw [hxl]; omega
        have hP5 : PrV _ pb tb cap L { s1.adv with al := vs.length, lo := 0 } := ⟨⟨i, hX, hi, hs⟩, (by show vs.length ≤ 12; omega), Nat.zero_le _, hP1.fu⟩
        rw [← e5] at hP5
        have hpe1 := hp9.cm hSm.toCm
        have hpe5 : Pe { s1.adv with al := x.ps.length, lo := 0 } := ⟨(hpe1.cm (Cm.adv hpe1)).tk, hpe1.fu⟩
        refine c_reg ?_ -- region 19 expr.go:270
        refine wl (ro_move rfl) ?_
        refine wl (ro_move rfl) ?_
        refine wl (ro_arith rfl rfl rfl (Go.IntWalk.i64_in _ (by omega))) ?_
        refine wl_call rfl en_76 (ih.b6 (lv := lv + 1) (ρ := ρ - 1) ⟨hG.cx.go hF, hP5, hpe5, by omega, Nat.zero_le _, by omega⟩ hq) ?_
        rintro v u6 hr6
        obtain ⟨_, _, hSm6, _⟩ := (par_q f).i6 hpe5 t1 s3 hq
        replace h10 := hr6.1.blkO h10 (by omega)
        replace hU5 := hU5.thru (hG.cx.go hF) hr6.1
        replace hN5 := hN5.thru (hG.cx.go hF) hr6.1
        obtain ⟨hF, U6, us, rfl, hU6, hT6, hP6⟩ := hr6.thru hF
        obtain ⟨ua6, uc6, rfl⟩ := OwT.form hU6
        refine wl (ro_move rfl) ?_
        refine wl (ro_extract rfl rfl) ?_
        refine wl (ro_extract rfl rfl) ?_
        refine wl (ro_assign rfl) ?_
        refine wl (ro_assign rfl) ?_
        refine wl_nil (x_then (hK26 _ _ ?_))
        clear hK26 K26
        refine c_seq (fun K30 hK30 => ?_)
        refine c_seq (fun K31 hK31 => ?_)
        refine c_reg ?_ -- region 20 expr.go:271
        refine wl (ro_move rfl) ?_
        refine wl (ro_not rfl) ?_
        refine wl (ro_move rfl) ?_
        refine wlg_yes rfl (ro_move rfl) ?_
        refine wlg_call rfl rfl en_222 (expect222 hP6 (hG.cx.go hF).tk hne (by decide)) ?_
        rintro _ u7 ⟨rfl, hq7, F9⟩
        replace h10 := F9.blkO h10 (by omega)
        replace hU5 := hU5.thru (hG.cx.go hF) F9
        replace hN5 := hN5.thru (hG.cx.go hF) F9
        replace hU6 := hU6.thru (hG.cx.go hF) F9
        replace hT6 := hT6.thru (hG.cx.go hF) F9
        replace hF := hF.trans' F9 (fun _ _ h => h)
        refine wlg_yes rfl (ro_not rfl) ?_
        refine wl (ro_pick rfl rfl rfl) ?_
        refine wl_nil (x_then (hK31 _ _ ?_))
        clear hK31 K31
        refine wc_cond rfl (fun hc80 => ?_) (fun hc80 => ?_)
        · try simp only [decide_eq_true_eq, decide_eq_false_iff_not, Bool.not_eq_true', Bool.not_eq_false', Bool.not_eq_eq_eq_not, Bool.not_true, Bool.not_false, beq_iff_eq, bne_iff_ne, ne_eq, beq_eq_false_iff_ne, bne_eq_false_iff_eq, gt_iff_lt, ge_iff_le, Int.not_lt, Int.not_le] at hc80
          refine c_seq (fun K32 hK32 => ?_)
          refine c_reg ?_ -- region 21 expr.go:272
          refine wl (ro_assign rfl) ?_
          refine wl_nil (x_then (hK32 _ _ ?_))
          clear hK32 K32
          refine c_ret (x_thenR ?_)
          refine bp_ret Tryz.results220 rfl ?_
          rw [if_neg (by omega)] at hR hq7
          cases failP_inj hR
          exact ⟨hF, rfl, hq7⟩
        · try simp only [decide_eq_true_eq, decide_eq_false_iff_not, Bool.not_eq_true', Bool.not_eq_false', Bool.not_eq_eq_eq_not, Bool.not_true, Bool.not_false, beq_iff_eq, bne_iff_ne, ne_eq, beq_eq_false_iff_ne, bne_eq_false_iff_eq, gt_iff_lt, ge_iff_le, Int.not_lt, Int.not_le] at hc80
          refine c_skip (x_then (hK30 _ _ ?_))
          clear hK30 K30
          refine forget [(0, _), (2, _), (7, _), (8, _), (10, _), (11, _)] ⟨rfl, rfl, rfl, rfl, rfl, rfl, trivial⟩ (fun e => ?_)
          refine c_seq (fun K33 hK33 => ?_)
          rw [if_pos (by omega)] at hR hq7
          obtain ⟨i7, hX, hi7, hs7⟩ := hq7.ex
          unfold prc at hX
          have hc7 := hG.cx.go hF
          refine c_reg ?_ -- region 22 expr.go:274
          refine wl (ro_move rfl) ?_
          refine wl (ro_loadAggB rfl ag_184 (by assumption) rfl rfl) ?_
          refine wl (ro_nilCheck rfl) ?_
          refine wl (ro_fieldAddr (k := 7) rfl fo_186_3) ?_
          refine wl_puta rfl rfl (by simp [Value.oneCell', i64c, u64c, u8c, ptr]) sz_184 (rfl) hX (by simp) (rfl) (fun w5 hX F5 => ?_)
          replace hF := hF.thenDrew.thenO F5 (by first | exact .inr (by omega) | exact .inl rfl | exact .inl (by assumption) | assumption)
          replace h10 := F5.blkO h10 (by omega)
          have hU7 := hU5.thru hc7 F5
          have hN7 := hN5.thru hc7 F5
          have hU8 := hU6.thru hc7 F5
          have hT8 := hT6.thru hc7 F5
          refine wl_nil (x_then (hK33 _ _ ?_))
          clear hK33 K33
          refine forget [(2, _), (7, _), (8, _), (11, _)] ⟨rfl, rfl, rfl, rfl, trivial⟩ (fun e => ?_)
          refine c_seq (fun K34 hK34 => ?_)
          have hP9 : PrV _ pb tb cap L { s3.adv with al := s1.adv.al, lo := s1.adv.lo } := ⟨⟨i7, hX, hi7, hs7⟩, hP1.al, hP1.lo, hq7.fu⟩
          refine c_reg ?_ -- region 23 expr.go:275
          refine wl (ro_move rfl) ?_
          refine wl (ro_move rfl) ?_
          refine wl (ro_move rfl) ?_
          refine wl (ro_move rfl) ?_
          refine wl (ro_build rfl bld_388_0_1_2_3) ?_
          refine wl_box rfl rfl (fun b90 w6 hbb90 h90 F6 => ?_)
          have hbsb90 := Nat.le_trans hF.size hbb90
          have hneb10b90 : b10 < b90 := Nat.lt_of_lt_of_le h10.lt hbb90
          have hnepbb90 : pb < b90 := Nat.lt_of_lt_of_le hX.lt hbb90
          replace hF := hF.thenDrew.thenN F6
          replace h10 := F6.blkN h10
          replace hX := F6.blkN hX
          have F8 := (F6)
          refine wl (ro_assign rfl) ?_
          refine wl_nil (x_then (hK34 _ _ ?_))
          clear hK34 K34
          refine c_ret ?_
          refine bp_ret Tryz.results220 rfl ?_
          cases okP_inj hR
          exact ⟨hF, b90, rfl, TrM_func.2 ⟨b90, _, _, _, vs, us, rfl, ⟨h90, nw_new (by omega)⟩, hU7.thruN F8, by rw [hxl]; exact hN7.thruN F8, hU8.thruN F8, hT8.thruN F8⟩, hP9.farN F8⟩
end Go.Proofs.Qxb6500568aGreatDoor
