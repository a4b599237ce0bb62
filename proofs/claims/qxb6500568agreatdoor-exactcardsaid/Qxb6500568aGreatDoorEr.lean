import Derived.Test.Qxb6500568aGreatDoorEq
/- The real parser: branches. -/
namespace Go.Proofs.Qxb6500568aGreatDoor
open Ieee
set_option linter.unusedVariables false
set_option linter.unusedSimpArgs false

section
variable {w u u' : World} {ow : Nat → Nat} {pb tb cap b c : Nat} {L : List Tok} {md : Nat} {t : Tr} {vs cs : List Value} {V : Value} {ty : TypeId} {l : List Str}
theorem NB.thru (h : NB u ow c cs ty) (hc : PCx u ow pb tb cap L) (f : Fram (one pb) u u') : NB u' ow c cs ty := h.far2 f (fun b hb _ e => by have e : b = pb := e; rw [e, hc.pt] at hb; omega) (fun _ _ h => h)
theorem NB.thruN (h : NB u ow c cs ty) (f : Fram none' u u') : NB u' ow c cs ty := h.far2 f (fun _ _ _ h => h) (fun _ _ h => h)
theorem NB.hbput (h : NB u (HB b ow) c cs ty) (f : Fram (one b) u u') : NB u' (HB b ow) c cs ty := h.far2 f (fun c hc _ e => HB.ne hc e) (fun _ _ h => h)
theorem NB.hbdone (h : NB u (HB b ow) c cs ty) : NB u ow c cs ty := ⟨h.1, HB.of h.2⟩
theorem nmM.hbput (h : nmM u (HB b ow) l vs) (f : Fram (one b) u u') : nmM u' (HB b ow) l vs := nmM.farG f (fun c hc _ e => HB.ne hc e) h
theorem nmM.hbdone : ∀ {l : List Str} {vs : List Value}, nmM u (HB b ow) l vs → nmM u ow l vs
  | [], _, h => h
  | _ :: _, _, ⟨b, p, r, h1, h2, h3⟩ => ⟨b, p, r, h1, h2.hbdone, nmM.hbdone h3⟩
theorem HB.new (h : w.heap.size ≤ c) (hne : c ≠ b) : HB b (N63 w ow) c = 63 := by
  unfold HB
  rw [if_neg hne]
  exact nw_new h
end
section
variable {P : Program} {n : Nat} {e : Nat → Option Value} {ops : Array Oper} {w : World} {Q : Exit → Act → World → Prop} {rest : List Oper} {d : Nat} {ty : TypeId} {ps : String} {af : Array Edge} {ds : List Deferred}
theorem wl_bs1 {t et : Nat} {x : Operand} {v : Value} (hx : evO n e x = some v) (hv : v.cells = [v].toArray) (ht : selB P t et 1 = true) (hz : ∃ z, zeroB P et z ∧ z.length = 1)
    (K : ∀ b w1, w.heap.size ≤ b → Own w1.heap (.slice (some ⟨b, 0, none⟩) 1 1) et 1 1 [v] → Fram none' w w1 → WL P ops Q rest (Fr n (upd e d (.slice (some ⟨b, 0, none⟩) 1 1)) ds) w1) :
    WL P ops Q (⟨some d, .buildSlice t 1 #[(0, x)], ty, ps, af, none⟩ :: rest) (Fr n e ds) w :=
  wle (eo_bs1 hx hv ht hz rfl rfl rfl) (K w.heap.size _ (Nat.le_refl _) (Own.bs w [v] et 1 1 rfl (by omega)) (Fram.alloc none' w _))
theorem wl_bs2 {t et : Nat} {x y : Operand} {u v : Value} (hx : evO n e x = some u) (hy : evO n e y = some v) (hu : u.cells = #[u]) (hv : v.cells = #[v]) (ht : selB P t et 1 = true) (hz : ∃ z, zeroB P et z ∧ z.length = 1)
    (K : ∀ b w1, w.heap.size ≤ b → Own w1.heap (.slice (some ⟨b, 0, none⟩) 2 2) et 1 2 [u, v] → Fram none' w w1 → WL P ops Q rest (Fr n (upd e d (.slice (some ⟨b, 0, none⟩) 2 2)) ds) w1) :
    WL P ops Q (⟨some d, .buildSlice t 2 #[(0, x), (1, y)], ty, ps, af, none⟩ :: rest) (Fr n e ds) w :=
  wle (eo_bs2 hx hy hu hv ht hz) (K w.heap.size _ (Nat.le_refl _) (Own.bs w [u, v] et 1 2 rfl (by omega)) (Fram.alloc none' w _))
end
set_option maxHeartbeats 8000000 in
theorem branch178 {f : Nat} {w : World} {ow : Nat → Nat} {pb tb cap : Nat} {L : List Tok} {s : PS} {lv : Nat} {ρ : Int} {R : PO} (ih : PAll f) (hG : PGo w ow pb tb cap L s lv ρ) (hlv : lv ≤ 12) (hk : 1 < s.k) (hR : parP (f + 1) 9 lv 0 0 dumT s = some R) : Ret Tryz.prog 178 [ptr pb, .int .i64 ρ] w (Rs1 w ow pb tb cap L 2 R) := by
  have hP := hG.pr
  have hne := hG.cx.ne
  have hρ := hG.rm
  have hPl := hG.cx.pl
  have hl13 := hG.l13
  have hglo := hG.lo
  have hF : Fram (one pb) w w := Fram.refl _ _
  replace hR : pIf (parP f) lv s = some R := hR
  unfold pIf expP at hR
  obtain ⟨i, hX, hi, hs⟩ := hP.ex
  unfold prc at hX
  refine ret_of Tryz.func178 rfl Tryz.ntmps178 rfl ?_
  refine c_seq (fun K1 hK1 => ?_)
  refine c_reg ?_ -- region 0 parse.go:174
  refine wl (ro_assign rfl) ?_
  refine wl_nil (x_then (hK1 _ _ ?_))
  clear hK1 K1
  refine forget [(0, _), (1, _)] ⟨rfl, rfl, trivial⟩ (fun e => ?_)
  refine c_seq (fun K2 hK2 => ?_)
  refine c_reg ?_ -- region 1 parse.go:175
  refine wl (ro_move rfl) ?_
  refine wl (ro_nilCheck rfl) ?_
  refine wl (ro_fieldAddr (k := 2) rfl fo_186_2) ?_
  refine wl (ro_fieldAddr (k := 1) rfl fo_182_1) ?_
  refine wl (ro_loadB rfl sc_3 (by assumption) rfl) ?_
  refine wl (ro_build rfl bld_359_0) ?_
  refine wl_box rfl rfl (fun b14 w1 hbb14 h14 F1 => ?_)
  have hbsb14 := Nat.le_trans hF.size hbb14
  have hnepbb14 : pb < b14 := Nat.lt_of_lt_of_le hX.lt hbb14
  replace hF := hF.thenDrew.thenN F1
  replace hX := F1.blkN hX
  have hP1 := hP.farN (F1)
  refine wl (ro_assign rfl) ?_
  refine wl_nil (x_then (hK2 _ _ ?_))
  clear hK2 K2
  refine forget [(0, _), (1, _), (5, _)] ⟨rfl, rfl, rfl, trivial⟩ (fun e => ?_)
  refine c_seq (fun K3 hK3 => ?_)
  refine c_reg ?_ -- region 2 parse.go:176
  refine wl (ro_move rfl) ?_
  refine wl_call rfl en_176 (next176 hP1 (hG.cx.hb hbsb14 hF).tk hne hk) ?_
  rintro _ u1 ⟨rfl, hP2, F9⟩
  replace hF := hF.trans' F9 (fun _ _ h => h)
  replace h14 := F9.blkO h14 (by omega)
  refine wl_nil (x_then (hK3 _ _ ?_))
  clear hK3 K3
  refine forget [(0, _), (1, _), (5, _)] ⟨rfl, rfl, rfl, trivial⟩ (fun e => ?_)
  refine c_seq (fun K4 hK4 => ?_)
  rcases bdP_some hR with ⟨⟨ee, pp⟩, hq, rfl⟩ | ⟨t1, s1, hq, hR⟩
  · skip
    have hpe0 := hG.pe.cm (Cm.adv hG.pe)
    have hG1 := hG.hb (lv1 := lv + 1) (ρ1 := ρ - 1) hbsb14 hF hP2 hpe0 (by omega) (by show s.lo ≤ lv + 1; omega) (by omega)
    refine c_reg ?_ -- region 3 parse.go:177
    refine wl (ro_move rfl) ?_
    refine wl (ro_move rfl) ?_
    refine wl (ro_move rfl) ?_
    refine wl (ro_arith rfl rfl rfl (Go.IntWalk.i64_in _ (by omega))) ?_
    refine wl_call rfl en_180 (ih.e0 (r := 1) hG1 (by decide) (by decide) hq) ?_
    rintro v u3 ⟨F9, rfl, hE⟩
    replace hF := hF.trans' F9 (fun _ _ h => h)
    replace h14 := F9.blkO h14 (by omega)
    refine wl (ro_nilCheck rfl) ?_
    refine wl (ro_fieldAddr (k := 1) rfl fo_359_1) ?_
    refine wl_put rfl rfl rfl sz_290 h14 (by simp) (rfl) (fun w2 h14 F2 => ?_)
    replace hF := hF.thenDrew.thenO F2 (by first | exact .inr (by omega) | exact .inl rfl | exact .inl (by assumption) | assumption)
    have hE4 := hE.far F2 (fun q => by have q : pb = b14 := q; omega)
    refine wl_nil (x_then (hK4 _ _ ?_))
    clear hK4 K4
    refine c_seq (fun K5 hK5 => ?_)
    refine c_seq (fun K6 hK6 => ?_)
    refine c_reg ?_ -- region 4 parse.go:178
    refine wl (ro_move rfl) ?_
    refine wl (ro_nilCheck rfl) ?_
    refine wl (ro_fieldAddr (k := 1) rfl fo_359_1) ?_
    refine wl (ro_loadB rfl sc_290 (by assumption) rfl) ?_
    refine wl (ro_eqNilN rfl ifc_290) ?_
    refine wl (ro_move rfl) ?_
    refine wlg_no rfl ?_
    refine wlg_no rfl ?_
    refine wlg_no rfl ?_
    refine wl (ro_pick rfl rfl rfl) ?_
    refine wl_nil (x_then (hK6 _ _ ?_))
    clear hK6 K6
    refine wc_condT rfl ?_
    refine c_seq (fun K7 hK7 => ?_)
    refine c_reg ?_ -- region 5 parse.go:179
    refine wl (ro_assign rfl) ?_
    refine wl_nil (x_then (hK7 _ _ ?_))
    clear hK7 K7
    refine c_ret (x_thenR ?_)
    refine bp_ret Tryz.results178 rfl ?_
    exact ⟨hF, rfl, hE4⟩
  · skip
    have hpe0 := hG.pe.cm (Cm.adv hG.pe)
    have hG1 := hG.hb (lv1 := lv + 1) (ρ1 := ρ - 1) hbsb14 hF hP2 hpe0 (by omega) (by show s.lo ≤ lv + 1; omega) (by omega)
    refine c_reg ?_ -- region 3 parse.go:177
    refine wl (ro_move rfl) ?_
    refine wl (ro_move rfl) ?_
    refine wl (ro_move rfl) ?_
    refine wl (ro_arith rfl rfl rfl (Go.IntWalk.i64_in _ (by omega))) ?_
    refine wl_call rfl en_180 (ih.e0 (r := 1) hG1 (by decide) (by decide) hq) ?_
    rintro v u3 ⟨F9, hT1, hP3⟩
    obtain ⟨T1, b1, rfl⟩ := hT1.ifc (.inl rfl)
    rw [HB.n63 hF.size h14.lt] at hT1
    obtain ⟨_, hSm1, _, hlv1⟩ := (par_q f).i0 hpe0 t1 s1 hq
    have hlo1 : s1.lo = s.lo := hSm1.lo
    have hpe1 := hpe0.cm hSm1.toCm
    replace hF := hF.trans' F9 (fun _ _ h => h)
    replace h14 := F9.blkO h14 (by omega)
    refine wl (ro_nilCheck rfl) ?_
    refine wl (ro_fieldAddr (k := 1) rfl fo_359_1) ?_
    refine wl_put rfl rfl rfl sz_290 h14 (by simp) (rfl) (fun w3 h14 F3 => ?_)
    have hcx_ := hG.cx.hb hbsb14 hF
    replace hF := hF.thenDrew.thenO F3 (by first | exact .inr (by omega) | exact .inl rfl | exact .inl (by assumption) | assumption)
    replace hT1 := hT1.hbput ((Fram.refl (one b14) _).thenDrew.thenO F3 (.inl rfl))
    have hP4 := hP3.far F3 (fun q => by have q : pb = b14 := q; omega)
    refine wl_nil (x_then (hK4 _ _ ?_))
    clear hK4 K4
    refine c_seq (fun K8 hK8 => ?_)
    refine c_seq (fun K9 hK9 => ?_)
    refine c_reg ?_ -- region 4 parse.go:178
    refine wl (ro_move rfl) ?_
    refine wl (ro_nilCheck rfl) ?_
    refine wl (ro_fieldAddr (k := 1) rfl fo_359_1) ?_
    refine wl (ro_loadB rfl sc_290 (by assumption) rfl) ?_
    refine wl (ro_eqNilI rfl ifc_290) ?_
    refine wl (ro_move rfl) ?_
    refine wlg_yes rfl (ro_move rfl) ?_
    refine wlg_call rfl rfl en_222 (expect222 hP4 (hG.cx.hb hbsb14 hF).tk hne (by decide)) ?_
    rintro _ u4 ⟨rfl, hq4, F9⟩
    have hcx_ := hG.cx.hb hbsb14 hF
    replace hF := hF.trans' F9 (fun _ _ h => h)
    replace h14 := F9.blkO h14 (by omega)
    replace hT1 := hT1.thru hcx_ F9
    refine wlg_yes rfl (ro_not rfl) ?_
    refine wl (ro_pick rfl rfl rfl) ?_
    refine wl_nil (x_then (hK9 _ _ ?_))
    clear hK9 K9
    refine wc_cond rfl (fun hc33 => ?_) (fun hc33 => ?_)
    · try simp only [decide_eq_true_eq, decide_eq_false_iff_not, Bool.not_eq_true', Bool.not_eq_false', Bool.not_eq_eq_eq_not, Bool.not_true, Bool.not_false, beq_iff_eq, bne_iff_ne, ne_eq, beq_eq_false_iff_ne, bne_eq_false_iff_eq, gt_iff_lt, ge_iff_le, Int.not_lt, Int.not_le] at hc33
      refine c_seq (fun K10 hK10 => ?_)
      refine c_reg ?_ -- region 5 parse.go:179
      refine wl (ro_assign rfl) ?_
      refine wl_nil (x_then (hK10 _ _ ?_))
      clear hK10 K10
      refine c_ret (x_thenR ?_)
      refine bp_ret Tryz.results178 rfl ?_
      rw [if_neg (by omega)] at hR hq4
      cases failP_inj hR
      exact ⟨hF, rfl, hq4⟩
    · try simp only [decide_eq_true_eq, decide_eq_false_iff_not, Bool.not_eq_true', Bool.not_eq_false', Bool.not_eq_eq_eq_not, Bool.not_true, Bool.not_false, beq_iff_eq, bne_iff_ne, ne_eq, beq_eq_false_iff_ne, bne_eq_false_iff_eq, gt_iff_lt, ge_iff_le, Int.not_lt, Int.not_le] at hc33
      refine c_skip (x_then (hK8 _ _ ?_))
      clear hK8 K8
      refine forget [(0, _), (1, _), (5, _)] ⟨rfl, rfl, rfl, trivial⟩ (fun e => ?_)
      refine c_seq (fun K11 hK11 => ?_)
      rw [if_pos (by omega)] at hR hq4
      refine c_reg ?_ -- region 6 parse.go:181
      refine wl (ro_assign rfl) ?_
      refine wl_nil (x_then (hK11 _ _ ?_))
      clear hK11 K11
      refine forget [(0, _), (1, _), (5, _)] ⟨rfl, rfl, rfl, trivial⟩ (fun e => ?_)
      refine c_seq (fun K12 hK12 => ?_)
      rcases bdP_some hR with ⟨⟨ee, pp⟩, hq, rfl⟩ | ⟨t2, s2, hq, hR⟩
      · skip
        have hpe2 := hpe1.cm (Cm.adv hpe1)
        have hG2 := hG.hb (lv1 := lv + 1) (ρ1 := ρ - 1) hbsb14 hF hq4 hpe2 (by omega) (by show s1.lo ≤ lv + 1; omega) (by omega)
        refine c_reg ?_ -- region 7 parse.go:182
        refine wl (ro_move rfl) ?_
        refine wl (ro_move rfl) ?_
        refine wl (ro_move rfl) ?_
        refine wl (ro_arith rfl rfl rfl (Go.IntWalk.i64_in _ (by omega))) ?_
        refine wl_call rfl en_76 (ih.b6 hG2 hq) ?_
        rintro v u5 ⟨F9, rfl, hE⟩
        have hcx_ := hG.cx.hb hbsb14 hF
        replace hF := hF.trans' F9 (fun _ _ h => h)
        replace h14 := F9.blkO h14 (by omega)
        replace hT1 := hT1.thru hcx_ F9
        refine wl (ro_move rfl) ?_
        refine wl (ro_extract rfl rfl) ?_
        refine wl (ro_extract rfl rfl) ?_
        refine wl (ro_nilCheck rfl) ?_
        refine wl (ro_fieldAddr (k := 2) rfl fo_359_2) ?_
        refine wl_put rfl rfl rfl sz_188 h14 (by simp) (rfl) (fun w4 h14 F4 => ?_)
        have hcx_ := hG.cx.hb hbsb14 hF
        replace hF := hF.thenDrew.thenO F4 (by first | exact .inr (by omega) | exact .inl rfl | exact .inl (by assumption) | assumption)
        replace hT1 := hT1.hbput ((Fram.refl (one b14) _).thenDrew.thenO F4 (.inl rfl))
        have hE6 := hE.far F4 (fun q => by have q : pb = b14 := q; omega)
        refine wl (ro_assign rfl) ?_
        refine wl_nil (x_then (hK12 _ _ ?_))
        clear hK12 K12
        refine c_seq (fun K13 hK13 => ?_)
        refine c_seq (fun K14 hK14 => ?_)
        refine c_reg ?_ -- region 8 parse.go:183
        refine wl (ro_move rfl) ?_
        refine wl (ro_not rfl) ?_
        refine wl_nil (x_then (hK14 _ _ ?_))
        clear hK14 K14
        refine wc_condT rfl ?_
        refine c_seq (fun K15 hK15 => ?_)
        refine c_reg ?_ -- region 9 parse.go:184
        refine wl (ro_assign rfl) ?_
        refine wl_nil (x_then (hK15 _ _ ?_))
        clear hK15 K15
        refine c_ret (x_thenR ?_)
        refine bp_ret Tryz.results178 rfl ?_
        exact ⟨hF, rfl, hE6⟩
      · skip
        have hpe2 := hpe1.cm (Cm.adv hpe1)
        have hG2 := hG.hb (lv1 := lv + 1) (ρ1 := ρ - 1) hbsb14 hF hq4 hpe2 (by omega) (by show s1.lo ≤ lv + 1; omega) (by omega)
        refine c_reg ?_ -- region 7 parse.go:182
        refine wl (ro_move rfl) ?_
        refine wl (ro_move rfl) ?_
        refine wl (ro_move rfl) ?_
        refine wl (ro_arith rfl rfl rfl (Go.IntWalk.i64_in _ (by omega))) ?_
        refine wl_call rfl en_76 (ih.b6 hG2 hq) ?_
        rintro v u5 ⟨F9, U2, us2, rfl, hU2, hT2, hP5⟩
        rw [HB.n63 hF.size h14.lt] at hU2 hT2
        obtain ⟨ua2, uc2, rfl⟩ := OwT.form hU2
        obtain ⟨_, _, hSm2, _⟩ := (par_q f).i6 hpe2 t2 s2 hq
        have hlo2 : s2.lo = s1.lo := hSm2.lo
        have hpe3 := hpe2.cm hSm2.toCm
        have hcx_ := hG.cx.hb hbsb14 hF
        replace hF := hF.trans' F9 (fun _ _ h => h)
        replace h14 := F9.blkO h14 (by omega)
        replace hT1 := hT1.thru hcx_ F9
        refine wl (ro_move rfl) ?_
        refine wl (ro_extract rfl rfl) ?_
        refine wl (ro_extract rfl rfl) ?_
        refine wl (ro_nilCheck rfl) ?_
        refine wl (ro_fieldAddr (k := 2) rfl fo_359_2) ?_
        refine wl_put rfl rfl rfl sz_188 h14 (by simp) (rfl) (fun w5 h14 F5 => ?_)
        have hcx_ := hG.cx.hb hbsb14 hF
        replace hF := hF.thenDrew.thenO F5 (by first | exact .inr (by omega) | exact .inl rfl | exact .inl (by assumption) | assumption)
        replace hT1 := hT1.hbput ((Fram.refl (one b14) _).thenDrew.thenO F5 (.inl rfl))
        replace hT2 := hT2.hbput ((Fram.refl (one b14) _).thenDrew.thenO F5 (.inl rfl))
        replace hU2 := hU2.hbput ((Fram.refl (one b14) _).thenDrew.thenO F5 (.inl rfl))
        have hP6 := hP5.far F5 (fun q => by have q : pb = b14 := q; omega)
        obtain ⟨i6, hX6, hi6, hs6⟩ := hP6.ex
        unfold prc at hX6
        have hkk : s2.k = s2.cur.k := rfl
        refine wl (ro_assign rfl) ?_
        refine wl_nil (x_then (hK12 _ _ ?_))
        clear hK12 K12
        refine c_seq (fun K16 hK16 => ?_)
        refine c_seq (fun K17 hK17 => ?_)
        refine c_reg ?_ -- region 8 parse.go:183
        refine wl (ro_move rfl) ?_
        refine wl (ro_not rfl) ?_
        refine wl_nil (x_then (hK17 _ _ ?_))
        clear hK17 K17
        refine wc_condF rfl ?_
        refine c_skip (x_then (hK16 _ _ ?_))
        clear hK16 K16
        refine c_seq (fun K18 hK18 => ?_)
        refine c_seq (fun K19 hK19 => ?_)
        refine c_reg ?_ -- region 10 parse.go:186
        refine wl (ro_move rfl) ?_
        refine wl (ro_nilCheck rfl) ?_
        refine wl (ro_fieldAddr (k := 2) rfl fo_186_2) ?_
        refine wl (ro_fieldAddr (k := 0) rfl fo_182_0) ?_
        refine wl (ro_loadB rfl sc_180 (by assumption) rfl) ?_
        refine wl (ro_cmp rfl rfl rfl) ?_
        refine wl_nil (x_then (hK19 _ _ ?_))
        clear hK19 K19
        refine wc_cond rfl (fun hc51 => ?_) (fun hc51 => ?_)
        · try simp only [decide_eq_true_eq, decide_eq_false_iff_not, Bool.not_eq_true', Bool.not_eq_false', Bool.not_eq_eq_eq_not, Bool.not_true, Bool.not_false, beq_iff_eq, bne_iff_ne, ne_eq, beq_eq_false_iff_ne, bne_eq_false_iff_eq, gt_iff_lt, ge_iff_le, Int.not_lt, Int.not_le] at hc51
          rw [if_pos (by omega)] at hR
          refine c_seq (fun K20 hK20 => ?_)
          rcases bdP_some hR with ⟨⟨ee, pp⟩, hq, rfl⟩ | ⟨t3, s3, hq, hR⟩
          · skip
            have hG3 := hG.hb (lv1 := lv + 1) (ρ1 := ρ - 1) hbsb14 hF hP6 hpe3 (by omega) (by omega) (by omega)
            refine c_reg ?_ -- region 11 parse.go:187
            refine wl (ro_move rfl) ?_
            refine wl (ro_move rfl) ?_
            refine wl (ro_arith rfl rfl rfl (Go.IntWalk.i64_in _ (by omega))) ?_
            refine wl_call rfl en_178 (ih.i9 hG3 (by omega) (by omega) hq) ?_
            rintro v u7 ⟨F9, rfl, hE⟩
            have hcx_ := hG.cx.hb hbsb14 hF
            replace hF := hF.trans' F9 (fun _ _ h => h)
            replace h14 := F9.blkO h14 (by omega)
            replace hT1 := hT1.thru hcx_ F9
            replace hT2 := hT2.thru hcx_ F9
            replace hU2 := hU2.thru hcx_ F9
            refine wl (ro_assign rfl) ?_
            refine wl_nil (x_then (hK20 _ _ ?_))
            clear hK20 K20
            refine c_seq (fun K21 hK21 => ?_)
            refine c_seq (fun K22 hK22 => ?_)
            refine c_reg ?_ -- region 12 parse.go:188
            refine wl (ro_move rfl) ?_
            refine wl (ro_eqNilN rfl ifc_237) ?_
            refine wl_nil (x_then (hK22 _ _ ?_))
            clear hK22 K22
            refine wc_condT rfl ?_
            refine c_seq (fun K23 hK23 => ?_)
            refine c_reg ?_ -- region 13 parse.go:189
            refine wl (ro_assign rfl) ?_
            refine wl_nil (x_then (hK23 _ _ ?_))
            clear hK23 K23
            refine c_ret (x_thenR (x_thenR ?_))
            refine bp_ret Tryz.results178 rfl ?_
            exact ⟨hF, rfl, hE⟩
          · skip
            have hG3 := hG.hb (lv1 := lv + 1) (ρ1 := ρ - 1) hbsb14 hF hP6 hpe3 (by omega) (by omega) (by omega)
            refine c_reg ?_ -- region 11 parse.go:187
            refine wl (ro_move rfl) ?_
            refine wl (ro_move rfl) ?_
            refine wl (ro_arith rfl rfl rfl (Go.IntWalk.i64_in _ (by omega))) ?_
            refine wl_call rfl en_178 (ih.i9 hG3 (by omega) (by omega) hq) ?_
            rintro v u7 ⟨F9, hT3, hP7⟩
            obtain ⟨T3, b3, rfl⟩ := hT3.ifc (.inr rfl)
            rw [HB.n63 hF.size h14.lt] at hT3
            have hcx_ := hG.cx.hb hbsb14 hF
            replace hF := hF.trans' F9 (fun _ _ h => h)
            replace h14 := F9.blkO h14 (by omega)
            replace hT1 := hT1.thru hcx_ F9
            replace hT2 := hT2.thru hcx_ F9
            replace hU2 := hU2.thru hcx_ F9
            refine wl (ro_assign rfl) ?_
            refine wl_nil (x_then (hK20 _ _ ?_))
            clear hK20 K20
            refine c_seq (fun K24 hK24 => ?_)
            refine c_seq (fun K25 hK25 => ?_)
            refine c_reg ?_ -- region 12 parse.go:188
            refine wl (ro_move rfl) ?_
            refine wl (ro_eqNilI rfl ifc_237) ?_
            refine wl_nil (x_then (hK25 _ _ ?_))
            clear hK25 K25
            refine wc_condF rfl ?_
            refine c_skip (x_then (hK24 _ _ ?_))
            clear hK24 K24
            refine forget [(5, _), (7, _)] ⟨rfl, rfl, trivial⟩ (fun e => ?_)
            refine c_seq (fun K26 hK26 => ?_)
            refine c_reg ?_ -- region 14 parse.go:191
            refine wl (ro_move rfl) ?_
            refine wl (ro_move rfl) ?_
            refine wl_bs1 rfl rfl se_188 zx_242 (fun bs u8 hbs hon F8 => ?_)
            have hV : SlM u8 (HB b14 (N63 w ow)) (.slice (some ⟨bs, 0, none⟩) 1 1) [.iface T3 (ptr b3)] := ⟨hon, fun c hc => by have hc : some bs = some c := hc; injection hc with hc; subst hc; exact HB.new (by have := hF.size; omega) (by have := h14.lt; omega)⟩
            replace hP7 := hP7.farN F8
            replace hF := hF.thenDrew.thenN F8
            replace h14 := F8.blkN h14
            replace hT1 := hT1.thruN ((Fram.refl none' _).thenDrew.thenN F8)
            replace hT2 := hT2.thruN ((Fram.refl none' _).thenDrew.thenN F8)
            replace hU2 := hU2.thruN ((Fram.refl none' _).thenDrew.thenN F8)
            replace hT3 := hT3.thruN ((Fram.refl none' _).thenDrew.thenN F8)
            refine wl (ro_nilCheck rfl) ?_
            refine wl (ro_fieldAddr (k := 3) rfl fo_359_3) ?_
            refine wl_put rfl rfl rfl sz_188 h14 (by simp) (rfl) (fun w6 h14 F6 => ?_)
            have hcx_ := hG.cx.hb hbsb14 hF
            replace hF := hF.thenDrew.thenO F6 (by first | exact .inr (by omega) | exact .inl rfl | exact .inl (by assumption) | assumption)
            replace hT1 := hT1.hbput ((Fram.refl (one b14) _).thenDrew.thenO F6 (.inl rfl))
            replace hT2 := hT2.hbput ((Fram.refl (one b14) _).thenDrew.thenO F6 (.inl rfl))
            replace hU2 := hU2.hbput ((Fram.refl (one b14) _).thenDrew.thenO F6 (.inl rfl))
            replace hT3 := hT3.hbput ((Fram.refl (one b14) _).thenDrew.thenO F6 (.inl rfl))
            replace hV := hV.hbput ((Fram.refl (one b14) _).thenDrew.thenO F6 (.inl rfl))
            have hP8 := hP7.far F6 (fun q => by have q : pb = b14 := q; omega)
            refine wl_nil (x_then (hK26 _ _ ?_))
            clear hK26 K26
            refine forget [(5, _)] ⟨rfl, trivial⟩ (fun e => ?_)
            refine c_seq (fun K27 hK27 => ?_)
            refine c_reg ?_ -- region 15 parse.go:192
            refine wl (ro_move rfl) ?_
            refine wl (ro_mkIface rfl (by kernel_rfl)) ?_
            refine wl (ro_assign rfl) ?_
            refine wl_nil (x_then (hK27 _ _ ?_))
            clear hK27 K27
            refine c_ret (x_thenR ?_)
            refine bp_ret Tryz.results178 rfl ?_
            cases okP_inj hR
            exact ⟨hF, TrM_iff.2 ⟨b14, _, _, _, us2, _, _, rfl, ⟨h14, nw_new hbsb14⟩, hT1.hbdone, hU2.hbdone, hT2.hbdone, hV.hbdone, TrM_scons.2 ⟨_, [], rfl, hT3.hbdone, TrM_snil.2 rfl⟩⟩, hP8⟩
        · try simp only [decide_eq_true_eq, decide_eq_false_iff_not, Bool.not_eq_true', Bool.not_eq_false', Bool.not_eq_eq_eq_not, Bool.not_true, Bool.not_false, beq_iff_eq, bne_iff_ne, ne_eq, beq_eq_false_iff_ne, bne_eq_false_iff_eq, gt_iff_lt, ge_iff_le, Int.not_lt, Int.not_le] at hc51
          rw [if_neg (by omega)] at hR
          refine c_skip (x_then (hK18 _ _ ?_))
          clear hK18 K18
          refine c_seq (fun K28 hK28 => ?_)
          refine c_seq (fun K29 hK29 => ?_)
          refine c_reg ?_ -- region 16 parse.go:194
          refine wl (ro_move rfl) ?_
          refine wl_call rfl en_221 (accept221 hP6 (hG.cx.hb hbsb14 hF).tk hne (by decide)) ?_
          rintro _ u7 ⟨rfl, hq7, F9⟩
          have hcx_ := hG.cx.hb hbsb14 hF
          replace hF := hF.trans' F9 (fun _ _ h => h)
          replace h14 := F9.blkO h14 (by omega)
          replace hT1 := hT1.thru hcx_ F9
          replace hT2 := hT2.thru hcx_ F9
          replace hU2 := hU2.thru hcx_ F9
          refine wl_nil (x_then (hK29 _ _ ?_))
          clear hK29 K29
          refine wc_cond rfl (fun hc66 => ?_) (fun hc66 => ?_)
          · try simp only [decide_eq_true_eq, decide_eq_false_iff_not, Bool.not_eq_true', Bool.not_eq_false', Bool.not_eq_eq_eq_not, Bool.not_true, Bool.not_false, beq_iff_eq, bne_iff_ne, ne_eq, beq_eq_false_iff_ne, bne_eq_false_iff_eq, gt_iff_lt, ge_iff_le, Int.not_lt, Int.not_le] at hc66
            rw [if_pos (by omega)] at hR hq7
            refine c_seq (fun K30 hK30 => ?_)
            rcases bdP_some hR with ⟨⟨ee, pp⟩, hq, rfl⟩ | ⟨t3, s3, hq, hR⟩
            · skip
              have hG3 := hG.hb (lv1 := lv + 1) (ρ1 := ρ - 1) hbsb14 hF hq7 (hpe3.cm (Cm.adv hpe3)) (by omega) (by show s2.lo ≤ lv + 1; omega) (by omega)
              refine c_reg ?_ -- region 17 parse.go:195
              refine wl (ro_move rfl) ?_
              refine wl (ro_move rfl) ?_
              refine wl (ro_move rfl) ?_
              refine wl (ro_arith rfl rfl rfl (Go.IntWalk.i64_in _ (by omega))) ?_
              refine wl_call rfl en_76 (ih.b6 hG3 hq) ?_
              rintro v u8 ⟨F9, rfl, hE⟩
              have hcx_ := hG.cx.hb hbsb14 hF
              replace hF := hF.trans' F9 (fun _ _ h => h)
              replace h14 := F9.blkO h14 (by omega)
              replace hT1 := hT1.thru hcx_ F9
              replace hT2 := hT2.thru hcx_ F9
              replace hU2 := hU2.thru hcx_ F9
              refine wl (ro_move rfl) ?_
              refine wl (ro_extract rfl rfl) ?_
              refine wl (ro_extract rfl rfl) ?_
              refine wl (ro_nilCheck rfl) ?_
              refine wl (ro_fieldAddr (k := 3) rfl fo_359_3) ?_
              refine wl_put rfl rfl rfl sz_188 h14 (by simp) (rfl) (fun w7 h14 F7 => ?_)
              have hcx_ := hG.cx.hb hbsb14 hF
              replace hF := hF.thenDrew.thenO F7 (by first | exact .inr (by omega) | exact .inl rfl | exact .inl (by assumption) | assumption)
              replace hT1 := hT1.hbput ((Fram.refl (one b14) _).thenDrew.thenO F7 (.inl rfl))
              replace hT2 := hT2.hbput ((Fram.refl (one b14) _).thenDrew.thenO F7 (.inl rfl))
              replace hU2 := hU2.hbput ((Fram.refl (one b14) _).thenDrew.thenO F7 (.inl rfl))
              have hE9 := hE.far F7 (fun q => by have q : pb = b14 := q; omega)
              refine wl (ro_assign rfl) ?_
              refine wl_nil (x_then (hK30 _ _ ?_))
              clear hK30 K30
              refine forget [(0, _), (5, _), (6, _)] ⟨rfl, rfl, rfl, trivial⟩ (fun e => ?_)
              refine c_seq (fun K31 hK31 => ?_)
              refine c_reg ?_ -- region 18 parse.go:196
              refine wl (ro_move rfl) ?_
              refine wl (ro_not rfl) ?_
              refine wl_nil (x_then (hK31 _ _ ?_))
              clear hK31 K31
              refine wc_condT rfl ?_
              refine c_seq (fun K32 hK32 => ?_)
              refine c_reg ?_ -- region 19 parse.go:197
              refine wl (ro_assign rfl) ?_
              refine wl_nil (x_then (hK32 _ _ ?_))
              clear hK32 K32
              refine c_ret (x_thenR ?_)
              refine bp_ret Tryz.results178 rfl ?_
              exact ⟨hF, rfl, hE9⟩
            · skip
              have hG3 := hG.hb (lv1 := lv + 1) (ρ1 := ρ - 1) hbsb14 hF hq7 (hpe3.cm (Cm.adv hpe3)) (by omega) (by show s2.lo ≤ lv + 1; omega) (by omega)
              refine c_reg ?_ -- region 17 parse.go:195
              refine wl (ro_move rfl) ?_
              refine wl (ro_move rfl) ?_
              refine wl (ro_move rfl) ?_
              refine wl (ro_arith rfl rfl rfl (Go.IntWalk.i64_in _ (by omega))) ?_
              refine wl_call rfl en_76 (ih.b6 hG3 hq) ?_
              rintro v u8 ⟨F9, U3, us3, rfl, hU3, hT3, hP8⟩
              rw [HB.n63 hF.size h14.lt] at hU3 hT3
              obtain ⟨ua3, uc3, rfl⟩ := OwT.form hU3
              have hcx_ := hG.cx.hb hbsb14 hF
              replace hF := hF.trans' F9 (fun _ _ h => h)
              replace h14 := F9.blkO h14 (by omega)
              replace hT1 := hT1.thru hcx_ F9
              replace hT2 := hT2.thru hcx_ F9
              replace hU2 := hU2.thru hcx_ F9
              refine wl (ro_move rfl) ?_
              refine wl (ro_extract rfl rfl) ?_
              refine wl (ro_extract rfl rfl) ?_
              refine wl (ro_nilCheck rfl) ?_
              refine wl (ro_fieldAddr (k := 3) rfl fo_359_3) ?_
              refine wl_put rfl rfl rfl sz_188 h14 (by simp) (rfl) (fun w8 h14 F8 => ?_)
              have hcx_ := hG.cx.hb hbsb14 hF
              replace hF := hF.thenDrew.thenO F8 (by first | exact .inr (by omega) | exact .inl rfl | exact .inl (by assumption) | assumption)
              replace hT1 := hT1.hbput ((Fram.refl (one b14) _).thenDrew.thenO F8 (.inl rfl))
              replace hT2 := hT2.hbput ((Fram.refl (one b14) _).thenDrew.thenO F8 (.inl rfl))
              replace hU2 := hU2.hbput ((Fram.refl (one b14) _).thenDrew.thenO F8 (.inl rfl))
              replace hT3 := hT3.hbput ((Fram.refl (one b14) _).thenDrew.thenO F8 (.inl rfl))
              replace hU3 := hU3.hbput ((Fram.refl (one b14) _).thenDrew.thenO F8 (.inl rfl))
              have hP9 := hP8.far F8 (fun q => by have q : pb = b14 := q; omega)
              refine wl (ro_assign rfl) ?_
              refine wl_nil (x_then (hK30 _ _ ?_))
              clear hK30 K30
              refine forget [(0, _), (5, _), (6, _)] ⟨rfl, rfl, rfl, trivial⟩ (fun e => ?_)
              refine c_seq (fun K33 hK33 => ?_)
              refine c_reg ?_ -- region 18 parse.go:196
              refine wl (ro_move rfl) ?_
              refine wl (ro_not rfl) ?_
              refine wl_nil (x_then (hK33 _ _ ?_))
              clear hK33 K33
              refine wc_condF rfl ?_
              refine c_skip (x_then (hK28 _ _ ?_))
              clear hK28 K28
              refine c_seq (fun K34 hK34 => ?_)
              refine c_seq (fun K35 hK35 => ?_)
              refine c_reg ?_ -- region 20 parse.go:200
              refine wl (ro_move rfl) ?_
              refine wl_call rfl en_222 (expect222 hP9 (hG.cx.hb hbsb14 hF).tk hne (by decide)) ?_
              rintro _ u9 ⟨rfl, hq9, F9⟩
              have hcx_ := hG.cx.hb hbsb14 hF
              replace hF := hF.trans' F9 (fun _ _ h => h)
              replace h14 := F9.blkO h14 (by omega)
              replace hT1 := hT1.thru hcx_ F9
              replace hT2 := hT2.thru hcx_ F9
              replace hU2 := hU2.thru hcx_ F9
              replace hT3 := hT3.thru hcx_ F9
              replace hU3 := hU3.thru hcx_ F9
              refine wl (ro_not rfl) ?_
              refine wl_nil (x_then (hK35 _ _ ?_))
              clear hK35 K35
              refine wc_cond rfl (fun hc81 => ?_) (fun hc81 => ?_)
              · try simp only [decide_eq_true_eq, decide_eq_false_iff_not, Bool.not_eq_true', Bool.not_eq_false', Bool.not_eq_eq_eq_not, Bool.not_true, Bool.not_false, beq_iff_eq, bne_iff_ne, ne_eq, beq_eq_false_iff_ne, bne_eq_false_iff_eq, gt_iff_lt, ge_iff_le, Int.not_lt, Int.not_le] at hc81
                refine c_seq (fun K36 hK36 => ?_)
                refine c_reg ?_ -- region 21 parse.go:201
                refine wl (ro_assign rfl) ?_
                refine wl_nil (x_then (hK36 _ _ ?_))
                clear hK36 K36
                refine c_ret (x_thenR ?_)
                refine bp_ret Tryz.results178 rfl ?_
                rw [if_neg (by omega)] at hR hq9
                cases failP_inj hR
                exact ⟨hF, rfl, hq9⟩
              · try simp only [decide_eq_true_eq, decide_eq_false_iff_not, Bool.not_eq_true', Bool.not_eq_false', Bool.not_eq_eq_eq_not, Bool.not_true, Bool.not_false, beq_iff_eq, bne_iff_ne, ne_eq, beq_eq_false_iff_ne, bne_eq_false_iff_eq, gt_iff_lt, ge_iff_le, Int.not_lt, Int.not_le] at hc81
                refine c_skip (x_then (hK34 _ _ ?_))
                clear hK34 K34
                refine forget [(5, _)] ⟨rfl, trivial⟩ (fun e => ?_)
                refine c_seq (fun K37 hK37 => ?_)
                refine c_reg ?_ -- region 22 parse.go:203
                refine wl (ro_move rfl) ?_
                refine wl (ro_mkIface rfl (by kernel_rfl)) ?_
                refine wl (ro_assign rfl) ?_
                refine wl_nil (x_then (hK37 _ _ ?_))
                clear hK37 K37
                refine c_ret ?_
                refine bp_ret Tryz.results178 rfl ?_
                rw [if_pos (by omega)] at hR hq9
                cases okP_inj hR
                exact ⟨hF, TrM_iff.2 ⟨b14, _, _, _, us2, _, us3, rfl, ⟨h14, nw_new hbsb14⟩, hT1.hbdone, hU2.hbdone, hT2.hbdone, hU3.hbdone, hT3.hbdone⟩, hq9⟩
          · try simp only [decide_eq_true_eq, decide_eq_false_iff_not, Bool.not_eq_true', Bool.not_eq_false', Bool.not_eq_eq_eq_not, Bool.not_true, Bool.not_false, beq_iff_eq, bne_iff_ne, ne_eq, beq_eq_false_iff_ne, bne_eq_false_iff_eq, gt_iff_lt, ge_iff_le, Int.not_lt, Int.not_le] at hc66
            rw [if_neg (by omega)] at hR hq7
            subst hq7
            refine c_skip (x_then (hK28 _ _ ?_))
            clear hK28 K28
            refine c_seq (fun K38 hK38 => ?_)
            refine c_seq (fun K39 hK39 => ?_)
            refine c_reg ?_ -- region 20 parse.go:200
            refine wl (ro_move rfl) ?_
            refine wl_call rfl en_222 (expect222 hP6 (hG.cx.hb hbsb14 hF).tk hne (by decide)) ?_
            rintro _ u9 ⟨rfl, hq9, F9⟩
            have hcx_ := hG.cx.hb hbsb14 hF
            replace hF := hF.trans' F9 (fun _ _ h => h)
            replace h14 := F9.blkO h14 (by omega)
            replace hT1 := hT1.thru hcx_ F9
            replace hT2 := hT2.thru hcx_ F9
            replace hU2 := hU2.thru hcx_ F9
            refine wl (ro_not rfl) ?_
            refine wl_nil (x_then (hK39 _ _ ?_))
            clear hK39 K39
            refine wc_cond rfl (fun hc81 => ?_) (fun hc81 => ?_)
            · try simp only [decide_eq_true_eq, decide_eq_false_iff_not, Bool.not_eq_true', Bool.not_eq_false', Bool.not_eq_eq_eq_not, Bool.not_true, Bool.not_false, beq_iff_eq, bne_iff_ne, ne_eq, beq_eq_false_iff_ne, bne_eq_false_iff_eq, gt_iff_lt, ge_iff_le, Int.not_lt, Int.not_le] at hc81
              refine c_seq (fun K40 hK40 => ?_)
              refine c_reg ?_ -- region 21 parse.go:201
              refine wl (ro_assign rfl) ?_
              refine wl_nil (x_then (hK40 _ _ ?_))
              clear hK40 K40
              refine c_ret (x_thenR ?_)
              refine bp_ret Tryz.results178 rfl ?_
              rw [if_neg (by omega)] at hR hq9
              cases failP_inj hR
              exact ⟨hF, rfl, hq9⟩
            · try simp only [decide_eq_true_eq, decide_eq_false_iff_not, Bool.not_eq_true', Bool.not_eq_false', Bool.not_eq_eq_eq_not, Bool.not_true, Bool.not_false, beq_iff_eq, bne_iff_ne, ne_eq, beq_eq_false_iff_ne, bne_eq_false_iff_eq, gt_iff_lt, ge_iff_le, Int.not_lt, Int.not_le] at hc81
              refine c_skip (x_then (hK38 _ _ ?_))
              clear hK38 K38
              refine forget [(5, _)] ⟨rfl, trivial⟩ (fun e => ?_)
              refine c_seq (fun K41 hK41 => ?_)
              refine c_reg ?_ -- region 22 parse.go:203
              refine wl (ro_move rfl) ?_
              refine wl (ro_mkIface rfl (by kernel_rfl)) ?_
              refine wl (ro_assign rfl) ?_
              refine wl_nil (x_then (hK41 _ _ ?_))
              clear hK41 K41
              refine c_ret ?_
              refine bp_ret Tryz.results178 rfl ?_
              rw [if_pos (by omega)] at hR hq9
              cases okP_inj hR
              exact ⟨hF, TrM_iff.2 ⟨b14, _, _, _, us2, _, [], rfl, ⟨h14, nw_new hbsb14⟩, hT1.hbdone, hU2.hbdone, hT2.hbdone, OwT.nil _ _ _ _ _, TrM_snil.2 rfl⟩, hq9⟩
end Go.Proofs.Qxb6500568aGreatDoor
