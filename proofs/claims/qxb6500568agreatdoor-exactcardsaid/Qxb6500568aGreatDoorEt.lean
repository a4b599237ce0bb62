import Derived.Test.Qxb6500568aGreatDoorEs
/- The real parser: loops. -/
namespace Go.Proofs.Qxb6500568aGreatDoor
open Ieee
set_option linter.unusedVariables false
set_option linter.unusedSimpArgs false

section
variable {w u u' : World} {ow : Nat → Nat} {pb tb cap b c : Nat} {L : List Tok} {md : Nat} {t : Tr} {vs cs : List Value} {V : Value} {ty : TypeId} {ts : List Tr}
theorem ElM.thru (h : ElM u ow md ts vs) (hc : PCx u ow pb tb cap L) (f : Fram (Go.Proofs.Qxb6500568aGreatDoor.one pb) u u') : ElM u' ow md ts vs := ElM.far2 f (fun b hb _ e => by have e : b = pb := e; rw [e, hc.pt] at hb; omega) (fun _ _ h => h) h
theorem ElM.thruN (h : ElM u ow md ts vs) (f : Fram none' u u') : ElM u' ow md ts vs := ElM.far2 f (fun _ _ _ h => h) (fun _ _ h => h) h
theorem NB.to64 (h : NB u ow c cs ty) (hne : ¬ own1 V c) : NB u (T64 V ow) c cs ty := ⟨h.1, by unfold T64; rw [if_neg (show ¬ V.ownBlock = some c from hne)]; exact h.2⟩
theorem NB.of64 (h : NB u (T64 V ow) c cs ty) : NB u ow c cs ty := ⟨h.1, T64.of h.2⟩
theorem NB.app64 (h : NB u (T64 V ow) c cs ty) (f : Fram (own1 V) u u') : NB u' (T64 V ow) c cs ty := h.far2 f (fun b hb _ => T64.ne hb) (fun _ _ h => h)
end
set_option maxHeartbeats 8000000 in
theorem loopFor179 {f : Nat} {w : World} {ow : Nat → Nat} {pb tb cap : Nat} {L : List Tok} {s : PS} {lv : Nat} {ρ : Int} {R : PO} (ih : PAll f) (hG : PGo w ow pb tb cap L s lv ρ) (hlv : lv ≤ 12) (hR : pFor (parP f) lv s = some R) : Ret Tryz.prog 179 [ptr pb, .int .i64 ρ] w (Rs1 w ow pb tb cap L 2 R) := by
  have hP := hG.pr
  have hne := hG.cx.ne
  have hρ := hG.rm
  have hPl := hG.cx.pl
  have hl13 := hG.l13
  have hglo := hG.lo
  have hF : Fram (one pb) w w := Fram.refl _ _
  have hmpb : one pb pb := rfl
  unfold pFor expP at hR
  have hkk : s.k = s.cur.k := rfl
  have hcxf := fun {u : World} (g : Fram (one pb) w u) => hG.cx.go g
  have hpe0 := hG.pe.cm (Cm.adv hG.pe)
  have hpe1 := hpe0.cm (Cm.adv hpe0)
  have hpe2 := hpe1.cm (Cm.adv hpe1)
  have hpe3 := hpe2.cm (Cm.adv hpe2)
  have ea2 : s.adv.adv.al = s.al := rfl
  have ea3 : s.adv.adv.adv.adv.al = s.al := rfl
  refine ret_of Tryz.func179 rfl Tryz.ntmps179 rfl ?_
  refine c_seq (fun K1 hK1 => ?_)
  refine c_reg ?_ -- region 0 parse.go:207
  refine wl (ro_assign rfl) ?_
  refine wl_nil (x_then (hK1 _ _ ?_))
  clear hK1 K1
  refine forget [(0, _), (1, _)] ⟨rfl, rfl, trivial⟩ (fun e => ?_)
  refine c_seq (fun K2 hK2 => ?_)
  rcases nameP_or hR with ⟨ee, pp, rfl, hNF⟩ | ⟨hNK, hR⟩
  · skip
    refine c_reg ?_ -- region 1 parse.go:208
    refine wl (ro_move rfl) ?_
    refine wl_call rfl en_219 (name219F (x := 4) hNF hP hG.cx.tk hne (by decide)) ?_
    rintro _ u1 ⟨F9, rfl, hE⟩
    replace hF := hF.trans' F9 (fun _ _ h => h)
    refine wl (ro_assign rfl) ?_
    refine wl_nil (x_then (hK2 _ _ ?_))
    clear hK2 K2
    refine c_seq (fun K3 hK3 => ?_)
    refine c_seq (fun K4 hK4 => ?_)
    refine c_reg ?_ -- region 2 parse.go:209
    refine wl (ro_move rfl) ?_
    refine wl (ro_eqPtrNil rfl pt_305 rfl) ?_
    refine wl_nil (x_then (hK4 _ _ ?_))
    clear hK4 K4
    refine wc_condT rfl ?_
    refine c_seq (fun K5 hK5 => ?_)
    refine c_reg ?_ -- region 3 parse.go:210
    refine wl (ro_assign rfl) ?_
    refine wl_nil (x_then (hK5 _ _ ?_))
    clear hK5 K5
    refine c_ret (x_thenR ?_)
    refine bp_ret Tryz.results179 rfl ?_
    exact ⟨hF, rfl, hE⟩
  · skip
    refine c_reg ?_ -- region 1 parse.go:208
    refine wl (ro_move rfl) ?_
    refine wl_call rfl en_219 (name219K (x := 4) hNK hP hG.cx.tk hne (by decide)) ?_
    rintro _ u1 ⟨F9, b5, p5, rfl, hb5, h5, hP1⟩
    have hal1 : s.al + 4 ≤ 12 := by have := hNK.2; omega
    replace hF := hF.trans' F9 (fun _ _ h => h)
    have hN5 : NB u1 (N63 w ow) b5 [i64c p5, S s.cur.s] 349 := ⟨h5, nw_new hb5⟩
    refine wl (ro_assign rfl) ?_
    refine wl_nil (x_then (hK2 _ _ ?_))
    clear hK2 K2
    refine c_seq (fun K6 hK6 => ?_)
    refine c_seq (fun K7 hK7 => ?_)
    refine c_reg ?_ -- region 2 parse.go:209
    refine wl (ro_move rfl) ?_
    refine wl (ro_eqPtrNil rfl pt_305 rfl) ?_
    refine wl_nil (x_then (hK7 _ _ ?_))
    clear hK7 K7
    refine wc_condF rfl ?_
    refine c_skip (x_then (hK6 _ _ ?_))
    clear hK6 K6
    refine c_seq (fun K8 hK8 => ?_)
    refine c_seq (fun K9 hK9 => ?_)
    refine c_reg ?_ -- region 4 parse.go:212
    refine wl (ro_move rfl) ?_
    refine wl_call rfl en_221 (accept221 hP1 (hcxf hF).tk hne (by decide)) ?_
    rintro _ u2 ⟨rfl, hq2, F9⟩
    have hcx_ := hcxf hF
    replace hF := hF.trans' F9 (fun _ _ h => h)
    replace hN5 := hN5.thru hcx_ F9
    refine wl_nil (x_then (hK9 _ _ ?_))
    clear hK9 K9
    refine wc_cond rfl (fun hc21 => ?_) (fun hc21 => ?_)
    · try simp only [decide_eq_true_eq, decide_eq_false_iff_not, Bool.not_eq_true', Bool.not_eq_false', Bool.not_eq_eq_eq_not, Bool.not_true, Bool.not_false, beq_iff_eq, bne_iff_ne, ne_eq, beq_eq_false_iff_ne, bne_eq_false_iff_eq, gt_iff_lt, ge_iff_le, Int.not_lt, Int.not_le] at hc21
      rw [if_pos (by omega)] at hR hq2
      refine c_seq (fun K10 hK10 => ?_)
      rcases nameP_or hR with ⟨ee, pp, rfl, hNF⟩ | ⟨hNK2, hR⟩
      · skip
        refine c_reg ?_ -- region 5 parse.go:213
        refine wl (ro_move rfl) ?_
        refine wl_call rfl en_219 (name219F (x := 0) hNF hq2 (hcxf hF).tk hne (by decide)) ?_
        rintro _ u3 ⟨F9, rfl, hE⟩
        have hcx_ := hcxf hF
        replace hF := hF.trans' F9 (fun _ _ h => h)
        replace hN5 := hN5.thru hcx_ F9
        refine wl (ro_assign rfl) ?_
        refine wl_nil (x_then (hK10 _ _ ?_))
        clear hK10 K10
        refine c_seq (fun K11 hK11 => ?_)
        refine c_seq (fun K12 hK12 => ?_)
        refine c_reg ?_ -- region 6 parse.go:214
        refine wl (ro_move rfl) ?_
        refine wl (ro_eqPtrNil rfl pt_305 rfl) ?_
        refine wl (ro_move rfl) ?_
        refine wlg_no rfl ?_
        refine wlg_no rfl ?_
        refine wlg_no rfl ?_
        refine wl (ro_pick rfl rfl rfl) ?_
        refine wl_nil (x_then (hK12 _ _ ?_))
        clear hK12 K12
        refine wc_condT rfl ?_
        refine c_seq (fun K13 hK13 => ?_)
        refine c_reg ?_ -- region 7 parse.go:215
        refine wl (ro_assign rfl) ?_
        refine wl_nil (x_then (hK13 _ _ ?_))
        clear hK13 K13
        refine c_ret (x_thenR (x_thenR ?_))
        refine bp_ret Tryz.results179 rfl ?_
        exact ⟨hF, rfl, hE⟩
      · skip
        refine c_reg ?_ -- region 5 parse.go:213
        refine wl (ro_move rfl) ?_
        refine wl_call rfl en_219 (name219K (x := 0) hNK2 hq2 (hcxf hF).tk hne (by decide)) ?_
        rintro _ u3 ⟨F9, b6, p6, rfl, hb6, h6, hP3⟩
        have hbw6 := Nat.le_trans hF.size hb6
        have hcx_ := hcxf hF
        replace hF := hF.trans' F9 (fun _ _ h => h)
        replace hN5 := hN5.thru hcx_ F9
        have hN6 : NB u3 (N63 w ow) b6 [i64c p6, S s.adv.adv.cur.s] 349 := ⟨h6, nw_new hbw6⟩
        refine wl (ro_assign rfl) ?_
        refine wl_nil (x_then (hK10 _ _ ?_))
        clear hK10 K10
        refine c_seq (fun K14 hK14 => ?_)
        refine c_seq (fun K15 hK15 => ?_)
        refine c_reg ?_ -- region 6 parse.go:214
        refine wl (ro_move rfl) ?_
        refine wl (ro_eqPtrNil rfl pt_305 rfl) ?_
        refine wl (ro_move rfl) ?_
        refine wlg_yes rfl (ro_move rfl) ?_
        refine wlg_call rfl rfl en_222 (expect222 hP3 (hcxf hF).tk hne (by decide)) ?_
        rintro _ u4 ⟨rfl, hq4, F9⟩
        have hcx_ := hcxf hF
        replace hF := hF.trans' F9 (fun _ _ h => h)
        replace hN5 := hN5.thru hcx_ F9
        replace hN6 := hN6.thru hcx_ F9
        refine wlg_yes rfl (ro_not rfl) ?_
        refine wl (ro_pick rfl rfl rfl) ?_
        refine wl_nil (x_then (hK15 _ _ ?_))
        clear hK15 K15
        refine wc_cond rfl (fun hc30 => ?_) (fun hc30 => ?_)
        · try simp only [decide_eq_true_eq, decide_eq_false_iff_not, Bool.not_eq_true', Bool.not_eq_false', Bool.not_eq_eq_eq_not, Bool.not_true, Bool.not_false, beq_iff_eq, bne_iff_ne, ne_eq, beq_eq_false_iff_ne, bne_eq_false_iff_eq, gt_iff_lt, ge_iff_le, Int.not_lt, Int.not_le] at hc30
          refine c_seq (fun K16 hK16 => ?_)
          refine c_reg ?_ -- region 7 parse.go:215
          refine wl (ro_assign rfl) ?_
          refine wl_nil (x_then (hK16 _ _ ?_))
          clear hK16 K16
          refine c_ret (x_thenR (x_thenR ?_))
          refine bp_ret Tryz.results179 rfl ?_
          rw [if_neg (by omega)] at hR hq4
          cases failP_inj hR
          exact ⟨hF, rfl, hq4⟩
        · try simp only [decide_eq_true_eq, decide_eq_false_iff_not, Bool.not_eq_true', Bool.not_eq_false', Bool.not_eq_eq_eq_not, Bool.not_true, Bool.not_false, beq_iff_eq, bne_iff_ne, ne_eq, beq_eq_false_iff_ne, bne_eq_false_iff_eq, gt_iff_lt, ge_iff_le, Int.not_lt, Int.not_le] at hc30
          rw [if_pos (by omega)] at hR hq4
          have hG4 := hG.at (lv1 := lv + 1) (ρ1 := ρ - 1) hF hq4 hpe3 (by omega) (by show s.lo ≤ lv + 1; omega) (by omega)
          refine c_skip (x_then (hK14 _ _ ?_))
          clear hK14 K14
          refine forget [(0, _), (1, _), (5, _), (6, _)] ⟨rfl, rfl, rfl, rfl, trivial⟩ (fun e => ?_)
          refine c_seq (fun K17 hK17 => ?_)
          rcases bdP_some hR with ⟨⟨ee, pp⟩, hq, rfl⟩ | ⟨t1, s1, hq, hR⟩
          · skip
            refine c_reg ?_ -- region 8 parse.go:217
            refine wl (ro_move rfl) ?_
            refine wl (ro_move rfl) ?_
            refine wl (ro_arith rfl rfl rfl (Go.IntWalk.i64_in _ (by omega))) ?_
            refine wl_call rfl en_180 (ih.e0 (r := 1) hG4 (by decide) (by decide) hq) ?_
            rintro v u5 ⟨F9, rfl, hE⟩
            have hcx_ := hcxf hF
            replace hF := hF.trans' F9 (fun _ _ h => h)
            replace hN5 := hN5.thru hcx_ F9
            replace hN6 := hN6.thru hcx_ F9
            refine wl (ro_assign rfl) ?_
            refine wl_nil (x_then (hK17 _ _ ?_))
            clear hK17 K17
            refine c_seq (fun K18 hK18 => ?_)
            refine c_seq (fun K19 hK19 => ?_)
            refine c_reg ?_ -- region 9 parse.go:218
            refine wl (ro_move rfl) ?_
            refine wl (ro_eqNilN rfl ifc_290) ?_
            refine wl_nil (x_then (hK19 _ _ ?_))
            clear hK19 K19
            refine wc_condT rfl ?_
            refine c_seq (fun K20 hK20 => ?_)
            refine c_reg ?_ -- region 10 parse.go:219
            refine wl (ro_assign rfl) ?_
            refine wl_nil (x_then (hK20 _ _ ?_))
            clear hK20 K20
            refine c_ret (x_thenR (x_thenR ?_))
            refine bp_ret Tryz.results179 rfl ?_
            exact ⟨hF, rfl, hE⟩
          · skip
            refine c_reg ?_ -- region 8 parse.go:217
            refine wl (ro_move rfl) ?_
            refine wl (ro_move rfl) ?_
            refine wl (ro_arith rfl rfl rfl (Go.IntWalk.i64_in _ (by omega))) ?_
            refine wl_call rfl en_180 (ih.e0 (r := 1) hG4 (by decide) (by decide) hq) ?_
            rintro v u5 hr5
            have F9 := hr5.1
            obtain ⟨hF9, hT5, hP5⟩ := hr5.thru hF
            obtain ⟨TT, bb, rfl⟩ := hT5.ifc (.inl rfl)
            obtain ⟨_, hSm1, _, hlv1⟩ := (par_q f).i0 hpe3 t1 s1 hq
            have hal5 : s1.al = s.al := hSm1.al
            have hlo5 : s1.lo = s.lo := hSm1.lo
            have hcx_ := hcxf hF
            replace hF := hF.trans' F9 (fun _ _ h => h)
            replace hN5 := hN5.thru hcx_ F9
            replace hN6 := hN6.thru hcx_ F9
            refine wl (ro_assign rfl) ?_
            refine wl_nil (x_then (hK17 _ _ ?_))
            clear hK17 K17
            refine c_seq (fun K21 hK21 => ?_)
            refine c_seq (fun K22 hK22 => ?_)
            refine c_reg ?_ -- region 9 parse.go:218
            refine wl (ro_move rfl) ?_
            refine wl (ro_eqNilI rfl ifc_290) ?_
            refine wl_nil (x_then (hK22 _ _ ?_))
            clear hK22 K22
            refine wc_condF rfl ?_
            refine c_skip (x_then (hK21 _ _ ?_))
            clear hK21 K21
            refine forget [(0, _), (1, _), (5, _), (6, _), (7, _)] ⟨rfl, rfl, rfl, rfl, rfl, trivial⟩ (fun e => ?_)
            refine c_seq (fun K23 hK23 => ?_)
            rcases bdP_some hR with ⟨⟨ee, pp⟩, hq2', rfl⟩ | ⟨t9, s9, hq2', hR⟩
            · skip
              refine c_reg ?_ -- region 11 parse.go:221
              refine wl (ro_move rfl) ?_
              refine wl (ro_move rfl) ?_
              refine wl_call rfl en_181 (ih.d10 (r := 4) (hG.at (lv1 := lv) (ρ1 := ρ) hF hP5 (hpe3.cm hSm1.toCm) hl13 (by omega) hρ) hlv (by omega) hq2') ?_
              rintro v u6 ⟨F9, rfl, hE⟩
              have hcx_ := hcxf hF
              replace hF := hF.trans' F9 (fun _ _ h => h)
              replace hN5 := hN5.thru hcx_ F9
              replace hN6 := hN6.thru hcx_ F9
              replace hT5 := hT5.thru hcx_ F9
              refine wl (ro_move rfl) ?_
              refine wl (ro_extract rfl rfl) ?_
              refine wl (ro_extract rfl rfl) ?_
              refine wl (ro_assign rfl) ?_
              refine wl (ro_assign rfl) ?_
              refine wl_nil (x_then (hK23 _ _ ?_))
              clear hK23 K23
              refine c_seq (fun K24 hK24 => ?_)
              refine c_seq (fun K25 hK25 => ?_)
              refine c_reg ?_ -- region 12 parse.go:222
              refine wl (ro_move rfl) ?_
              refine wl (ro_not rfl) ?_
              refine wl_nil (x_then (hK25 _ _ ?_))
              clear hK25 K25
              refine wc_condT rfl ?_
              refine c_seq (fun K26 hK26 => ?_)
              refine c_reg ?_ -- region 13 parse.go:223
              refine wl (ro_assign rfl) ?_
              refine wl_nil (x_then (hK26 _ _ ?_))
              clear hK26 K26
              refine c_ret (x_thenR (x_thenR ?_))
              refine bp_ret Tryz.results179 rfl ?_
              exact ⟨hF, rfl, hE⟩
            · skip
              refine c_reg ?_ -- region 11 parse.go:221
              refine wl (ro_move rfl) ?_
              refine wl (ro_move rfl) ?_
              refine wl_call rfl en_181 (ih.d10 (r := 4) (hG.at (lv1 := lv) (ρ1 := ρ) hF hP5 (hpe3.cm hSm1.toCm) hl13 (by omega) hρ) hlv (by omega) hq2') ?_
              rintro v u6 hr6
              have F9 := hr6.1
              obtain ⟨hF9, U6, us6, rfl, hU6, hT6, hP6⟩ := hr6.thru hF
              obtain ⟨ua6, uc6, rfl⟩ := OwT.form hU6
              have hcx_ := hcxf hF
              replace hF := hF.trans' F9 (fun _ _ h => h)
              replace hN5 := hN5.thru hcx_ F9
              replace hN6 := hN6.thru hcx_ F9
              replace hT5 := hT5.thru hcx_ F9
              refine wl (ro_move rfl) ?_
              refine wl (ro_extract rfl rfl) ?_
              refine wl (ro_extract rfl rfl) ?_
              refine wl (ro_assign rfl) ?_
              refine wl (ro_assign rfl) ?_
              refine wl_nil (x_then (hK23 _ _ ?_))
              clear hK23 K23
              refine c_seq (fun K27 hK27 => ?_)
              refine c_seq (fun K28 hK28 => ?_)
              refine c_reg ?_ -- region 12 parse.go:222
              refine wl (ro_move rfl) ?_
              refine wl (ro_not rfl) ?_
              refine wl_nil (x_then (hK28 _ _ ?_))
              clear hK28 K28
              refine wc_condF rfl ?_
              refine c_skip (x_then (hK27 _ _ ?_))
              clear hK27 K27
              refine forget [(5, _), (6, _), (7, _), (8, _)] ⟨rfl, rfl, rfl, rfl, trivial⟩ (fun e => ?_)
              refine c_seq (fun K29 hK29 => ?_)
              refine c_reg ?_ -- region 14 parse.go:225
              refine wl (ro_move rfl) ?_
              refine wl (ro_mkIface rfl (by kernel_rfl)) ?_
              refine wl (ro_move rfl) ?_
              refine wl (ro_mkIface rfl (by kernel_rfl)) ?_
              refine wl_bs2 rfl rfl rfl rfl se_188 zx_242 (fun bs u8 hbs hon F8 => ?_)
              have hV : SlM u8 (N63 w ow) (.slice (some ⟨bs, 0, none⟩) 2 2) [.iface 305 (ptr b5), .iface 305 (ptr b6)] := ⟨hon, fun c hc => by have hc : some bs = some c := hc; injection hc with hc; subst hc; exact nw_new (by have := hF.size; omega)⟩
              replace hP6 := hP6.farN F8
              replace hF := hF.thenDrew.thenN F8
              replace hN5 := hN5.thruN ((Fram.refl none' _).thenDrew.thenN F8)
              replace hN6 := hN6.thruN ((Fram.refl none' _).thenDrew.thenN F8)
              replace hT5 := hT5.thruN ((Fram.refl none' _).thenDrew.thenN F8)
              replace hU6 := hU6.thruN ((Fram.refl none' _).thenDrew.thenN F8)
              replace hT6 := hT6.thruN ((Fram.refl none' _).thenDrew.thenN F8)
              refine wl (ro_move rfl) ?_
              refine wl (ro_move rfl) ?_
              refine wl (ro_build rfl bld_362_0_1_2) ?_
              refine wl_box rfl rfl (fun b53 w1 hbb53 h53 F1 => ?_)
              have hbsb53 := Nat.le_trans hF.size hbb53
              replace hF := hF.thenDrew.thenN F1
              replace hN5 := hN5.thruN ((Fram.refl none' _).thenDrew.thenN F1)
              replace hN6 := hN6.thruN ((Fram.refl none' _).thenDrew.thenN F1)
              replace hT5 := hT5.thruN ((Fram.refl none' _).thenDrew.thenN F1)
              replace hU6 := hU6.thruN ((Fram.refl none' _).thenDrew.thenN F1)
              replace hT6 := hT6.thruN ((Fram.refl none' _).thenDrew.thenN F1)
              replace hV := hV.thruN ((Fram.refl none' _).thenDrew.thenN F1)
              replace hP6 := hP6.farN (F1)
              refine wl (ro_mkIface rfl (by kernel_rfl)) ?_
              refine wl (ro_assign rfl) ?_
              refine wl_nil (x_then (hK29 _ _ ?_))
              clear hK29 K29
              refine c_ret (x_thenR ?_)
              refine bp_ret Tryz.results179 rfl ?_
              cases okP_inj hR
              exact ⟨hF, TrM_forIn.2 ⟨b53, _, _, _, _, us6, rfl, ⟨h53, nw_new hbsb53⟩, hV, ⟨b5, p5, _, rfl, hN5, b6, p6, _, rfl, hN6, rfl⟩, hT5, hU6, hT6⟩, hP6⟩
    · try simp only [decide_eq_true_eq, decide_eq_false_iff_not, Bool.not_eq_true', Bool.not_eq_false', Bool.not_eq_eq_eq_not, Bool.not_true, Bool.not_false, beq_iff_eq, bne_iff_ne, ne_eq, beq_eq_false_iff_ne, bne_eq_false_iff_eq, gt_iff_lt, ge_iff_le, Int.not_lt, Int.not_le] at hc21
      rw [if_neg (by omega)] at hR hq2
      subst hq2
      refine c_skip (x_then (hK8 _ _ ?_))
      clear hK8 K8
      refine c_seq (fun K30 hK30 => ?_)
      refine c_seq (fun K31 hK31 => ?_)
      refine c_reg ?_ -- region 15 parse.go:227
      refine wl (ro_move rfl) ?_
      refine wl_call rfl en_222 (expect222 hP1 (hcxf hF).tk hne (by decide)) ?_
      rintro _ u3 ⟨rfl, hq3, F9⟩
      have hcx_ := hcxf hF
      replace hF := hF.trans' F9 (fun _ _ h => h)
      replace hN5 := hN5.thru hcx_ F9
      refine wl (ro_not rfl) ?_
      refine wl_nil (x_then (hK31 _ _ ?_))
      clear hK31 K31
      refine wc_cond rfl (fun hc57 => ?_) (fun hc57 => ?_)
      · try simp only [decide_eq_true_eq, decide_eq_false_iff_not, Bool.not_eq_true', Bool.not_eq_false', Bool.not_eq_eq_eq_not, Bool.not_true, Bool.not_false, beq_iff_eq, bne_iff_ne, ne_eq, beq_eq_false_iff_ne, bne_eq_false_iff_eq, gt_iff_lt, ge_iff_le, Int.not_lt, Int.not_le] at hc57
        refine c_seq (fun K32 hK32 => ?_)
        refine c_reg ?_ -- region 16 parse.go:228
        refine wl (ro_assign rfl) ?_
        refine wl_nil (x_then (hK32 _ _ ?_))
        clear hK32 K32
        refine c_ret (x_thenR ?_)
        refine bp_ret Tryz.results179 rfl ?_
        rw [if_neg (by omega)] at hR hq3
        cases failP_inj hR
        exact ⟨hF, rfl, hq3⟩
      · try simp only [decide_eq_true_eq, decide_eq_false_iff_not, Bool.not_eq_true', Bool.not_eq_false', Bool.not_eq_eq_eq_not, Bool.not_true, Bool.not_false, beq_iff_eq, bne_iff_ne, ne_eq, beq_eq_false_iff_ne, bne_eq_false_iff_eq, gt_iff_lt, ge_iff_le, Int.not_lt, Int.not_le] at hc57
        rw [if_pos (by omega)] at hR hq3
        have hG3 := hG.at (lv1 := lv + 1) (ρ1 := ρ - 1) hF hq3 hpe1 (by omega) (by show s.lo ≤ lv + 1; omega) (by omega)
        refine c_skip (x_then (hK30 _ _ ?_))
        clear hK30 K30
        refine forget [(0, _), (1, _), (5, _)] ⟨rfl, rfl, rfl, trivial⟩ (fun e => ?_)
        refine c_seq (fun K33 hK33 => ?_)
        rcases bdP_some hR with ⟨⟨ee, pp⟩, hq, rfl⟩ | ⟨t1, s1, hq, hR⟩
        · skip
          refine c_reg ?_ -- region 17 parse.go:230
          refine wl (ro_move rfl) ?_
          refine wl (ro_move rfl) ?_
          refine wl (ro_arith rfl rfl rfl (Go.IntWalk.i64_in _ (by omega))) ?_
          refine wl_call rfl en_180 (ih.e0 (r := 1) hG3 (by decide) (by decide) hq) ?_
          rintro v u4 ⟨F9, rfl, hE⟩
          have hcx_ := hcxf hF
          replace hF := hF.trans' F9 (fun _ _ h => h)
          replace hN5 := hN5.thru hcx_ F9
          refine wl (ro_assign rfl) ?_
          refine wl_nil (x_then (hK33 _ _ ?_))
          clear hK33 K33
          refine c_seq (fun K34 hK34 => ?_)
          refine c_seq (fun K35 hK35 => ?_)
          refine c_reg ?_ -- region 18 parse.go:231
          refine wl (ro_move rfl) ?_
          refine wl (ro_eqNilN rfl ifc_290) ?_
          refine wl (ro_move rfl) ?_
          refine wlg_no rfl ?_
          refine wlg_no rfl ?_
          refine wlg_no rfl ?_
          refine wl (ro_pick rfl rfl rfl) ?_
          refine wl_nil (x_then (hK35 _ _ ?_))
          clear hK35 K35
          refine wc_condT rfl ?_
          refine c_seq (fun K36 hK36 => ?_)
          refine c_reg ?_ -- region 19 parse.go:232
          refine wl (ro_assign rfl) ?_
          refine wl_nil (x_then (hK36 _ _ ?_))
          clear hK36 K36
          refine c_ret (x_thenR ?_)
          refine bp_ret Tryz.results179 rfl ?_
          exact ⟨hF, rfl, hE⟩
        · skip
          refine c_reg ?_ -- region 17 parse.go:230
          refine wl (ro_move rfl) ?_
          refine wl (ro_move rfl) ?_
          refine wl (ro_arith rfl rfl rfl (Go.IntWalk.i64_in _ (by omega))) ?_
          refine wl_call rfl en_180 (ih.e0 (r := 1) hG3 (by decide) (by decide) hq) ?_
          rintro v u4 hr4
          have F9 := hr4.1
          obtain ⟨hF9, hT4, hP4⟩ := hr4.thru hF
          obtain ⟨T4, b4, rfl⟩ := hT4.ifc (.inl rfl)
          obtain ⟨_, hSm1, _, hlv1⟩ := (par_q f).i0 hpe1 t1 s1 hq
          have hal4 : s1.al = s.al := hSm1.al
          have hlo4 : s1.lo = s.lo := hSm1.lo
          have hpe4 := hpe1.cm hSm1.toCm
          have hpe5 := hpe4.cm (Cm.adv hpe4)
          have hcx_ := hcxf hF
          replace hF := hF.trans' F9 (fun _ _ h => h)
          replace hN5 := hN5.thru hcx_ F9
          refine wl (ro_assign rfl) ?_
          refine wl_nil (x_then (hK33 _ _ ?_))
          clear hK33 K33
          refine c_seq (fun K37 hK37 => ?_)
          refine c_seq (fun K38 hK38 => ?_)
          refine c_reg ?_ -- region 18 parse.go:231
          refine wl (ro_move rfl) ?_
          refine wl (ro_eqNilI rfl ifc_290) ?_
          refine wl (ro_move rfl) ?_
          refine wlg_yes rfl (ro_move rfl) ?_
          refine wlg_call rfl rfl en_222 (expect222 hP4 (hcxf hF).tk hne (by decide)) ?_
          rintro _ u5 ⟨rfl, hq5, F9⟩
          have hcx_ := hcxf hF
          replace hF := hF.trans' F9 (fun _ _ h => h)
          replace hN5 := hN5.thru hcx_ F9
          replace hT4 := hT4.thru hcx_ F9
          refine wlg_yes rfl (ro_not rfl) ?_
          refine wl (ro_pick rfl rfl rfl) ?_
          refine wl_nil (x_then (hK38 _ _ ?_))
          clear hK38 K38
          refine wc_cond rfl (fun hc68 => ?_) (fun hc68 => ?_)
          · try simp only [decide_eq_true_eq, decide_eq_false_iff_not, Bool.not_eq_true', Bool.not_eq_false', Bool.not_eq_eq_eq_not, Bool.not_true, Bool.not_false, beq_iff_eq, bne_iff_ne, ne_eq, beq_eq_false_iff_ne, bne_eq_false_iff_eq, gt_iff_lt, ge_iff_le, Int.not_lt, Int.not_le] at hc68
            refine c_seq (fun K39 hK39 => ?_)
            refine c_reg ?_ -- region 19 parse.go:232
            refine wl (ro_assign rfl) ?_
            refine wl_nil (x_then (hK39 _ _ ?_))
            clear hK39 K39
            refine c_ret (x_thenR ?_)
            refine bp_ret Tryz.results179 rfl ?_
            rw [if_neg (by omega)] at hR hq5
            cases failP_inj hR
            exact ⟨hF, rfl, hq5⟩
          · try simp only [decide_eq_true_eq, decide_eq_false_iff_not, Bool.not_eq_true', Bool.not_eq_false', Bool.not_eq_eq_eq_not, Bool.not_true, Bool.not_false, beq_iff_eq, bne_iff_ne, ne_eq, beq_eq_false_iff_ne, bne_eq_false_iff_eq, gt_iff_lt, ge_iff_le, Int.not_lt, Int.not_le] at hc68
            rw [if_pos (by omega)] at hR hq5
            have hG5 := hG.at (lv1 := lv + 1) (ρ1 := ρ - 1) hF hq5 hpe5 (by omega) (by show s1.lo ≤ lv + 1; omega) (by omega)
            refine c_skip (x_then (hK37 _ _ ?_))
            clear hK37 K37
            refine forget [(0, _), (1, _), (5, _), (10, _)] ⟨rfl, rfl, rfl, rfl, trivial⟩ (fun e => ?_)
            refine c_seq (fun K40 hK40 => ?_)
            rcases bdP_some hR with ⟨⟨ee, pp⟩, hq, rfl⟩ | ⟨t2, s2, hq, hR⟩
            · skip
              refine c_reg ?_ -- region 20 parse.go:234
              refine wl (ro_move rfl) ?_
              refine wl (ro_move rfl) ?_
              refine wl (ro_arith rfl rfl rfl (Go.IntWalk.i64_in _ (by omega))) ?_
              refine wl_call rfl en_180 (ih.e0 (r := 1) hG5 (by decide) (by decide) hq) ?_
              rintro v u6 ⟨F9, rfl, hE⟩
              have hcx_ := hcxf hF
              replace hF := hF.trans' F9 (fun _ _ h => h)
              replace hN5 := hN5.thru hcx_ F9
              replace hT4 := hT4.thru hcx_ F9
              refine wl (ro_assign rfl) ?_
              refine wl_nil (x_then (hK40 _ _ ?_))
              clear hK40 K40
              refine c_seq (fun K41 hK41 => ?_)
              refine c_seq (fun K42 hK42 => ?_)
              refine c_reg ?_ -- region 21 parse.go:235
              refine wl (ro_move rfl) ?_
              refine wl (ro_eqNilN rfl ifc_290) ?_
              refine wl_nil (x_then (hK42 _ _ ?_))
              clear hK42 K42
              refine wc_condT rfl ?_
              refine c_seq (fun K43 hK43 => ?_)
              refine c_reg ?_ -- region 22 parse.go:236
              refine wl (ro_assign rfl) ?_
              refine wl_nil (x_then (hK43 _ _ ?_))
              clear hK43 K43
              refine c_ret (x_thenR ?_)
              refine bp_ret Tryz.results179 rfl ?_
              exact ⟨hF, rfl, hE⟩
            · skip
              refine c_reg ?_ -- region 20 parse.go:234
              refine wl (ro_move rfl) ?_
              refine wl (ro_move rfl) ?_
              refine wl (ro_arith rfl rfl rfl (Go.IntWalk.i64_in _ (by omega))) ?_
              refine wl_call rfl en_180 (ih.e0 (r := 1) hG5 (by decide) (by decide) hq) ?_
              rintro v u6 hr6
              have F9 := hr6.1
              obtain ⟨hF9, hT6, hP6⟩ := hr6.thru hF
              obtain ⟨T6, b6, rfl⟩ := hT6.ifc (.inl rfl)
              obtain ⟨_, hSm2, _, hlv2⟩ := (par_q f).i0 hpe5 t2 s2 hq
              have hal6 : s2.al = s1.al := hSm2.al
              have hlo6 : s2.lo = s1.lo := hSm2.lo
              have hpe6 := hpe5.cm hSm2.toCm
              have hpe7 := hpe6.cm (Cm.adv hpe6)
              have hcx_ := hcxf hF
              replace hF := hF.trans' F9 (fun _ _ h => h)
              replace hN5 := hN5.thru hcx_ F9
              replace hT4 := hT4.thru hcx_ F9
              refine wl (ro_assign rfl) ?_
              refine wl_nil (x_then (hK40 _ _ ?_))
              clear hK40 K40
              refine c_seq (fun K44 hK44 => ?_)
              refine c_seq (fun K45 hK45 => ?_)
              refine c_reg ?_ -- region 21 parse.go:235
              refine wl (ro_move rfl) ?_
              refine wl (ro_eqNilI rfl ifc_290) ?_
              refine wl_nil (x_then (hK45 _ _ ?_))
              clear hK45 K45
              refine wc_condF rfl ?_
              refine c_skip (x_then (hK44 _ _ ?_))
              clear hK44 K44
              refine forget [(0, _), (1, _), (5, _), (10, _), (11, _)] ⟨rfl, rfl, rfl, rfl, rfl, trivial⟩ (fun e => ?_)
              refine c_seq (fun K46 hK46 => ?_)
              refine c_reg ?_ -- region 23 parse.go:238
              refine wl (ro_move rfl) ?_
              refine wl (ro_move rfl) ?_
              refine wl_bs2 rfl rfl rfl rfl se_188 zx_242 (fun bs u8 hbs hon F8 => ?_)
              have hl5 : b5 < bs := Nat.lt_of_lt_of_le hN5.1.lt hbs
              have hwbs : w.heap.size ≤ bs := by have := hF.size; omega
              have hold : ∀ c, c < bs → ¬ own1 (.slice (some ⟨bs, 0, none⟩) 2 2) c := fun c hc q => by have q : some bs = some c := q; injection q with q; omega
              have hU : LsM w ow u8 0 (.slice (some ⟨bs, 0, none⟩) 2 2) [t1, t2] [.iface T4 (ptr b4), .iface T6 (ptr b6)] := ⟨hon, fun c hc => by have hc : some bs = some c := hc; injection hc with hc; omega, ⟨_, _, rfl, hT4.far2 F8 (fun _ _ _ h => h) (fun c hc q => by unfold T64; rw [if_neg (show ¬ Value.ownBlock (.slice (some ⟨bs, 0, none⟩) 2 2) = some c from hold c (Nat.lt_of_lt_of_le hc hbs))]; exact q), _, _, rfl, hT6.far2 F8 (fun _ _ _ h => h) (fun c hc q => by unfold T64; rw [if_neg (show ¬ Value.ownBlock (.slice (some ⟨bs, 0, none⟩) 2 2) = some c from hold c (Nat.lt_of_lt_of_le hc hbs))]; exact q), rfl⟩⟩
              replace hP6 := hP6.farN F8
              replace hF := hF.thenDrew.thenN F8
              replace hN5 := hN5.thruN ((Fram.refl none' _).thenDrew.thenN F8)
              replace hT4 := hT4.thruN ((Fram.refl none' _).thenDrew.thenN F8)
              replace hT6 := hT6.thruN ((Fram.refl none' _).thenDrew.thenN F8)
              replace hN5 := hN5.to64 (hold b5 hl5)
              replace hcxf := fun {u : World} (g : Fram (one pb) w u) => hG.cx.far g hU.xt
              refine wl (ro_assign rfl) ?_
              refine wl_nil (x_then (hK46 _ _ ?_))
              clear hK46 K46
              refine c_seq (fun K47 hK47 => ?_)
              refine c_seq (fun K48 hK48 => ?_)
              refine c_reg ?_ -- region 24 parse.go:239
              refine wl (ro_move rfl) ?_
              refine wl_call rfl en_221 (accept221 hP6 (hcxf hF).tk hne (by decide)) ?_
              rintro _ u9 ⟨rfl, hq9, F9⟩
              have hU0 := hU
              replace hU := hU.thru hG.cx hF F9
              have hcx_ := hcxf hF
              replace hF := hF.trans' F9 (fun _ _ h => h)
              replace hN5 := hN5.thru hcx_ F9
              refine wl_nil (x_then (hK48 _ _ ?_))
              clear hK48 K48
              refine wc_cond rfl (fun hc79 => ?_) (fun hc79 => ?_)
              · try simp only [decide_eq_true_eq, decide_eq_false_iff_not, Bool.not_eq_true', Bool.not_eq_false', Bool.not_eq_eq_eq_not, Bool.not_true, Bool.not_false, beq_iff_eq, bne_iff_ne, ne_eq, beq_eq_false_iff_ne, bne_eq_false_iff_eq, gt_iff_lt, ge_iff_le, Int.not_lt, Int.not_le] at hc79
                rw [if_pos (by omega)] at hR hq9
                refine c_seq (fun K49 hK49 => ?_)
                rcases bdP_some hR with ⟨⟨ee, pp⟩, hq, rfl⟩ | ⟨t3, s3, hq, hR⟩
                · skip
                  refine c_reg ?_ -- region 25 parse.go:240
                  refine wl (ro_move rfl) ?_
                  refine wl (ro_move rfl) ?_
                  refine wl (ro_arith rfl rfl rfl (Go.IntWalk.i64_in _ (by omega))) ?_
                  refine wl_call rfl en_180 (ih.e0 (r := 1) (lv := lv + 1) (ρ := ρ - 1) ⟨hcxf hF, hq9, hpe7, by omega, (by show s2.lo ≤ lv + 1; omega), by omega⟩ (by decide) (by decide) hq) ?_
                  rintro v u10 ⟨F9, rfl, hE⟩
                  have hcx_ := hcxf hF
                  replace hF := hF.trans' F9 (fun _ _ h => h)
                  replace hN5 := hN5.thru hcx_ F9
                  refine wl (ro_assign rfl) ?_
                  refine wl_nil (x_then (hK49 _ _ ?_))
                  clear hK49 K49
                  refine c_seq (fun K50 hK50 => ?_)
                  refine c_seq (fun K51 hK51 => ?_)
                  refine c_reg ?_ -- region 26 parse.go:241
                  refine wl (ro_move rfl) ?_
                  refine wl (ro_eqNilN rfl ifc_290) ?_
                  refine wl_nil (x_then (hK51 _ _ ?_))
                  clear hK51 K51
                  refine wc_condT rfl ?_
                  refine c_seq (fun K52 hK52 => ?_)
                  refine c_reg ?_ -- region 27 parse.go:242
                  refine wl (ro_assign rfl) ?_
                  refine wl_nil (x_then (hK52 _ _ ?_))
                  clear hK52 K52
                  refine c_ret (x_thenR (x_thenR ?_))
                  refine bp_ret Tryz.results179 rfl ?_
                  exact ⟨hF, rfl, hE⟩
                · skip
                  refine c_reg ?_ -- region 25 parse.go:240
                  refine wl (ro_move rfl) ?_
                  refine wl (ro_move rfl) ?_
                  refine wl (ro_arith rfl rfl rfl (Go.IntWalk.i64_in _ (by omega))) ?_
                  refine wl_call rfl en_180 (ih.e0 (r := 1) (lv := lv + 1) (ρ := ρ - 1) ⟨hcxf hF, hq9, hpe7, by omega, (by show s2.lo ≤ lv + 1; omega), by omega⟩ (by decide) (by decide) hq) ?_
                  rintro v u10 ⟨F9, hT7, hP7⟩
                  rw [hU.n63 hF.size] at hT7
                  obtain ⟨T7, b7, rfl⟩ := hT7.ifc (.inl rfl)
                  obtain ⟨_, hSm3, _, hlv3⟩ := (par_q f).i0 hpe7 t3 s3 hq
                  have hal7 : s3.al = s2.al := hSm3.al
                  have hlo7 : s3.lo = s2.lo := hSm3.lo
                  have hpen := hpe7.cm hSm3.toCm
                  have haln : s3.al + 4 ≤ 12 := by omega
                  have hlon : s3.lo ≤ lv := by omega
                  replace hU := hU.thru hG.cx hF F9
                  have hcx_ := hcxf hF
                  replace hF := hF.trans' F9 (fun _ _ h => h)
                  replace hN5 := hN5.thru hcx_ F9
                  refine wl (ro_assign rfl) ?_
                  refine wl_nil (x_then (hK49 _ _ ?_))
                  clear hK49 K49
                  refine c_seq (fun K53 hK53 => ?_)
                  refine c_seq (fun K54 hK54 => ?_)
                  refine c_reg ?_ -- region 26 parse.go:241
                  refine wl (ro_move rfl) ?_
                  refine wl (ro_eqNilI rfl ifc_290) ?_
                  refine wl_nil (x_then (hK54 _ _ ?_))
                  clear hK54 K54
                  refine wc_condF rfl ?_
                  refine c_skip (x_then (hK53 _ _ ?_))
                  clear hK53 K53
                  refine c_reg ?_ -- region 28 parse.go:244
                  refine wl (ro_move rfl) ?_
                  refine wl (ro_move rfl) ?_
                  refine wl_bsapp (t := 188) (et := 242) (k := 1) (cs := [.iface T7 (ptr b7)]) rfl rfl rfl rfl se_188 zx_242 by_242 rfl rfl rfl (by simp [Value.oneCell']) hU.own (by simp) (by simp) ?_
                  intro v' u11 hon5 G5 hnb
                  have hU5 := hU.app hF.size hT7 hon5 G5 hnb
                  have hnw := hU.new
                  replace hF := hF.trans' G5 (fun k hk q => by have := hnw k q; omega)
                  have hPn := hP7.far G5 (fun q => by have := hnw _ q; omega)
                  replace hN5 := (hN5.app64 G5).of64
                  replace hcxf := fun {u : World} (g : Fram (one pb) w u) => hG.cx.go g
                  obtain ⟨hV, hEl⟩ := hU5.done
                  obtain ⟨va, vc, rfl⟩ := OwT.form hV
                  skip
                  refine wl (ro_assign rfl) ?_
                  refine wl_nil (x_then (hK47 _ _ ?_))
                  clear hK47 K47
                  refine forget [(0, _), (1, _), (5, _), (12, _)] ⟨rfl, rfl, rfl, rfl, trivial⟩ (fun e => ?_)
                  refine c_seq (fun K55 hK55 => ?_)
                  rcases bdP_some hR with ⟨⟨ee, pp⟩, hq, rfl⟩ | ⟨t9, s9, hq, hR⟩
                  · skip
                    refine c_reg ?_ -- region 29 parse.go:246
                    refine wl (ro_move rfl) ?_
                    refine wl (ro_move rfl) ?_
                    refine wl_call rfl en_181 (ih.d10 (r := 4) (hG.at (lv1 := lv) (ρ1 := ρ) hF hPn hpen hl13 hlon hρ) hlv haln hq) ?_
                    rintro v u12 ⟨F9, rfl, hE⟩
                    have hcx_ := hcxf hF
                    replace hF := hF.trans' F9 (fun _ _ h => h)
                    replace hN5 := hN5.thru hcx_ F9
                    replace hV := hV.thru hcx_ F9
                    replace hEl := hEl.thru hcx_ F9
                    refine wl (ro_move rfl) ?_
                    refine wl (ro_extract rfl rfl) ?_
                    refine wl (ro_extract rfl rfl) ?_
                    refine wl (ro_assign rfl) ?_
                    refine wl (ro_assign rfl) ?_
                    refine wl_nil (x_then (hK55 _ _ ?_))
                    clear hK55 K55
                    refine c_seq (fun K56 hK56 => ?_)
                    refine c_seq (fun K57 hK57 => ?_)
                    refine c_reg ?_ -- region 30 parse.go:247
                    refine wl (ro_move rfl) ?_
                    refine wl (ro_not rfl) ?_
                    refine wl_nil (x_then (hK57 _ _ ?_))
                    clear hK57 K57
                    refine wc_condT rfl ?_
                    refine c_seq (fun K58 hK58 => ?_)
                    refine c_reg ?_ -- region 31 parse.go:248
                    refine wl (ro_assign rfl) ?_
                    refine wl_nil (x_then (hK58 _ _ ?_))
                    clear hK58 K58
                    refine c_ret (x_thenR ?_)
                    refine bp_ret Tryz.results179 rfl ?_
                    exact ⟨hF, rfl, hE⟩
                  · skip
                    refine c_reg ?_ -- region 29 parse.go:246
                    refine wl (ro_move rfl) ?_
                    refine wl (ro_move rfl) ?_
                    refine wl_call rfl en_181 (ih.d10 (r := 4) (hG.at (lv1 := lv) (ρ1 := ρ) hF hPn hpen hl13 hlon hρ) hlv haln hq) ?_
                    rintro v u12 hr12
                    have F9 := hr12.1
                    obtain ⟨hF9, U9, us9, rfl, hU9, hT9, hP9⟩ := hr12.thru hF
                    obtain ⟨ua9, uc9, rfl⟩ := OwT.form hU9
                    have hcx_ := hcxf hF
                    replace hF := hF.trans' F9 (fun _ _ h => h)
                    replace hN5 := hN5.thru hcx_ F9
                    replace hV := hV.thru hcx_ F9
                    replace hEl := hEl.thru hcx_ F9
                    refine wl (ro_move rfl) ?_
                    refine wl (ro_extract rfl rfl) ?_
                    refine wl (ro_extract rfl rfl) ?_
                    refine wl (ro_assign rfl) ?_
                    refine wl (ro_assign rfl) ?_
                    refine wl_nil (x_then (hK55 _ _ ?_))
                    clear hK55 K55
                    refine c_seq (fun K59 hK59 => ?_)
                    refine c_seq (fun K60 hK60 => ?_)
                    refine c_reg ?_ -- region 30 parse.go:247
                    refine wl (ro_move rfl) ?_
                    refine wl (ro_not rfl) ?_
                    refine wl_nil (x_then (hK60 _ _ ?_))
                    clear hK60 K60
                    refine wc_condF rfl ?_
                    refine c_skip (x_then (hK59 _ _ ?_))
                    clear hK59 K59
                    refine forget [(5, _), (12, _), (14, _)] ⟨rfl, rfl, rfl, trivial⟩ (fun e => ?_)
                    refine c_seq (fun K61 hK61 => ?_)
                    refine c_reg ?_ -- region 32 parse.go:250
                    refine wl (ro_move rfl) ?_
                    refine wl (ro_move rfl) ?_
                    refine wl (ro_move rfl) ?_
                    refine wl (ro_build rfl bld_365_0_1_2) ?_
                    refine wl_box rfl rfl (fun b102 w2 hbb102 h102 F2 => ?_)
                    have hbsb102 := Nat.le_trans hF.size hbb102
                    replace hF := hF.thenDrew.thenN F2
                    replace hN5 := hN5.thruN ((Fram.refl none' _).thenDrew.thenN F2)
                    replace hV := hV.thruN ((Fram.refl none' _).thenDrew.thenN F2)
                    replace hEl := hEl.thruN ((Fram.refl none' _).thenDrew.thenN F2)
                    replace hU9 := hU9.thruN ((Fram.refl none' _).thenDrew.thenN F2)
                    replace hT9 := hT9.thruN ((Fram.refl none' _).thenDrew.thenN F2)
                    replace hP9 := hP9.farN (F2)
                    refine wl (ro_mkIface rfl (by kernel_rfl)) ?_
                    refine wl (ro_assign rfl) ?_
                    refine wl_nil (x_then (hK61 _ _ ?_))
                    clear hK61 K61
                    refine c_ret ?_
                    refine bp_ret Tryz.results179 rfl ?_
                    cases okP_inj hR
                    obtain ⟨x1, r1, e1, k1, x2, r2, e2, k2, x3, r3, e3, k3, rfl⟩ := hEl
                    subst e3; subst e2
                    exact ⟨hF, TrM_for3.2 ⟨b102, b5, p5, _, _, us9, x1, x2, x3, rfl, ⟨h102, nw_new hbsb102⟩, hN5, by rw [← e1]; exact hV, k1, k2, k3, hU9, hT9⟩, hP9⟩
              · try simp only [decide_eq_true_eq, decide_eq_false_iff_not, Bool.not_eq_true', Bool.not_eq_false', Bool.not_eq_eq_eq_not, Bool.not_true, Bool.not_false, beq_iff_eq, bne_iff_ne, ne_eq, beq_eq_false_iff_ne, bne_eq_false_iff_eq, gt_iff_lt, ge_iff_le, Int.not_lt, Int.not_le] at hc79
                rw [if_neg (by omega)] at hR hq9
                subst hq9
                obtain ⟨hV, hEl⟩ := hU.done
                replace hN5 := hN5.of64
                replace hcxf := fun {u : World} (g : Fram (one pb) w u) => hG.cx.go g
                have hPn := hP6
                have hpen := hpe6
                have haln : s2.al + 4 ≤ 12 := by omega
                have hlon : s2.lo ≤ lv := by omega
                refine c_skip (x_then (hK47 _ _ ?_))
                clear hK47 K47
                refine forget [(0, _), (1, _), (5, _), (12, _)] ⟨rfl, rfl, rfl, rfl, trivial⟩ (fun e => ?_)
                refine c_seq (fun K62 hK62 => ?_)
                rcases bdP_some hR with ⟨⟨ee, pp⟩, hq, rfl⟩ | ⟨t9, s9, hq, hR⟩
                · skip
                  refine c_reg ?_ -- region 29 parse.go:246
                  refine wl (ro_move rfl) ?_
                  refine wl (ro_move rfl) ?_
                  refine wl_call rfl en_181 (ih.d10 (r := 4) (hG.at (lv1 := lv) (ρ1 := ρ) hF hPn hpen hl13 hlon hρ) hlv haln hq) ?_
                  rintro v u12 ⟨F9, rfl, hE⟩
                  have hcx_ := hcxf hF
                  replace hF := hF.trans' F9 (fun _ _ h => h)
                  replace hN5 := hN5.thru hcx_ F9
                  replace hV := hV.thru hcx_ F9
                  replace hEl := hEl.thru hcx_ F9
                  refine wl (ro_move rfl) ?_
                  refine wl (ro_extract rfl rfl) ?_
                  refine wl (ro_extract rfl rfl) ?_
                  refine wl (ro_assign rfl) ?_
                  refine wl (ro_assign rfl) ?_
                  refine wl_nil (x_then (hK62 _ _ ?_))
                  clear hK62 K62
                  refine c_seq (fun K63 hK63 => ?_)
                  refine c_seq (fun K64 hK64 => ?_)
                  refine c_reg ?_ -- region 30 parse.go:247
                  refine wl (ro_move rfl) ?_
                  refine wl (ro_not rfl) ?_
                  refine wl_nil (x_then (hK64 _ _ ?_))
                  clear hK64 K64
                  refine wc_condT rfl ?_
                  refine c_seq (fun K65 hK65 => ?_)
                  refine c_reg ?_ -- region 31 parse.go:248
                  refine wl (ro_assign rfl) ?_
                  refine wl_nil (x_then (hK65 _ _ ?_))
                  clear hK65 K65
                  refine c_ret (x_thenR ?_)
                  refine bp_ret Tryz.results179 rfl ?_
                  exact ⟨hF, rfl, hE⟩
                · skip
                  refine c_reg ?_ -- region 29 parse.go:246
                  refine wl (ro_move rfl) ?_
                  refine wl (ro_move rfl) ?_
                  refine wl_call rfl en_181 (ih.d10 (r := 4) (hG.at (lv1 := lv) (ρ1 := ρ) hF hPn hpen hl13 hlon hρ) hlv haln hq) ?_
                  rintro v u12 hr12
                  have F9 := hr12.1
                  obtain ⟨hF9, U9, us9, rfl, hU9, hT9, hP9⟩ := hr12.thru hF
                  obtain ⟨ua9, uc9, rfl⟩ := OwT.form hU9
                  have hcx_ := hcxf hF
                  replace hF := hF.trans' F9 (fun _ _ h => h)
                  replace hN5 := hN5.thru hcx_ F9
                  replace hV := hV.thru hcx_ F9
                  replace hEl := hEl.thru hcx_ F9
                  refine wl (ro_move rfl) ?_
                  refine wl (ro_extract rfl rfl) ?_
                  refine wl (ro_extract rfl rfl) ?_
                  refine wl (ro_assign rfl) ?_
                  refine wl (ro_assign rfl) ?_
                  refine wl_nil (x_then (hK62 _ _ ?_))
                  clear hK62 K62
                  refine c_seq (fun K66 hK66 => ?_)
                  refine c_seq (fun K67 hK67 => ?_)
                  refine c_reg ?_ -- region 30 parse.go:247
                  refine wl (ro_move rfl) ?_
                  refine wl (ro_not rfl) ?_
                  refine wl_nil (x_then (hK67 _ _ ?_))
                  clear hK67 K67
                  refine wc_condF rfl ?_
                  refine c_skip (x_then (hK66 _ _ ?_))
                  clear hK66 K66
                  refine forget [(5, _), (12, _), (14, _)] ⟨rfl, rfl, rfl, trivial⟩ (fun e => ?_)
                  refine c_seq (fun K68 hK68 => ?_)
                  refine c_reg ?_ -- region 32 parse.go:250
                  refine wl (ro_move rfl) ?_
                  refine wl (ro_move rfl) ?_
                  refine wl (ro_move rfl) ?_
                  refine wl (ro_build rfl bld_365_0_1_2) ?_
                  refine wl_box rfl rfl (fun b102 w3 hbb102 h102 F3 => ?_)
                  have hbsb102 := Nat.le_trans hF.size hbb102
                  replace hF := hF.thenDrew.thenN F3
                  replace hN5 := hN5.thruN ((Fram.refl none' _).thenDrew.thenN F3)
                  replace hV := hV.thruN ((Fram.refl none' _).thenDrew.thenN F3)
                  replace hEl := hEl.thruN ((Fram.refl none' _).thenDrew.thenN F3)
                  replace hU9 := hU9.thruN ((Fram.refl none' _).thenDrew.thenN F3)
                  replace hT9 := hT9.thruN ((Fram.refl none' _).thenDrew.thenN F3)
                  replace hP9 := hP9.farN (F3)
                  refine wl (ro_mkIface rfl (by kernel_rfl)) ?_
                  refine wl (ro_assign rfl) ?_
                  refine wl_nil (x_then (hK68 _ _ ?_))
                  clear hK68 K68
                  refine c_ret ?_
                  refine bp_ret Tryz.results179 rfl ?_
                  cases okP_inj hR
                  obtain ⟨x1, r1, e1, k1, x2, r2, e2, k2, rfl⟩ := hEl
                  subst e2
                  exact ⟨hF, TrM_for2.2 ⟨b102, b5, p5, _, _, us9, x1, x2, rfl, ⟨h102, nw_new hbsb102⟩, hN5, by rw [← e1]; exact hV, k1, k2, hU9, hT9⟩, hP9⟩
end Go.Proofs.Qxb6500568aGreatDoor
