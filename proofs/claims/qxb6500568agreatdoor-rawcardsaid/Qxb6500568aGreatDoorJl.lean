import Derived.Test.Qxb6500568aGreatDoorJk
/- The image of a text. -/
namespace Go.Proofs.Qxb6500568aGreatDoor
open Ieee
set_option linter.unusedVariables false
set_option linter.unusedSimpArgs false
set_option linter.unusedSectionVars false

def zT (cb gb : Nat) (sp dp V bv : Value) (t : Tr) : ZEnv := ⟨cb, gb, sp, dp, V, bv, arena t, paF (paL t 0)⟩
section
variable {w u u' : World} {ow ow1 ow2 : Nat → Nat} {sb cb : Nat} {E : ZEnv}
/-- what the image's road keeps. -/
structure IHold (w : World) (ow : Nat → Nat) (sb : Nat) (u : World) (ow1 : Nat → Nat) : Prop where
  x : Xt w ow ow1
  f : Fram (tg ow imT) w u
  s : SyV u ow1 sb
theorem IHold.one (h : IHold w ow sb u ow1) (hc : ow1 cb = 190) (f : Fram (one cb) u u') : IHold w ow sb u' ow1 :=
  ⟨h.x, h.f.trans' f (fun b hb z => by have z : b = cb := z; subst z; show imT (ow b); rw [← h.x b hb, hc]; right; left; unfold cpT; omega), h.s.far f (fun b q _ z => by have z : b = cb := z; subst z; unfold syT at q; omega) (Xt.refl _ _)⟩
theorem IHold.cp {d : Nat} (h : IHold w ow sb u ow1) (x : Xt { u with drawn := d } ow1 ow2) (f : Fram (tg ow1 cpT) { u with drawn := d } u') : IHold w ow sb u' ow2 :=
  ⟨h.x.trans h.f.size x, h.f.transG f (fun b hb z => by have z : cpT (ow1 b) := z; show imT (ow b); rw [← h.x b hb]; exact .inr (.inl z)), (h.s.far ((Fram.refl none' _).thenDrew) (fun _ _ _ q => q) (Xt.refl _ _)).far f (fun b q _ z => by have z : cpT (ow1 b) := z; unfold cpT at z; unfold syT at q; omega) x⟩
theorem IHold.ly {d : Nat} (h : IHold w ow sb u ow1) (hc : ow1 E.cb = 190) (x : Xt { u with drawn := d } ow1 ow2) (f : Fram (lyF E ow1) { u with drawn := d } u') : IHold w ow sb u' ow2 :=
  ⟨h.x.trans h.f.size x, h.f.transG f (fun b hb z => by
    show imT (ow b)
    rw [← h.x b hb]
    rcases z with z | z
    · right; left; rw [z, hc]; unfold cpT; omega
    · exact .inr (.inr z)), (h.s.far ((Fram.refl none' _).thenDrew) (fun _ _ _ q => q) (Xt.refl _ _)).far f (fun b q _ z => by
    unfold syT at q
    rcases z with z | z
    · rw [z] at q; omega
    · omega) x⟩
end
set_option maxHeartbeats 8000000 in
theorem Image24 {w : World} {ow : Nat → Nat} {cb sb : Nat} {dp : Value} {s : Str} (hP : CpR w ow cb (ptr sb) dp) (hS : SyV w ow sb) (hG : GV w ow) :
    Ret Tryz.prog 24 [ptr cb, S s] w (fun r w' => ImgR s r ∧ ∃ ow', Xt w ow ow' ∧ CpR w' ow' cb (ptr sb) dp ∧ SyV w' ow' sb ∧ Fram (tg ow imT) w w') := by
  obtain ⟨gb0, bv0, npv0, n00, xs00, R0, o0, hC, -⟩ := hP.ex
  have htc := hP.tc
  have hcl := hC.lt
  refine ret_of Tryz.func24 rfl Tryz.ntmps24 rfl ?_
  refine c_seq (fun K1 hK1 => ?_)
  refine c_reg ?_ -- region 0 comp.go:38
  refine wl (ro_assign rfl) ?_
  refine wl (ro_assign rfl) ?_
  refine wl (ro_assign rfl) ?_
  refine wl_nil (x_then (hK1 _ _ ?_))
  clear hK1 K1
  refine forget [(0, _), (1, _)] ⟨rfl, rfl, trivial⟩ (fun e => ?_)
  refine c_seq (fun K2 hK2 => ?_)
  rcases hpv : prsV s with ⟨e0, p0⟩ | ⟨t0, k0⟩
  · skip
    skip
    refine c_reg ?_ -- region 1 comp.go:39
    refine wl (ro_move rfl) ?_
    refine wl (ro_nilCheck rfl) ?_
    refine wl (ro_fieldAddr (k := 0) rfl fo_94_0) ?_
    refine wl (ro_loadB rfl sc_40 (hC) rfl) ?_
    refine wl (ro_move rfl) ?_
    refine wl_call rfl en_34 (Parse34 hS hG) ?_
    rintro v1 u1 ⟨ow1, x1, hS1, f1, hp1⟩
    unfold PrsR at hp1
    rw [hpv] at hp1
    have hp1 : v1 = .tuple #[.pointer none, i64c e0, i64c p0] := hp1
    subst hp1
    have hP1 := hP.far f1 (fun b q l z ↦ by have z : syT (ow b) := z; unfold syT at z; unfold cpT at q; omega) x1
    replace hC := f1.blkF hC (fun z ↦ by have z : syT (ow cb) := z; unfold syT at z; omega)
    refine wl (ro_move rfl) ?_
    refine wl (ro_extract rfl rfl) ?_
    refine wl (ro_extract rfl rfl) ?_
    refine wl (ro_extract rfl rfl) ?_
    refine wl (ro_assign rfl) ?_
    refine wl (ro_assign rfl) ?_
    refine wl (ro_assign rfl) ?_
    refine wl_nil (x_then (hK2 _ _ ?_))
    clear hK2 K2
    refine c_seq (fun K3 hK3 => ?_)
    refine c_seq (fun K4 hK4 => ?_)
    refine c_reg ?_ -- region 2 comp.go:40
    refine wl (ro_move rfl) ?_
    refine wl (ro_cmp rfl rfl rfl) ?_
    refine wl_nil (x_then (hK4 _ _ ?_))
    clear hK4 K4
    refine wc_cond rfl (fun hc22 => ?_) (fun hc22 => ?_)
    · try simp only [decide_eq_true_eq, decide_eq_false_iff_not, Bool.not_eq_true', Bool.not_eq_false', Bool.not_eq_eq_eq_not, Bool.not_true, Bool.not_false, beq_iff_eq, bne_iff_ne, ne_eq, beq_eq_false_iff_ne, bne_eq_false_iff_eq, gt_iff_lt, ge_iff_le, Int.not_lt, Int.not_le] at hc22
      refine c_seq (fun K5 hK5 => ?_)
      refine c_reg ?_ -- region 3 comp.go:41
      refine wl (ro_move rfl) ?_
      refine wl (ro_move rfl) ?_
      refine wl (ro_assign rfl) ?_
      refine wl (ro_assign rfl) ?_
      refine wl (ro_assign rfl) ?_
      refine wl_nil (x_then (hK5 _ _ ?_))
      clear hK5 K5
      refine c_ret (x_thenR ?_)
      refine bp_ret Tryz.results24 rfl ?_
      refine ⟨?_, ow1, x1, hP1, hS1, f1.mono (fun b _ q ↦ .inl q)⟩
      unfold ImgR
      rw [hpv]
      rfl
    · try simp only [decide_eq_true_eq, decide_eq_false_iff_not, Bool.not_eq_true', Bool.not_eq_false', Bool.not_eq_eq_eq_not, Bool.not_true, Bool.not_false, beq_iff_eq, bne_iff_ne, ne_eq, beq_eq_false_iff_ne, bne_eq_false_iff_eq, gt_iff_lt, ge_iff_le, Int.not_lt, Int.not_le] at hc22
      have := prsV_err hpv; omega
  · skip
    obtain ⟨hTO, h300⟩ := prsV_ok hpv
    have h12 := hTO.k12
    refine c_reg ?_ -- region 1 comp.go:39
    refine wl (ro_move rfl) ?_
    refine wl (ro_nilCheck rfl) ?_
    refine wl (ro_fieldAddr (k := 0) rfl fo_94_0) ?_
    refine wl (ro_loadB rfl sc_40 (hC) rfl) ?_
    refine wl (ro_move rfl) ?_
    refine wl_call rfl en_34 (Parse34 hS hG) ?_
    rintro v1 u1 ⟨ow0, x0, hS1, f1, hp1⟩
    unfold PrsR at hp1
    rw [hpv] at hp1
    obtain ⟨tp, rfl, ⟨V, Gp, hTp, hV, hGp, hGl⟩, htt⟩ := hp1
    obtain ⟨ow1, ho1⟩ : ∃ ow1, ow1 = cut66 u1 ow0 := ⟨_, rfl⟩
    have x9 : Xt u1 ow0 ow1 := by rw [ho1]; exact cut66_xt _ _
    have hd1 : ∀ b, u1.heap.size ≤ b → ow1 b = 66 := by rw [ho1]; exact cut66_df _ _
    clear ho1
    have x1 : Xt w ow ow1 := x0.trans f1.size x9
    have hP1 := hP.far f1 (fun b q l z ↦ by have z : syT (ow b) := z; unfold syT at z; unfold cpT at q; omega) x1
    clear hC
    obtain ⟨gb, bv, npv, n0, xs0, R, o1, hC, hta, hbv, h13, hB, -, hall⟩ := hP1.ex
    have htc1 := hP1.tc
    replace hV := hV.far (Fram.refl none' _) (fun _ _ _ q ↦ q) x9
    replace htt : ow1 tp = 67 := by rw [x9 _ hTp.lt]; exact htt
    replace hS1 := hS1.far (Fram.refl none' _) (fun _ _ _ q ↦ q) x9
    obtain ⟨va, vc, rfl⟩ := hV.form
    have htpc : tp ≠ cb := fun e ↦ by rw [e, htc1] at htt; omega
    have hF1 : Fram (one cb) u1 u1 := Fram.refl _ _
    refine wl (ro_move rfl) ?_
    refine wl (ro_extract rfl rfl) ?_
    refine wl (ro_extract rfl rfl) ?_
    refine wl (ro_extract rfl rfl) ?_
    refine wl (ro_assign rfl) ?_
    refine wl (ro_assign rfl) ?_
    refine wl (ro_assign rfl) ?_
    refine wl_nil (x_then (hK2 _ _ ?_))
    clear hK2 K2
    refine c_seq (fun K6 hK6 => ?_)
    refine c_seq (fun K7 hK7 => ?_)
    refine c_reg ?_ -- region 2 comp.go:40
    refine wl (ro_move rfl) ?_
    refine wl (ro_cmp rfl rfl rfl) ?_
    refine wl_nil (x_then (hK7 _ _ ?_))
    clear hK7 K7
    refine wc_cond rfl (fun hc22 => ?_) (fun hc22 => ?_)
    · try simp only [decide_eq_true_eq, decide_eq_false_iff_not, Bool.not_eq_true', Bool.not_eq_false', Bool.not_eq_eq_eq_not, Bool.not_true, Bool.not_false, beq_iff_eq, bne_iff_ne, ne_eq, beq_eq_false_iff_ne, bne_eq_false_iff_eq, gt_iff_lt, ge_iff_le, Int.not_lt, Int.not_le] at hc22
      exact absurd rfl hc22
    · try simp only [decide_eq_true_eq, decide_eq_false_iff_not, Bool.not_eq_true', Bool.not_eq_false', Bool.not_eq_eq_eq_not, Bool.not_true, Bool.not_false, beq_iff_eq, bne_iff_ne, ne_eq, beq_eq_false_iff_ne, bne_eq_false_iff_eq, gt_iff_lt, ge_iff_le, Int.not_lt, Int.not_le] at hc22
      refine c_skip (x_then (hK6 _ _ ?_))
      clear hK6 K6
      refine forget [(0, _), (7, _)] ⟨rfl, rfl, trivial⟩ (fun e => ?_)
      refine c_seq (fun K8 hK8 => ?_)
      refine c_reg ?_ -- region 4 comp.go:43
      refine wl (ro_move rfl) ?_
      refine wl (ro_move rfl) ?_
      refine wl (ro_nilCheck rfl) ?_
      refine wl (ro_fieldAddr (k := 0) rfl fo_107_0) ?_
      refine wl (ro_loadB rfl sc_77 (hTp) (rfl)) ?_
      refine wl (ro_nilCheck rfl) ?_
      refine wl (ro_fieldAddr (k := 2) rfl fo_94_2) ?_
      refine wl_put rfl rfl rfl sz_77 hC (by simp) (rfl) (fun w1 hC F1 => ?_)
      replace hTp := F1.blkO hTp (by omega)
      replace hF1 := hF1.thenDrew.thenO F1 (by first | exact .inr (by omega) | exact .inl rfl | exact .inl (by assumption) | assumption)
      refine wl_nil (x_then (hK8 _ _ ?_))
      clear hK8 K8
      refine forget [(0, _), (7, _)] ⟨rfl, rfl, trivial⟩ (fun e => ?_)
      refine c_seq (fun K9 hK9 => ?_)
      refine c_reg ?_ -- region 5 comp.go:44
      refine wl (ro_move rfl) ?_
      refine wl (ro_nilCheck rfl) ?_
      refine wl (ro_fieldAddr (k := 4) rfl fo_94_4) ?_
      refine wl_put rfl rfl rfl sz_3 hC (by simp) (rfl) (fun w2 hC F2 => ?_)
      replace hTp := F2.blkO hTp (by omega)
      replace hF1 := hF1.thenDrew.thenO F2 (by first | exact .inr (by omega) | exact .inl rfl | exact .inl (by assumption) | assumption)
      refine wl_nil (x_then (hK9 _ _ ?_))
      clear hK9 K9
      refine forget [(0, _), (7, _)] ⟨rfl, rfl, trivial⟩ (fun e => ?_)
      refine c_seq (fun K10 hK10 => ?_)
      have hR : CM (zT cb gb (ptr sb) dp (.slice va (ndT t0 + 1) vc) bv t0) w2 ow1 [] (List.replicate (k0 + 1) FS.zero) [] := CM.start (w := u1) (R := R) (Gp := Gp) (E' := zE cb gb (ptr sb) dp bv) hC hF1 htc1 hta (by show OwT _ _ _ _ _ _ (arena t0).length _; rw [arena_len hTO]; exact hV) hGp h13 hB hall hd1
      have hH : IHold w ow sb u1 ow1 := ⟨x1, f1.mono (fun b _ z ↦ .inl z), hS1⟩
      replace hH := hH.one htc1 hF1
      have hbv2 := hbv.far hF1 (fun b q _ z ↦ by have z : b = cb := z; rw [z] at q; omega) (Xt.refl _ _)
      clear hV hbv hB hall hS1
      refine c_reg ?_ -- region 6 comp.go:45
      refine wl (ro_move rfl) ?_
      refine wl_call rfl en_35 (fresh35P (E := zT cb gb (ptr sb) dp (.slice va (ndT t0 + 1) vc) bv t0) (x := 0) (S' := List.replicate (k0 + 1) FS.zero) rfl hR (by decide) (fun f hf ↦ by cases hf) (by rw [z_at]; exact ⟨rfl, rfl, rfl, rfl⟩) (fun _ _ ↦ rfl)) ?_
      rintro v3 u3 ⟨rfl, ow3, x3, f3, hR3⟩
      replace hH := hH.cp x3 f3
      obtain ⟨hTp3, htt3⟩ := cp_loc x3 f3 hTp htt
      have hbv3 := (hbv2.far ((Fram.refl none' _).thenDrew) (fun _ _ _ q ↦ q) (Xt.refl _ _)).far f3 (fun b q _ z ↦ by have z : cpT (ow1 b) := z; unfold cpT at z; omega) x3
      refine wl (ro_assign rfl) ?_
      refine wl_nil (x_then (hK10 _ _ ?_))
      clear hK10 K10
      refine forget [(0, _), (7, _), (10, _)] ⟨rfl, rfl, rfl, trivial⟩ (fun e => ?_)
      refine c_seq (fun K11 hK11 => ?_)
      refine c_reg ?_ -- region 7 comp.go:46
      refine wl (ro_move rfl) ?_
      refine wl (ro_move rfl) ?_
      refine wl (ro_nilCheck rfl) ?_
      refine wl (ro_fieldAddr (k := 1) rfl fo_107_1) ?_
      refine wl (ro_loadB rfl sc_3 (hTp3) (rfl)) ?_
      refine wl_call rfl en_36 (body36 (E := zT cb gb (ptr sb) dp (.slice va (ndT t0 + 1) vc) bv t0) (g := ⟨0, [], [], []⟩) (q := []) (xb_all t0 false) hR3 (arena_is hTO) hTO.w (paT_ex (by rw [hTO.nums]; exact List.nodup_range')) (prog_fx hTO h300 rfl) rfl rfl) ?_
      rintro v4 u4 ⟨rfl, ow4, x4, f4, hR4⟩
      replace hH := hH.cp x4 f4
      have hbv4 := (hbv3.far ((Fram.refl none' _).thenDrew) (fun _ _ _ q ↦ q) (Xt.refl _ _)).far f4 (fun b q _ z ↦ by have z : cpT (ow3 b) := z; unfold cpT at z; omega) x4
      obtain ⟨hnp, hln⟩ := prog_np hTO h300
      have hR5 := hR4.pop rfl hnp.symm (show 0 < (cmp t0 0 [(0, [])] 0 0 (List.replicate (k0 + 1) FS.zero)).2.length by rw [hln]; exact Nat.succ_pos _)
      have hR5 : CM (zT cb gb (ptr sb) dp (.slice va (ndT t0 + 1) vc) bv t0) u4 ow4 (0 :: numsT t0) (progF t0 (k0 + 1)) [] := hR5
      have hC5 := hR5.cb
      have htc5 := hR5.tc
      have hC5 : Blk u4.heap cb [ptr sb, dp, .slice va (ndT t0 + 1) vc, .slice (some ⟨gb, 0, none⟩) 13 13, i64c (mx (0 :: numsT t0)), bv] 94 := hC5
      refine wl_nil (x_then (hK11 _ _ ?_))
      clear hK11 K11
      refine forget [(0, _)] ⟨rfl, trivial⟩ (fun e => ?_)
      refine c_seq (fun K12 hK12 => ?_)
      refine c_reg ?_ -- region 8 comp.go:47
      refine wl (ro_move rfl) ?_
      refine wl (ro_nilCheck rfl) ?_
      refine wl (ro_fieldAddr (k := 2) rfl fo_94_2) ?_
      refine wl_put rfl rfl rfl sz_77 hC5 (by simp) (rfl) (fun w3 hC5 F3 => ?_)
      have hR6 := hR5.drop F3 hC5
      replace hH := hH.one htc5 F3
      have hbv6 := hbv4.far F3 (fun b q _ z ↦ by have z : b = cb := z; rw [z] at q; have htc5 : ow4 cb = 190 := htc5; omega) (Xt.refl _ _)
      obtain ⟨hb1, hb2, hb3, -⟩ := prog_bd (arena_is hTO) hTO.w (by rw [nums0 hTO]; exact List.nodup_range') (n := k0 + 1) (fun j hj ↦ by rw [nums0 hTO, List.mem_range'_1] at hj; omega) (by omega) h300
      have hi9 := prog_img (arena_is hTO) hTO.w (by rw [nums0 hTO]; exact List.nodup_range') (n := k0 + 1) (fun j hj ↦ by rw [nums0 hTO, List.mem_range'_1] at hj; omega) (by omega) h300
      obtain ⟨F9, hF9⟩ : ∃ F9, F9 = progF t0 (k0 + 1) := ⟨_, rfl⟩
      rw [← hF9] at hb1 hb2 hb3 hi9 hR6
      have h9 := lay37 hR6 hbv6 (fun j hj ↦ by rw [hb3] at hj; rw [nums0 hTO, List.mem_range'_1]; omega) (by rw [hb3, nums0 hTO, mx_range]; omega) (by rw [hb3]; omega) hb1 hi9
      refine wl_nil (x_then (hK12 _ _ ?_))
      clear hK12 K12
      refine forget [(0, _)] ⟨rfl, trivial⟩ (fun e => ?_)
      refine c_seq (fun K13 hK13 => ?_)
      refine c_reg ?_ -- region 9 comp.go:48
      refine wl (ro_move rfl) ?_
      refine wl_call rfl en_37 (h9) ?_
      rintro v7 u7 ⟨rfl, hL⟩
      obtain ⟨V7, ow7, x7, f7, hC7, hV7, hd7⟩ := hL.ex
      have hR7 := hR6.lay x7 f7 hC7 hd7
      have hH7 := hH.ly hR6.tc x7 f7
      have hP7 := hR7.rest rfl hV7 hTO h300 rfl hF9 rfl rfl
      refine wl (ro_assign rfl) ?_
      refine wl (ro_assign rfl) ?_
      refine wl (ro_assign rfl) ?_
      refine wl_nil (x_then (hK13 _ _ ?_))
      clear hK13 K13
      refine c_ret ?_
      refine bp_ret Tryz.results24 rfl ?_
      refine ⟨?_, ow7, hH7.x, hP7, hH7.s, hH7.f⟩
      unfold ImgR
      rw [hpv]
      rw [hF9]
      rfl
end Go.Proofs.Qxb6500568aGreatDoor
