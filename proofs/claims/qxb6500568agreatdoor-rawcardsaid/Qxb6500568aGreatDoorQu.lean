import Derived.Test.Qxb6500568aGreatDoorQwa
import Derived.Test.Qxb6500568aGreatDoorQt
import Derived.Test.Qxb6500568aGreatDoorJl
/- The towers: Run, and the law. -/
namespace Go.Proofs.Qxb6500568aGreatDoor
open Ieee
set_option linter.unusedVariables false
set_option linter.unusedSimpArgs false
set_option linter.unusedSectionVars false

section
variable {s : Str} {t : Tr} {k : Nat}
theorem prog_all (h : prsV s = .inr (t, k)) : 1 ≤ (progF t (k + 1)).length ∧ (progF t (k + 1)).length ≤ 13 ∧ (∀ j, FOK (fsAt (progF t (k + 1)) j)) ∧ (img (progF t (k + 1))).length ≤ 32768 ∧ (fsAt (progF t (k + 1)) 0).np = 0 ∧ (fsAt (progF t (k + 1)) 0).ups = [] := by
  obtain ⟨hTO, h300⟩ := prsV_ok h
  have h12 := hTO.k12
  obtain ⟨hb1, hb2, hb3, hb4, hb5⟩ := prog_bd (arena_is hTO) hTO.w (by rw [nums0 hTO]; exact List.nodup_range') (n := k + 1) (fun j hj => by rw [nums0 hTO, List.mem_range'_1] at hj; omega) (by omega) h300
  exact ⟨by omega, by omega, hb1, by rw [img_len, hb3]; omega, hb5, hb4⟩
theorem run_ends (h : prsV s = .inr (t, k)) (fuel : Nat) : ∃ n b, GoN (Psf (progF t (k + 1))) n (astart (Psf (progF t (k + 1))) fuel) b ∧ b.done = true ∧ IAns (arena t) (rt t 1) fuel b.ans := by
  obtain ⟨hTO, h300⟩ := prsV_ok h
  obtain ⟨N, b, hg, hN, hb, he⟩ := text_ends hTO (arena_ok hTO) (arena_is hTO) rfl fuel
  obtain ⟨n, hn⟩ := hg.toN
  exact ⟨n, b, hn, hb, N, hN, he⟩
theorem ians_T (h : prsV s = .inr (t, k)) {fuel : Nat} {A : Ans} (hA : IAns (arena t) (rt t 1) fuel A) : A.T ≠ [] := by
  obtain ⟨n, b, hg, hb, hi⟩ := run_ends h fuel
  rw [hA.uniq hi]
  refine (D1.goN ?_ hg).d hb
  exact ⟨fun q => by cases q⟩
end
section
variable {w : World} {oc ov : Nat → Nat} {cb sb db mb tb nb xb bb : Nat} {s : Str} {fuel : Int}
/-- what a tower's run may write. -/
def twS (oc ov : Nat → Nat) (db nb bb : Nat) (x : Nat) : Prop := imT (oc x) ∨ vtT (ov x) ∨ x = db ∨ x = nb ∨ x = bb
theorem drv25 {ow : Nat → Nat} {L : VL} {T : List Tb} {f0 : Nat} {t : Tr} {k : Nat} (h : VT ⟨mb, tb, ptr nb, ptr xb⟩ nb xb w ow L T) {lN : List Value} (hN1 : Blk w.heap nb [.slice (some ⟨bb, 0, none⟩) 24 24] 72) (hN2 : Blk w.heap bb lN 5) (hN3 : lN.length = 24) (khN1 : ow nb = 66) (khN2 : ow bb = 66) (hC : Blk w.heap db [ptr mb, i64c f0, .int .i64 0] 91) (khC : ow db = 66) (hp : prsV s = .inr (t, k)) (hfu : fuel < 9223372036854775808) :
    Ret Tryz.prog 25 [ptr db, S (img (progF t (k + 1))), icv fuel] w (fun r w' => RunR s fuel.toNat r ∧ Fram (fun x => tg ow vtT x ∨ x = db ∨ x = nb ∨ x = bb) w w') := by
  obtain ⟨n, b, hg, hb, hi⟩ := run_ends hp fuel.toNat
  obtain ⟨q1, q2, q3, q4, q5, q6⟩ := prog_all hp
  refine (Run25 h hN1 hN2 hN3 khN1 khN2 hC khC q1 q2 q3 q4 ⟨q5, q6⟩ hfu hg hb).mono ?_
  rintro r w' ⟨rfl, f⟩
  refine ⟨?_, f⟩
  unfold RunR
  rw [hp]
  exact ⟨_, hi, rfl⟩
set_option maxHeartbeats 8000000 in
theorem Run22 (h : TowV cb sb db mb tb nb xb bb w oc ov) (hG : GV w oc) (hd2 : ∀ b, w.heap.size ≤ b → oc b = 66) (hfu : fuel < 9223372036854775808) : Ret Tryz.prog 22 [ptr cb, S s, icv fuel] w (fun r w' => RunR s fuel.toNat r ∧ Fram (twS oc ov db nb bb) w w') := by
  have hF : Fram none' w w := Fram.refl _ _
  cases hp : prsV s with
  | inl x =>
    obtain ⟨er, p⟩ := x
    have he := prsV_err hp
    refine ret_of Tryz.func22 rfl Tryz.ntmps22 rfl ?_
    refine c_seq (fun K1 hK1 => ?_)
    refine c_reg ?_ -- region 0 comp.go:28
    refine wl_new (ze_56) (fun b6 w1 hbb6 h6 F1 => ?_)
    have hbsb6 := Nat.le_trans hF.size hbb6
    replace hF := hF.thenDrew.thenN F1
    refine wl_nil (x_then (hK1 _ _ ?_))
    clear hK1 K1
    refine forget [(0, _), (1, _), (2, _), (6, _)] ⟨rfl, rfl, rfl, rfl, trivial⟩ (fun e => ?_)
    refine c_seq (fun K2 hK2 => ?_)
    refine c_reg ?_ -- region 1 comp.go:29
    refine wl (ro_move rfl) ?_
    refine wl (ro_move rfl) ?_
    refine wl_call rfl en_24 (Image24 (s := s) (h.c.far hF (fun _ _ _ q ↦ q) (Xt.refl _ _)) (h.s.far hF (fun _ _ _ q ↦ q) (Xt.refl _ _)) (hG.farN hF)) ?_
    rintro r1 u1 ⟨hI, oc1, x1, hc1, hs1, f1⟩
    unfold ImgR at hI
    rw [hp] at hI
    subst hI
    replace h6 := f1.blkF h6 (fun q ↦ by have q : imT (oc b6) := q; rw [hd2 b6 hbsb6] at q; exact im66 q)
    replace hF : Fram (twS oc ov db nb bb) w u1 := (hF.mono (fun _ _ q ↦ q.elim)).trans' f1 (fun _ _ q ↦ .inl q)
    refine wl (ro_move rfl) ?_
    refine wl (ro_extract rfl rfl) ?_
    refine wl (ro_extract rfl rfl) ?_
    refine wl (ro_extract rfl rfl) ?_
    refine wl (ro_assign rfl) ?_
    refine wl (ro_assign rfl) ?_
    refine wl (ro_assign rfl) ?_
    refine wl_nil (x_then (hK2 _ _ ?_))
    clear hK2 K2
    refine c_seq (fun K3 hK3 => ?_)
    refine c_seq (fun K4 hK4 => ?_)
    refine c_reg ?_ -- region 2 comp.go:30
    refine wl (ro_move rfl) ?_
    refine wl (ro_cmp (r := true) rfl rfl (congrArg some (by simp; omega))) ?_
    refine wl_nil (x_then (hK4 _ _ ?_))
    clear hK4 K4
    refine wc_condT rfl ?_
    refine c_seq (fun K5 hK5 => ?_)
    refine c_reg ?_ -- region 3 comp.go:31
    refine wl (ro_move rfl) ?_
    refine wl (ro_move rfl) ?_
    refine wl (ro_build rfl bld_56_0_1) ?_
    refine wl_puta rfl rfl ((anc_one ⟨er, p, 0, [], []⟩)) sz_56 (rfl) h6 ((by simp)) (rfl) (fun w2 h6 F2 => ?_)
    replace hF := hF.thenDrew.thenO F2 (by first | exact .inr (by omega) | exact .inl rfl | exact .inl (by assumption) | assumption)
    refine wl_nil (x_then (hK5 _ _ ?_))
    clear hK5 K5
    refine c_ret (x_thenR ?_)
    refine bq_ret (res1 Tryz.results22 (rv_c rfl ag_56 (h6) (rfl))) ?_
    refine ⟨?_, hF⟩
    unfold RunR
    rw [hp]
    rfl
  | inr x =>
    obtain ⟨t, k⟩ := x
    refine ret_of Tryz.func22 rfl Tryz.ntmps22 rfl ?_
    refine c_seq (fun K1 hK1 => ?_)
    refine c_reg ?_ -- region 0 comp.go:28
    refine wl_new (ze_56) (fun b6 w1 hbb6 h6 F1 => ?_)
    have hbsb6 := Nat.le_trans hF.size hbb6
    replace hF := hF.thenDrew.thenN F1
    refine wl_nil (x_then (hK1 _ _ ?_))
    clear hK1 K1
    refine forget [(0, _), (1, _), (2, _), (6, _)] ⟨rfl, rfl, rfl, rfl, trivial⟩ (fun e => ?_)
    refine c_seq (fun K2 hK2 => ?_)
    refine c_reg ?_ -- region 1 comp.go:29
    refine wl (ro_move rfl) ?_
    refine wl (ro_move rfl) ?_
    refine wl_call rfl en_24 (Image24 (s := s) (h.c.far hF (fun _ _ _ q ↦ q) (Xt.refl _ _)) (h.s.far hF (fun _ _ _ q ↦ q) (Xt.refl _ _)) (hG.farN hF)) ?_
    rintro r1 u1 ⟨hI, oc1, x1, hc1, hs1, f1⟩
    unfold ImgR at hI
    rw [hp] at hI
    subst hI
    replace h6 := f1.blkF h6 (fun q ↦ by have q : imT (oc b6) := q; rw [hd2 b6 hbsb6] at q; exact im66 q)
    have hN := (hF.mono (G := tg oc imT) (fun _ _ q ↦ q.elim)).trans f1
    have hs1' := hF.size
    replace hF : Fram (twS oc ov db nb bb) w u1 := (hF.mono (fun _ _ q ↦ q.elim)).trans' f1 (fun _ _ q ↦ .inl q)
    obtain ⟨gb0, bv0, npv0, n00, xs00, R0, hC, -⟩ := hc1.ex
    obtain ⟨lN, hq1, hq2⟩ := h.n2
    have hvd : ∀ x, w.heap.size ≤ x → ov x = 66 := by obtain ⟨V, U, op⟩ := h.m.m; exact op.df
    have hszN := hN.size
    refine wl (ro_move rfl) ?_
    refine wl (ro_extract rfl rfl) ?_
    refine wl (ro_extract rfl rfl) ?_
    refine wl (ro_extract rfl rfl) ?_
    refine wl (ro_assign rfl) ?_
    refine wl (ro_assign rfl) ?_
    refine wl (ro_assign rfl) ?_
    refine wl_nil (x_then (hK2 _ _ ?_))
    clear hK2 K2
    refine c_seq (fun K3 hK3 => ?_)
    refine c_seq (fun K4 hK4 => ?_)
    refine c_reg ?_ -- region 2 comp.go:30
    refine wl (ro_move rfl) ?_
    refine wl (ro_cmp (r := false) rfl rfl rfl) ?_
    refine wl_nil (x_then (hK4 _ _ ?_))
    clear hK4 K4
    refine wc_condF rfl ?_
    refine c_skip (x_then (hK3 _ _ ?_))
    clear hK3 K3
    refine forget [(0, _), (2, _), (6, _), (7, _)] ⟨rfl, rfl, rfl, rfl, trivial⟩ (fun e => ?_)
    refine c_seq (fun K5 hK5 => ?_)
    refine c_reg ?_ -- region 4 comp.go:33
    refine wl (ro_move rfl) ?_
    refine wl (ro_nilCheck rfl) ?_
    refine wl (ro_fieldAddr (k := 1) rfl fo_94_1) ?_
    refine wl (ro_loadB rfl sc_29 (hC) rfl) ?_
    refine wl (ro_move rfl) ?_
    refine wl (ro_move rfl) ?_
    refine wl_call rfl en_25 (drv25 (s := s) (t := t) (k := k) (lN := lN) ⟨h.m.m.far hN (fun x q _ z ↦ h.sep x (.inl q) z) (Xt.refl _ _) (fun x hx ↦ hvd x (by omega)), h.m.t.far hN (fun x q _ z ↦ h.sep x (.inr q) z) (Xt.refl _ _)⟩ (h.n1.fram hN h.cn.1) (hq1.fram hN h.cn.2.1) hq2 h.tn.1 h.tn.2.1 (h.d.fram hN h.cn.2.2) h.tn.2.2 hp hfu) ?_
    rintro r2 u2 ⟨hr2, f2⟩
    obtain ⟨A, rfl⟩ := hr2.form
    have hv6 : ¬ vtT (ov b6) := by rw [hvd b6 (by omega)]; exact vt66
    replace h6 := f2.blkF h6 (fun q ↦ by
      rcases q with q | q | q | q
      · exact hv6 q
      · have := h.d.lt; omega
      · have := h.n1.lt; omega
      · have := hq1.lt; omega)
    replace hF := hF.trans' f2 (fun x _ q ↦ by
      rcases q with q | q
      · exact .inr (.inl q)
      · exact .inr (.inr q))
    refine wl_puta rfl rfl ((anc_one _)) sz_56 (rfl) h6 ((Nat.le_refl 5)) (rfl) (fun w2 h6 F2 => ?_)
    replace hF := hF.thenDrew.thenO F2 (by first | exact .inr (by omega) | exact .inl rfl | exact .inl (by assumption) | assumption)
    refine wl_nil (x_then (hK5 _ _ ?_))
    clear hK5 K5
    refine c_ret ?_
    refine bq_ret (res1 Tryz.results22 (rv_c rfl ag_56 (h6) (rfl))) ?_
    exact ⟨hr2, hF⟩
end
end Go.Proofs.Qxb6500568aGreatDoor
