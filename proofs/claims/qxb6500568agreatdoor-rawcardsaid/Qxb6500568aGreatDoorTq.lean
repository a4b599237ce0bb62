import Derived.Test.Qxb6500568aGreatDoorTp
/- The things of the world: a tower's run, and who owns what. -/
namespace Go.Proofs.Qxb6500568aGreatDoor
open Ieee
set_option linter.unusedVariables false
set_option linter.unusedSimpArgs false
set_option linter.unusedSectionVars false

section
variable {w w' : World} {n0 cb sb db mb tb nb xb bb mc : Nat} {oc ov : Nat → Nat} {s : Str} {fuel : Int} {t : Tr} {k : Nat} {G O O' : Nat → Prop}
set_option maxHeartbeats 8000000 in
theorem TwR.run (h : TwR n0 w cb sb db mb tb nb xb bb oc ov) (h0 : n0 ≤ w.heap.size) (hG : GV w (o9n n0)) (hfu : fuel < 9223372036854775808) : Ret Tryz.prog 22 [ptr cb, S s, icv fuel] w (fun r w' => RunR s fuel.toNat r ∧ TwP n0 w w' cb sb db mb tb nb xb bb oc ov) := by
  have hF : Fram none' w w := Fram.refl _ _
  have hD : ∀ {b}, drO ov db nb bb b → b < w.heap.size := fun q => h.dr.lt q
  have hd1 : db < w.heap.size := hD (.inr (.inl rfl))
  have hd2 : nb < w.heap.size := hD (.inr (.inr (.inl rfl)))
  have hd3 : bb < w.heap.size := hD (.inr (.inr (.inr rfl)))
  cases hp : prsV s with
  | inl x =>
    obtain ⟨er, p⟩ := x
    have he := prsV_err hp
    refine ret_of Tryz.func22 rfl Tryz.ntmps22 rfl ?_
    refine c_seq (fun K1 hK1 => ?_)
    refine c_reg ?_ -- region 0 comp.go:28
    refine wl_new (ze_56) (fun b6 w1 hbb6 h6 F1 => ?_)
    have hbsb6 := Nat.le_trans hF.size hbb6
    replace hF := hF.thenDrew.thenN F1
    refine wl_nil (x_then (hK1 _ _ ?_))
    clear hK1 K1
    refine forget [(0, _), (1, _), (2, _), (6, _)] ⟨rfl, rfl, rfl, rfl, trivial⟩ (fun e => ?_)
    refine c_seq (fun K2 hK2 => ?_)
    refine c_reg ?_ -- region 1 comp.go:29
    refine wl (ro_move rfl) ?_
    refine wl (ro_move rfl) ?_
    refine wl_call rfl en_24 ((h.far hF (fun _ _ _ q ↦ q)).image (s := s) (Nat.le_trans h0 hF.size) (hG.farN hF)) ?_
    rintro r1 u1 ⟨hI, f1, oc1, ov1, bb1, h1, x1, x2, hb1⟩
    unfold ImgR at hI
    rw [hp] at hI
    subst hI
    have hz1 := hF.size
    have hz2 := f1.size
    have hl6 := h6.lt
    have n6 : ¬ towO oc1 ov1 db nb bb1 b6 := by
      rintro (q | q | q | q | q)
      · rw [x1 b6 hl6, h.df b6 hbsb6] at q; exact tc66 q
      · rw [x2 b6 hl6, h.dr.df b6 hbsb6] at q; exact vt66 q
      · omega
      · omega
      · omega
    replace h6 := f1.blkF h6 (fun q ↦ by
      rcases q with q | q
      · rw [h.df b6 hbsb6] at q; exact tc66 q
      · have := hD q; omega)
    have hf : Fram (towO oc ov db nb bb) w u1 := (hF.mono (fun _ _ q ↦ q.elim)).trans' f1 (fun _ _ q ↦ q)
    have y1 : Xt w oc oc1 := fun b hb ↦ x1 b (by omega)
    have y2 : Xt w ov ov1 := fun b hb ↦ x2 b (by omega)
    have hb3 : bb1 = bb ∨ w.heap.size ≤ bb1 := hb1.imp_right (fun q ↦ by omega)
    refine wl (ro_move rfl) ?_
    refine wl (ro_extract rfl rfl) ?_
    refine wl (ro_extract rfl rfl) ?_
    refine wl (ro_extract rfl rfl) ?_
    refine wl (ro_assign rfl) ?_
    refine wl (ro_assign rfl) ?_
    refine wl (ro_assign rfl) ?_
    refine wl_nil (x_then (hK2 _ _ ?_))
    clear hK2 K2
    refine c_seq (fun K3 hK3 => ?_)
    refine c_seq (fun K4 hK4 => ?_)
    refine c_reg ?_ -- region 2 comp.go:30
    refine wl (ro_move rfl) ?_
    refine wl (ro_cmp (r := true) rfl rfl (congrArg some (by simp; omega))) ?_
    refine wl_nil (x_then (hK4 _ _ ?_))
    clear hK4 K4
    refine wc_condT rfl ?_
    refine c_seq (fun K5 hK5 => ?_)
    refine c_reg ?_ -- region 3 comp.go:31
    refine wl (ro_move rfl) ?_
    refine wl (ro_move rfl) ?_
    refine wl (ro_build rfl bld_56_0_1) ?_
    refine wl_puta rfl rfl ((anc_one ⟨er, p, 0, [], []⟩)) sz_56 (rfl) h6 ((by simp)) (rfl) (fun w2 h6 F2 => ?_)
    have F9 := F2
    refine wl_nil (x_then (hK5 _ _ ?_))
    clear hK5 K5
    refine c_ret (x_thenR ?_)
    refine bq_ret (res1 Tryz.results22 (rv_c rfl ag_56 (h6) (rfl))) ?_
    refine ⟨?_, hf.trans' F9 (fun b hb q ↦ by have q : b = b6 := q; omega), oc1, ov1, bb1, h1.far F9 (fun b _ q z ↦ n6 (by have z : b = b6 := z; rw [← z]; exact q)), y1, y2, hb3⟩
    unfold RunR
    rw [hp]
    rfl
  | inr x =>
    obtain ⟨t, k⟩ := x
    refine ret_of Tryz.func22 rfl Tryz.ntmps22 rfl ?_
    refine c_seq (fun K1 hK1 => ?_)
    refine c_reg ?_ -- region 0 comp.go:28
    refine wl_new (ze_56) (fun b6 w1 hbb6 h6 F1 => ?_)
    have hbsb6 := Nat.le_trans hF.size hbb6
    replace hF := hF.thenDrew.thenN F1
    refine wl_nil (x_then (hK1 _ _ ?_))
    clear hK1 K1
    refine forget [(0, _), (1, _), (2, _), (6, _)] ⟨rfl, rfl, rfl, rfl, trivial⟩ (fun e => ?_)
    refine c_seq (fun K2 hK2 => ?_)
    refine c_reg ?_ -- region 1 comp.go:29
    refine wl (ro_move rfl) ?_
    refine wl (ro_move rfl) ?_
    refine wl_call rfl en_24 ((h.far hF (fun _ _ _ q ↦ q)).image (s := s) (Nat.le_trans h0 hF.size) (hG.farN hF)) ?_
    rintro r1 u1 ⟨hI, f1, oc1, ov1, bb1, h1, x1, x2, hb1⟩
    unfold ImgR at hI
    rw [hp] at hI
    subst hI
    have hz1 := hF.size
    have hz2 := f1.size
    have hl6 := h6.lt
    have n6 : ¬ towO oc1 ov1 db nb bb1 b6 := by
      rintro (q | q | q | q | q)
      · rw [x1 b6 hl6, h.df b6 hbsb6] at q; exact tc66 q
      · rw [x2 b6 hl6, h.dr.df b6 hbsb6] at q; exact vt66 q
      · omega
      · omega
      · omega
    replace h6 := f1.blkF h6 (fun q ↦ by
      rcases q with q | q
      · rw [h.df b6 hbsb6] at q; exact tc66 q
      · have := hD q; omega)
    have hf : Fram (towO oc ov db nb bb) w u1 := (hF.mono (fun _ _ q ↦ q.elim)).trans' f1 (fun _ _ q ↦ q)
    have y1 : Xt w oc oc1 := fun b hb ↦ x1 b (by omega)
    have y2 : Xt w ov ov1 := fun b hb ↦ x2 b (by omega)
    have hb3 : bb1 = bb ∨ w.heap.size ≤ bb1 := hb1.imp_right (fun q ↦ by omega)
    obtain ⟨gb0, bv0, npv0, n00, xs00, R0, o0, hC, -⟩ := h1.c.ex
    refine wl (ro_move rfl) ?_
    refine wl (ro_extract rfl rfl) ?_
    refine wl (ro_extract rfl rfl) ?_
    refine wl (ro_extract rfl rfl) ?_
    refine wl (ro_assign rfl) ?_
    refine wl (ro_assign rfl) ?_
    refine wl (ro_assign rfl) ?_
    refine wl_nil (x_then (hK2 _ _ ?_))
    clear hK2 K2
    refine c_seq (fun K3 hK3 => ?_)
    refine c_seq (fun K4 hK4 => ?_)
    refine c_reg ?_ -- region 2 comp.go:30
    refine wl (ro_move rfl) ?_
    refine wl (ro_cmp (r := false) rfl rfl rfl) ?_
    refine wl_nil (x_then (hK4 _ _ ?_))
    clear hK4 K4
    refine wc_condF rfl ?_
    refine c_skip (x_then (hK3 _ _ ?_))
    clear hK3 K3
    refine forget [(0, _), (2, _), (6, _), (7, _)] ⟨rfl, rfl, rfl, rfl, trivial⟩ (fun e => ?_)
    refine c_seq (fun K5 hK5 => ?_)
    refine c_reg ?_ -- region 4 comp.go:33
    refine wl (ro_move rfl) ?_
    refine wl (ro_nilCheck rfl) ?_
    refine wl (ro_fieldAddr (k := 1) rfl fo_94_1) ?_
    refine wl (ro_loadB rfl sc_29 (hC) rfl) ?_
    refine wl (ro_move rfl) ?_
    refine wl (ro_move rfl) ?_
    refine wl_call rfl en_25 (h1.dr.run (s := s) (t := t) (k := k) hp hfu) ?_
    rintro r2 u2 ⟨hr2, f2, ov2, bb2, x3, hd5, hb2⟩
    obtain ⟨A, rfl⟩ := hr2.form
    have h2 := h1.drive x3 hd5 hb2 f2
    have hl7 := h6.lt
    have n7 : ¬ towO oc1 ov2 db nb bb2 b6 := by
      rintro (q | q | q | q | q)
      · exact n6 (.inl q)
      · rw [x3 b6 hl7] at q; exact n6 (.inr (.inl q))
      · omega
      · omega
      · rcases hb2 with z | z
        · exact n6 (.inr (.inr (.inr (.inr (by rw [q, z])))))
        · omega
    replace h6 := f2.blkF h6 (fun q ↦ n6 (.inr q))
    replace hf := hf.trans' f2 (fun b hb q ↦ by
      refine .inr ?_
      rcases q with q | q | q | q
      · rw [y2 b hb] at q; exact .inl q
      · exact .inr (.inl q)
      · exact .inr (.inr (.inl q))
      · rcases hb3 with z | z
        · exact .inr (.inr (.inr (by rw [q, z])))
        · omega)
    have y3 : Xt w ov ov2 := fun b hb ↦ by rw [x3 b (by omega)]; exact y2 b hb
    have hb4 : bb2 = bb ∨ w.heap.size ≤ bb2 := by
      rcases hb2 with z | z
      · rw [z]; exact hb3
      · exact .inr (by omega)
    refine wl_puta rfl rfl ((anc_one _)) sz_56 (rfl) h6 ((Nat.le_refl 5)) (rfl) (fun w2 h6 F2 => ?_)
    have F9 := F2
    refine wl_nil (x_then (hK5 _ _ ?_))
    clear hK5 K5
    refine c_ret ?_
    refine bq_ret (res1 Tryz.results22 (rv_c rfl ag_56 (h6) (rfl))) ?_
    exact ⟨hr2, hf.trans' F9 (fun b hb q ↦ by have q : b = b6 := q; omega), oc1, ov2, bb2, h2.far F9 (fun b _ q z ↦ n7 (by have z : b = b6 := z; rw [← z]; exact q)), y1, y3, hb4⟩
end
end Go.Proofs.Qxb6500568aGreatDoor
