import Derived.Test.Qxb6500568aGreatDoorTr
/- The law's parts, with what holds after them. -/
namespace Go.Proofs.Qxb6500568aGreatDoor
open Ieee
set_option linter.unusedVariables false
set_option linter.unusedSimpArgs false
set_option linter.unusedSectionVars false

section
variable {w : World} {cb mc db : Nat} {s : Str} {fuel : Int} {im : Str} {Q : World → Prop}
set_option maxHeartbeats 4000000 in
theorem ran7c (hx : Ret Tryz.prog 22 [ptr cb, S s, icv fuel] w (fun r u1 => RunR s fuel.toNat r ∧ ∀ v, Fram none' u1 v → Ret Tryz.prog 23 [ptr mc, S s, icv fuel] v (fun r w' => RunR s fuel.toNat r ∧ Fram (fun b => b < u1.heap.size) v w' ∧ Q w'))) :
    Ret Tryz.prog 7 [ptr cb, ptr mc, S s, icv fuel] w (fun r w' => r = .bool true ∧ ∃ u, Q u ∧ Fram none' u w') := by
  refine ret_of Tryz.func7 rfl Tryz.ntmps7 rfl ?_
  refine c_seq (fun K1 hK1 => ?_)
  refine c_reg ?_ -- region 0 law.go:62
  refine wl (ro_assign rfl) ?_
  refine wl_nil (x_then (hK1 _ _ ?_))
  clear hK1 K1
  refine forget [(0, _), (1, _), (2, _), (3, _)] ⟨rfl, rfl, rfl, rfl, trivial⟩ (fun e => ?_)
  refine c_seq (fun K2 hK2 => ?_)
  refine c_reg ?_ -- region 1 law.go:63
  refine wl (ro_move rfl) ?_
  refine wl (ro_move rfl) ?_
  refine wl (ro_move rfl) ?_
  refine wl_call rfl en_22 (hx) ?_
  rintro r1 u1 ⟨hr1, hc⟩
  obtain ⟨A, rfl⟩ := hr1.form
  have hU : Fram none' u1 u1 := Fram.refl _ _
  refine wl_new (ze_56) (fun b9 w1 hbb9 h9 F1 => ?_)
  have hbsb9 := Nat.le_trans hU.size hbb9
  replace hU := hU.thenDrew.thenN F1
  refine wl_puta rfl rfl ((anc_one _)) sz_56 (rfl) h9 ((by simp)) (rfl) (fun w2 h9 F2 => ?_)
  replace hU := hU.thenDrew.thenO F2 (by first | exact .inr (by omega) | exact .inl rfl | exact .inl (by assumption) | assumption)
  refine wl_nil (x_then (hK2 _ _ ?_))
  clear hK2 K2
  refine forget [(1, _), (2, _), (3, _), (9, _)] ⟨rfl, rfl, rfl, rfl, trivial⟩ (fun e => ?_)
  refine c_seq (fun K3 hK3 => ?_)
  refine c_reg ?_ -- region 2 law.go:64
  refine wl (ro_move rfl) ?_
  refine wl (ro_move rfl) ?_
  refine wl (ro_move rfl) ?_
  refine wl_call rfl en_23 (hc _ hU) ?_
  rintro r2 u2 ⟨hr2, f2, hQ⟩
  obtain rfl := hr2.uniq hr1
  replace h9 := f2.blkF h9 (fun q ↦ by have q : b9 < u1.heap.size := q; omega)
  have hV : Fram none' u2 u2 := Fram.refl _ _
  refine wl_new (ze_56) (fun b10 w3 hbb10 h10 F3 => ?_)
  have hneb9b10 : b9 < b10 := Nat.lt_of_lt_of_le h9.lt hbb10
  have hbsb10 := Nat.le_trans hV.size hbb10
  replace h9 := F3.blkN h9
  replace hV := hV.thenDrew.thenN F3
  refine wl_puta rfl rfl ((anc_one _)) sz_56 (rfl) h10 ((by simp)) (rfl) (fun w4 h10 F4 => ?_)
  replace h9 := F4.blkO h9 (by omega)
  replace hV := hV.thenDrew.thenO F4 (by first | exact .inr (by omega) | exact .inl rfl | exact .inl (by assumption) | assumption)
  refine wl_nil (x_then (hK3 _ _ ?_))
  clear hK3 K3
  refine forget [(9, _), (10, _)] ⟨rfl, rfl, trivial⟩ (fun e => ?_)
  refine c_seq (fun K4 hK4 => ?_)
  refine c_reg ?_ -- region 3 law.go:65
  refine wl (ro_loadAggB rfl ag_56 (h9) rfl rfl) ?_
  refine wl (ro_loadAggB rfl ag_56 (h10) rfl rfl) ?_
  refine wl (ro_eqAns rfl rfl) ?_
  refine wl (ro_assign rfl) ?_
  refine wl_nil (x_then (hK4 _ _ ?_))
  clear hK4 K4
  refine c_ret ?_
  refine bp_ret Tryz.results7 rfl ?_
  exact ⟨rfl, u2, hQ, hV⟩
set_option maxHeartbeats 4000000 in
theorem executed10c (hfu : fuel < 9223372036854775808) (hx : Ret Tryz.prog 25 [ptr db, S im, icv fuel] w (fun r w' => RunR s fuel.toNat r ∧ Q w')) :
    Ret Tryz.prog 10 [ptr db, S im, S s, icv fuel] w (fun r w' => r = .bool true ∧ ∃ u, Q u ∧ Fram none' u w') := by
  refine ret_of Tryz.func10 rfl Tryz.ntmps10 rfl ?_
  refine c_seq (fun K1 hK1 => ?_)
  refine c_reg ?_ -- region 0 law.go:80
  refine wl (ro_assign rfl) ?_
  refine wl_nil (x_then (hK1 _ _ ?_))
  clear hK1 K1
  refine forget [(0, _), (1, _), (2, _), (3, _)] ⟨rfl, rfl, rfl, rfl, trivial⟩ (fun e => ?_)
  refine c_seq (fun K2 hK2 => ?_)
  refine c_reg ?_ -- region 1 law.go:81
  refine wl (ro_move rfl) ?_
  refine wl (ro_move rfl) ?_
  refine wl (ro_move rfl) ?_
  refine wl_call rfl en_25 (hx) ?_
  rintro r1 u1 ⟨hr1, hQ⟩
  have hF : Fram none' u1 u1 := Fram.refl _ _
  obtain ⟨A, rfl⟩ := hr1.form
  refine wl_new (ze_56) (fun b9 w1 hbb9 h9 F1 => ?_)
  have hbsb9 := Nat.le_trans hF.size hbb9
  replace hF := hF.thenDrew.thenN F1
  refine wl_puta rfl rfl ((anc_one _)) sz_56 (rfl) h9 ((by simp)) (rfl) (fun w2 h9 F2 => ?_)
  replace hF := hF.thenDrew.thenO F2 (by first | exact .inr (by omega) | exact .inl rfl | exact .inl (by assumption) | assumption)
  refine wl_nil (x_then (hK2 _ _ ?_))
  clear hK2 K2
  refine forget [(2, _), (3, _), (9, _)] ⟨rfl, rfl, rfl, trivial⟩ (fun e => ?_)
  refine c_seq (fun K3 hK3 => ?_)
  refine c_reg ?_ -- region 2 law.go:82
  refine wl_call rfl en_6 (New6) ?_
  rintro _ u3 ⟨mc, nn, mt, ms, rfl, ⟨n1, n2, n3⟩, q1, q2, q3, f3⟩
  have hlt9 := h9.lt
  have hs3 := hF.size
  replace h9 := f3.blkN h9
  replace hF := hF.thenN f3
  refine wl (ro_assign rfl) ?_
  refine wl_nil (x_then (hK3 _ _ ?_))
  clear hK3 K3
  refine forget [(2, _), (3, _), (9, _), (10, _)] ⟨rfl, rfl, rfl, rfl, trivial⟩ (fun e => ?_)
  refine c_seq (fun K4 hK4 => ?_)
  refine c_reg ?_ -- region 3 law.go:83
  refine wl (ro_move rfl) ?_
  refine wl (ro_move rfl) ?_
  refine wl (ro_move rfl) ?_
  refine wl_call rfl en_23 ((MoV.mk q1 q2 q3).run (s := s) hfu) ?_
  rintro r2 u2 ⟨hr2, f2⟩
  obtain rfl := hr2.uniq hr1
  have hnt : mt ≠ b9 := by omega
  replace h9 := f2.blkO h9 hnt.symm
  replace hF := hF.thenO f2 (.inr (by omega))
  refine wl_new (ze_56) (fun b11 w3 hbb11 h11 F3 => ?_)
  have hbsb11 := Nat.le_trans hF.size hbb11
  have hneb9b11 : b9 < b11 := Nat.lt_of_lt_of_le h9.lt hbb11
  replace hF := hF.thenDrew.thenN F3
  replace h9 := F3.blkN h9
  refine wl_puta rfl rfl ((anc_one _)) sz_56 (rfl) h11 ((by simp)) (rfl) (fun w4 h11 F4 => ?_)
  replace hF := hF.thenDrew.thenO F4 (by first | exact .inr (by omega) | exact .inl rfl | exact .inl (by assumption) | assumption)
  replace h9 := F4.blkO h9 (by omega)
  refine wl_nil (x_then (hK4 _ _ ?_))
  clear hK4 K4
  refine forget [(9, _), (11, _)] ⟨rfl, rfl, trivial⟩ (fun e => ?_)
  refine c_seq (fun K5 hK5 => ?_)
  refine c_reg ?_ -- region 4 law.go:84
  refine wl (ro_loadAggB rfl ag_56 (h9) rfl rfl) ?_
  refine wl (ro_loadAggB rfl ag_56 (h11) rfl rfl) ?_
  refine wl (ro_eqAns rfl rfl) ?_
  refine wl (ro_assign rfl) ?_
  refine wl_nil (x_then (hK5 _ _ ?_))
  clear hK5 K5
  refine c_ret ?_
  refine bp_ret Tryz.results10 rfl ?_
  exact ⟨rfl, u1, hQ, hF⟩
set_option maxHeartbeats 8000000 in
theorem imaged8c (hx : Ret Tryz.prog 24 [ptr cb, S s] w (fun r w' => ImgR s r ∧ Q w')) :
    Ret Tryz.prog 8 [ptr cb, S s] w (fun r w' => ((∃ e p, prsV s = .inl (e, p) ∧ r = .tuple #[S [], .bool false, .bool true]) ∨ ∃ t k, prsV s = .inr (t, k) ∧ r = .tuple #[S (img (progF t (k + 1))), .bool true, .bool true]) ∧ ∃ u, Q u ∧ Fram none' u w') := by
  cases hp : prsV s with
  | inl x =>
    obtain ⟨e, p⟩ := x
    have he := prsV_err hp
    refine ret_of Tryz.func8 rfl Tryz.ntmps8 rfl ?_
    refine c_seq (fun K1 hK1 => ?_)
    refine c_reg ?_ -- region 0 law.go:69
    refine wl (ro_assign rfl) ?_
    refine wl (ro_assign rfl) ?_
    refine wl (ro_assign rfl) ?_
    refine wl_nil (x_then (hK1 _ _ ?_))
    clear hK1 K1
    refine forget [(0, _), (1, _)] ⟨rfl, rfl, trivial⟩ (fun e => ?_)
    refine c_seq (fun K2 hK2 => ?_)
    refine c_reg ?_ -- region 1 law.go:70
    refine wl (ro_move rfl) ?_
    refine wl (ro_move rfl) ?_
    refine wl_call rfl en_24 (hx) ?_
    rintro r1 u1 ⟨hI, hQ⟩
    unfold ImgR at hI
    rw [hp] at hI
    subst hI
    have hF : Fram none' u1 u1 := Fram.refl _ _
    refine wl (ro_move rfl) ?_
    refine wl (ro_extract rfl rfl) ?_
    refine wl (ro_extract rfl rfl) ?_
    refine wl (ro_extract rfl rfl) ?_
    refine wl (ro_assign rfl) ?_
    refine wl (ro_assign rfl) ?_
    refine wl (ro_assign rfl) ?_
    refine wl_nil (x_then (hK2 _ _ ?_))
    clear hK2 K2
    refine forget [(1, _), (7, _), (8, _), (9, _)] ⟨rfl, rfl, rfl, rfl, trivial⟩ (fun e => ?_)
    refine c_seq (fun K3 hK3 => ?_)
    refine c_reg ?_ -- region 2 law.go:71
    refine wl_call rfl en_6 (New6) ?_
    rintro _ u3 ⟨mc, nn, mt, ms, rfl, ⟨n1, n2, n3⟩, q1, q2, q3, f3⟩
    have hs3 := hF.size
    replace hF := hF.thenN f3
    refine wl (ro_assign rfl) ?_
    refine wl_nil (x_then (hK3 _ _ ?_))
    clear hK3 K3
    refine forget [(1, _), (7, _), (8, _), (9, _), (10, _)] ⟨rfl, rfl, rfl, rfl, rfl, trivial⟩ (fun e => ?_)
    refine c_seq (fun K4 hK4 => ?_)
    refine c_reg ?_ -- region 3 law.go:72
    refine wl (ro_move rfl) ?_
    refine wl (ro_move rfl) ?_
    refine wl_call rfl en_23 ((MoV.mk q1 q2 q3).run (s := s) (fuel := 0) (by decide)) ?_
    rintro r2 u2 ⟨hr2, f2⟩
    unfold RunR at hr2
    rw [hp] at hr2
    subst hr2
    replace hF := hF.thenO f2 (.inr (by omega))
    refine wl_new (ze_56) (fun b11 w1 hbb11 h11 F1 => ?_)
    have hbsb11 := Nat.le_trans hF.size hbb11
    replace hF := hF.thenDrew.thenN F1
    refine wl_puta rfl rfl ((anc_one _)) sz_56 (rfl) h11 ((by simp)) (rfl) (fun w2 h11 F2 => ?_)
    replace hF := hF.thenDrew.thenO F2 (by first | exact .inr (by omega) | exact .inl rfl | exact .inl (by assumption) | assumption)
    refine wl_nil (x_then (hK4 _ _ ?_))
    clear hK4 K4
    refine c_seq (fun K5 hK5 => ?_)
    refine c_seq (fun K6 hK6 => ?_)
    refine c_reg ?_ -- region 4 law.go:73
    refine wl (ro_fieldAddr (k := 4) rfl fo_56_4) ?_
    refine wl (ro_loadB rfl sc_9 (h11) rfl) ?_
    refine wl (ro_eqS (r := true) rfl rfl rfl) ?_
    refine wl_nil (x_then (hK6 _ _ ?_))
    clear hK6 K6
    refine wc_condT rfl ?_
    refine c_seq (fun K7 hK7 => ?_)
    refine c_pi [(0, false), (1, false), (2, false), (3, false), (4, false), (5, false), (6, false), (7, false), (8, false), (9, false), (10, false), (11, false), (12, false), (13, false), (14, false), (15, false), (16, false)] (SameH _) mixed (by kernel_rfl) rfl (by kernel_rfl) (po_then (po_then (po_bp))) (sameH_now _ _) ?_ -- region 5 law.go:74
    refine pi_ro rfl (fun w hS => ro_move rfl) ?_
    refine pi_ro rfl (fun w hS => ro_eqS (r := true) rfl rfl rfl) ?_
    refine pi_ro rfl (fun w hS => ro_move rfl) ?_
    refine pi_gyes rfl rfl (fun w hS => ro_move rfl) ?_
    refine pi_gyes rfl rfl (fun w hS => ro_fieldAddr (k := 0) rfl fo_56_0) ?_
    refine pi_gyes rfl rfl (fun w hS => ro_loadB rfl sc_54 (Blk.of_heap h11 hS) rfl) ?_
    refine pi_gyes rfl rfl (fun w hS => ro_cmp (r := true) rfl rfl (congrArg some (by simp))) ?_
    refine pi_ro rfl (fun w hS => ro_pick rfl rfl rfl) ?_
    refine pi_ro rfl (fun w hS => ro_move rfl) ?_
    refine pi_gyes rfl rfl (fun w hS => ro_move rfl) ?_
    refine pi_gyes rfl rfl (fun w hS => ro_fieldAddr (k := 1) rfl fo_56_1) ?_
    refine pi_gyes rfl rfl (fun w hS => ro_loadB rfl sc_3 (Blk.of_heap h11 hS) rfl) ?_
    refine pi_gyes rfl rfl (fun w hS => ro_cmp (r := true) rfl rfl (congrArg some (by simp))) ?_
    refine pi_ro rfl (fun w hS => ro_pick rfl rfl rfl) ?_
    refine pi_ro rfl (fun w hS => ro_assign rfl) ?_
    refine pi_ro rfl (fun w hS => ro_assign rfl) ?_
    refine pi_ro rfl (fun w hS => ro_assign rfl) ?_
    refine pi_nil (x_then (hK7 _ _ ?_))
    clear hK7 K7
    refine c_ret (x_thenR ?_)
    refine bp_ret Tryz.results8 rfl ?_
    exact ⟨.inl ⟨_, _, rfl, rfl⟩, u1, hQ, hF.thenDrew⟩
  | inr x =>
    obtain ⟨t, k⟩ := x
    refine ret_of Tryz.func8 rfl Tryz.ntmps8 rfl ?_
    refine c_seq (fun K1 hK1 => ?_)
    refine c_reg ?_ -- region 0 law.go:69
    refine wl (ro_assign rfl) ?_
    refine wl (ro_assign rfl) ?_
    refine wl (ro_assign rfl) ?_
    refine wl_nil (x_then (hK1 _ _ ?_))
    clear hK1 K1
    refine forget [(0, _), (1, _)] ⟨rfl, rfl, trivial⟩ (fun e => ?_)
    refine c_seq (fun K2 hK2 => ?_)
    refine c_reg ?_ -- region 1 law.go:70
    refine wl (ro_move rfl) ?_
    refine wl (ro_move rfl) ?_
    refine wl_call rfl en_24 (hx) ?_
    rintro r1 u1 ⟨hI, hQ⟩
    unfold ImgR at hI
    rw [hp] at hI
    subst hI
    have hF : Fram none' u1 u1 := Fram.refl _ _
    refine wl (ro_move rfl) ?_
    refine wl (ro_extract rfl rfl) ?_
    refine wl (ro_extract rfl rfl) ?_
    refine wl (ro_extract rfl rfl) ?_
    refine wl (ro_assign rfl) ?_
    refine wl (ro_assign rfl) ?_
    refine wl (ro_assign rfl) ?_
    refine wl_nil (x_then (hK2 _ _ ?_))
    clear hK2 K2
    refine forget [(1, _), (7, _), (8, _), (9, _)] ⟨rfl, rfl, rfl, rfl, trivial⟩ (fun e => ?_)
    refine c_seq (fun K3 hK3 => ?_)
    refine c_reg ?_ -- region 2 law.go:71
    refine wl_call rfl en_6 (New6) ?_
    rintro _ u3 ⟨mc, nn, mt, ms, rfl, ⟨n1, n2, n3⟩, q1, q2, q3, f3⟩
    have hs3 := hF.size
    replace hF := hF.thenN f3
    refine wl (ro_assign rfl) ?_
    refine wl_nil (x_then (hK3 _ _ ?_))
    clear hK3 K3
    refine forget [(1, _), (7, _), (8, _), (9, _), (10, _)] ⟨rfl, rfl, rfl, rfl, rfl, trivial⟩ (fun e => ?_)
    refine c_seq (fun K4 hK4 => ?_)
    refine c_reg ?_ -- region 3 law.go:72
    refine wl (ro_move rfl) ?_
    refine wl (ro_move rfl) ?_
    refine wl_call rfl en_23 ((MoV.mk q1 q2 q3).run (s := s) (fuel := 0) (by decide)) ?_
    rintro r2 u2 ⟨hr2, f2⟩
    unfold RunR at hr2
    rw [hp] at hr2
    obtain ⟨A, hA, rfl⟩ := hr2
    have hAT := ians_T hp hA
    have him : img (progF t (k + 1)) ≠ [] := by (unfold img; exact List.cons_ne_nil _ _)
    replace hF := hF.thenO f2 (.inr (by omega))
    refine wl_new (ze_56) (fun b11 w1 hbb11 h11 F1 => ?_)
    have hbsb11 := Nat.le_trans hF.size hbb11
    replace hF := hF.thenDrew.thenN F1
    refine wl_puta rfl rfl ((anc_one _)) sz_56 (rfl) h11 ((by simp)) (rfl) (fun w2 h11 F2 => ?_)
    replace hF := hF.thenDrew.thenO F2 (by first | exact .inr (by omega) | exact .inl rfl | exact .inl (by assumption) | assumption)
    refine wl_nil (x_then (hK4 _ _ ?_))
    clear hK4 K4
    refine c_seq (fun K5 hK5 => ?_)
    refine c_seq (fun K6 hK6 => ?_)
    refine c_reg ?_ -- region 4 law.go:73
    refine wl (ro_fieldAddr (k := 4) rfl fo_56_4) ?_
    refine wl (ro_loadB rfl sc_9 (h11) rfl) ?_
    refine wl (ro_eqS (r := false) rfl rfl (congrArg some (by simpa using hAT))) ?_
    refine wl_nil (x_then (hK6 _ _ ?_))
    clear hK6 K6
    refine wc_condF rfl ?_
    refine c_skip (x_then (hK5 _ _ ?_))
    clear hK5 K5
    refine forget [(7, _), (8, _), (9, _)] ⟨rfl, rfl, rfl, trivial⟩ (fun e => ?_)
    refine c_seq (fun K7 hK7 => ?_)
    refine c_reg ?_ -- region 6 law.go:76
    refine wl (ro_move rfl) ?_
    refine wl (ro_move rfl) ?_
    refine wl (ro_cmp (r := true) rfl rfl rfl) ?_
    refine wl (ro_move rfl) ?_
    refine wlg_yes rfl (ro_move rfl) ?_
    refine wlg_yes rfl (ro_cmp (r := true) rfl rfl rfl) ?_
    refine wl (ro_pick rfl rfl rfl) ?_
    refine wl (ro_move rfl) ?_
    refine wlg_yes rfl (ro_move rfl) ?_
    refine wlg_yes rfl (ro_eqS (r := true) rfl rfl (congrArg some (by simpa using him))) ?_
    refine wl (ro_pick rfl rfl rfl) ?_
    refine wl (ro_assign rfl) ?_
    refine wl (ro_assign rfl) ?_
    refine wl (ro_assign rfl) ?_
    refine wl_nil (x_then (hK7 _ _ ?_))
    clear hK7 K7
    refine c_ret ?_
    refine bp_ret Tryz.results8 rfl ?_
    exact ⟨.inr ⟨t, k, rfl, rfl⟩, u1, hQ, hF⟩
theorem pick43 {w : World} {c : Int} {n : Nat} (hn : 0 < n) (h1 : -9223372036854775808 ≤ c) (h2 : c ≤ 9223372036854775807) : Ret Tryz.prog 43 [icv c, i64c n] w (fun r w' => (∃ i, r = i64c i ∧ i < n) ∧ w' = w) := by
  have hrem : ∀ x : Int, 0 ≤ x → ∃ i : Nat, x.tmod (n : Int) = (i : Int) ∧ i < n := by
    intro x hx
    refine ⟨(x.tmod (n : Int)).toNat, ?_, ?_⟩
    · have := Int.tmod_nonneg (n : Int) hx; omega
    · have := Int.tmod_lt_of_pos x (show (0 : Int) < n by omega); have := Int.tmod_nonneg (n : Int) hx; omega
  refine ret_of Tryz.func43 rfl Tryz.ntmps43 rfl ?_
  refine c_seq (fun K1 hK1 => ?_)
  refine c_reg ?_ -- region 0 law.go:47
  refine wl (ro_assign rfl) ?_
  refine wl_nil (x_then (hK1 _ _ ?_))
  clear hK1 K1
  refine c_seq (fun K2 hK2 => ?_)
  refine c_seq (fun K3 hK3 => ?_)
  refine c_reg ?_ -- region 1 law.go:48
  refine wl (ro_move rfl) ?_
  refine wl (ro_cmp rfl rfl rfl) ?_
  refine wl_nil (x_then (hK3 _ _ ?_))
  clear hK3 K3
  refine wc_cond rfl (fun hc6 => ?_) (fun hc6 => ?_)
  · try simp only [decide_eq_true_eq, decide_eq_false_iff_not, Bool.not_eq_true', Bool.not_eq_false', Bool.not_eq_eq_eq_not, Bool.not_true, Bool.not_false, beq_iff_eq, bne_iff_ne, ne_eq, beq_eq_false_iff_ne, bne_eq_false_iff_eq, gt_iff_lt, ge_iff_le, Int.not_lt, Int.not_le] at hc6
    obtain ⟨i, hi, hin⟩ := hrem (-(c + 1)) (by omega)
    refine c_reg ?_ -- region 2 law.go:49
    refine wl (ro_move rfl) ?_
    refine wl (ro_arith rfl rfl rfl (Go.IntWalk.i64_in _ (by omega))) ?_
    refine wl (ro_neg rfl (⟨by omega, by omega⟩)) ?_
    refine wl (ro_assign rfl) ?_
    refine wl_nil (x_then (hK2 _ _ ?_))
    clear hK2 K2
    refine forget [(0, _), (1, _)] ⟨rfl, rfl, trivial⟩ (fun e => ?_)
    refine c_seq (fun K4 hK4 => ?_)
    refine c_reg ?_ -- region 3 law.go:51
    refine wl (ro_move rfl) ?_
    refine wl (ro_move rfl) ?_
    refine wl (ro_rem rfl rfl (by omega)) ?_
    refine wl (ro_assign rfl) ?_
    refine wl_nil (x_then (hK4 _ _ ?_))
    clear hK4 K4
    refine c_ret ?_
    refine bp_ret Tryz.results43 rfl ?_
    exact ⟨⟨i, by simp only [i64c]; rw [← hi], hin⟩, rfl⟩
  · try simp only [decide_eq_true_eq, decide_eq_false_iff_not, Bool.not_eq_true', Bool.not_eq_false', Bool.not_eq_eq_eq_not, Bool.not_true, Bool.not_false, beq_iff_eq, bne_iff_ne, ne_eq, beq_eq_false_iff_ne, bne_eq_false_iff_eq, gt_iff_lt, ge_iff_le, Int.not_lt, Int.not_le] at hc6
    obtain ⟨i, hi, hin⟩ := hrem c (by omega)
    refine c_skip (x_then (hK2 _ _ ?_))
    clear hK2 K2
    refine forget [(0, _), (1, _)] ⟨rfl, rfl, trivial⟩ (fun e => ?_)
    refine c_seq (fun K5 hK5 => ?_)
    refine c_reg ?_ -- region 3 law.go:51
    refine wl (ro_move rfl) ?_
    refine wl (ro_move rfl) ?_
    refine wl (ro_rem rfl rfl (by omega)) ?_
    refine wl (ro_assign rfl) ?_
    refine wl_nil (x_then (hK5 _ _ ?_))
    clear hK5 K5
    refine c_ret ?_
    refine bp_ret Tryz.results43 rfl ?_
    exact ⟨⟨i, by simp only [i64c]; rw [← hi], hin⟩, rfl⟩
end
end Go.Proofs.Qxb6500568aGreatDoor
