import Derived.Test.Qxb6500568aGreatDoorQr
import Derived.Test.Qxb6500568aGreatDoorJl
/- The law's parts: ran, imaged, executed. -/
namespace Go.Proofs.Qxb6500568aGreatDoor
open Ieee
set_option linter.unusedVariables false
set_option linter.unusedSimpArgs false
set_option linter.unusedSectionVars false

theorem itN_uniq {G : Arena} {root : Nat} : ∀ (n m : Nat) (s : IS), (itN G root n s).done = true → (itN G root m s).done = true → itN G root n s = itN G root m s
  | 0, 0, s, _, _ => rfl
  | 0, m + 1, s, h, _ => by
    have h : s.done = true := h
    show s = if s.done = true then s else _
    rw [if_pos h]
  | n + 1, 0, s, _, h => by
    have h : s.done = true := h
    show (if s.done = true then s else _) = s
    rw [if_pos h]
  | n + 1, m + 1, s, h1, h2 => by
    unfold itN at h1 h2 ⊢
    by_cases h : s.done = true
    · rw [if_pos h, if_pos h]
    · rw [if_neg h] at h1 h2 ⊢
      rw [if_neg h]
      exact itN_uniq n m _ h1 h2
theorem IAns.uniq {G : Arena} {root fuel : Nat} {A B : Ans} (h : IAns G root fuel A) (k : IAns G root fuel B) : A = B := by
  obtain ⟨n, h1, h2⟩ := h
  obtain ⟨m, k1, k2⟩ := k
  rw [← h2, ← k2, itN_uniq n m _ h1 k1]
theorem RunR.uniq {s : Str} {fuel : Nat} {r q : Value} (h : RunR s fuel r) (k : RunR s fuel q) : r = q := by
  unfold RunR at h k
  cases hp : prsV s with
  | inl x =>
    obtain ⟨e, p⟩ := x
    rw [hp] at h k
    exact h.trans k.symm
  | inr x =>
    obtain ⟨t, n⟩ := x
    rw [hp] at h k
    obtain ⟨A, h1, h2⟩ := h
    obtain ⟨B, k1, k2⟩ := k
    rw [h2, k2, h1.uniq k1]
theorem RunR.form {s : Str} {fuel : Nat} {r : Value} (h : RunR s fuel r) : ∃ A, r = .agg (anc A).toArray := by
  unfold RunR at h
  cases hp : prsV s with
  | inl x =>
    obtain ⟨e, p⟩ := x
    rw [hp] at h
    exact ⟨_, h⟩
  | inr x =>
    obtain ⟨t, n⟩ := x
    rw [hp] at h
    obtain ⟨A, h1, h2⟩ := h
    exact ⟨A, h2⟩
section
variable {w : World} {cb mc nn mt ms db : Nat} {s : Str} {fuel : Int} {G : Nat → Prop} {im : Str}
/-- a model's tower in memory. -/
structure MoV (w : World) (mc nn mt ms : Nat) : Prop where
  c : Blk w.heap mc [ptr nn, ptr mt, ptr ms] 53
  s : Blk w.heap ms [ptr nn] 101
  t : ∀ ow, ow mt = 40 → MTV w ow (ptr nn) mt []
def moS (mt : Nat) : Nat → Nat := ot (fun _ => 66) mt 40
theorem moS_m {b : Nat} (h : mtag (moS mt b)) : b = mt := by
  unfold moS ot at h
  split at h
  · assumption
  · exact absurd h nm66
theorem MoV.far {w' : World} (h : MoV w mc nn mt ms) (f : Fram G w w') (h1 : ¬ G mc) (h2 : ¬ G ms) (h3 : ¬ G mt) : MoV w' mc nn mt ms := by
  refine ⟨h.c.fram f h1, h.s.fram f h2, fun ow q => ?_⟩
  have := (h.t (moS mt) (ot_self _ _ _)).far f (fun b hb _ => by rw [moS_m hb]; exact h3) (Xt.refl _ _)
  refine this.retag fun b hb q2 => ?_
  rw [moS_m q2, q]
  exact (ot_self _ _ _).symm
/-- the model's run. -/
theorem MoV.run (h : MoV w mc nn mt ms) (hfu : fuel < 9223372036854775808) : Ret Tryz.prog 23 [ptr mc, S s, icv fuel] w (fun r w' => RunR s fuel.toNat r ∧ Fram (one mt) w w') :=
  (Run23 h.c h.s (h.t (moS mt) (ot_self _ _ _)) hfu).mono fun r w' ⟨h1, ow', T', x, m, f⟩ => ⟨h1, f.mono fun b _ q => moS_m q⟩
set_option maxHeartbeats 4000000 in
theorem ran7 (hm : MoV w mc nn mt ms) (hfu : fuel < 9223372036854775808) (hx : Ret Tryz.prog 22 [ptr cb, S s, icv fuel] w (fun r w' => RunR s fuel.toNat r ∧ Fram G w w')) (h1 : ¬ G mc) (h2 : ¬ G ms) (h3 : ¬ G mt) :
    Ret Tryz.prog 7 [ptr cb, ptr mc, S s, icv fuel] w (fun r w' => r = .bool true ∧ Fram (fun b => G b ∨ b = mt) w w') := by
  have hF : Fram (fun b => G b ∨ b = mt) w w := Fram.refl _ _
  refine ret_of Tryz.func7 rfl Tryz.ntmps7 rfl ?_
  refine c_seq (fun K1 hK1 => ?_)
  refine c_reg ?_ -- region 0 law.go:62
  refine wl (ro_assign rfl) ?_
  refine wl_nil (x_then (hK1 _ _ ?_))
  clear hK1 K1
  refine forget [(0, _), (1, _), (2, _), (3, _)] ⟨rfl, rfl, rfl, rfl, trivial⟩ (fun e => ?_)
  refine c_seq (fun K2 hK2 => ?_)
  refine c_reg ?_ -- region 1 law.go:63
  refine wl (ro_move rfl) ?_
  refine wl (ro_move rfl) ?_
  refine wl (ro_move rfl) ?_
  refine wl_call rfl en_22 (hx) ?_
  rintro r1 u1 ⟨hr1, f1⟩
  have hm1 := hm.far f1 h1 h2 h3
  replace hF := hF.trans' f1 (fun _ _ q ↦ .inl q)
  obtain ⟨A, rfl⟩ := hr1.form
  have hlt : mt < u1.heap.size := by obtain ⟨V, rows, q, -⟩ := (hm1.t (moS mt) (ot_self _ _ _)).ex; exact q.lt
  have hU : Fram none' u1 u1 := Fram.refl _ _
  refine wl_new (ze_56) (fun b9 w1 hbb9 h9 F1 => ?_)
  have hbsb9 := Nat.le_trans hF.size hbb9
  have hbsb9 := Nat.le_trans hU.size hbb9
  replace hF := hF.thenDrew.thenN F1
  replace hU := hU.thenDrew.thenN F1
  refine wl_puta rfl rfl ((anc_one _)) sz_56 (rfl) h9 ((by simp)) (rfl) (fun w2 h9 F2 => ?_)
  replace hF := hF.thenDrew.thenO F2 (by first | exact .inr (by omega) | exact .inl rfl | exact .inl (by assumption) | assumption)
  replace hU := hU.thenDrew.thenO F2 (by first | exact .inr (by omega) | exact .inl rfl | exact .inl (by assumption) | assumption)
  refine wl_nil (x_then (hK2 _ _ ?_))
  clear hK2 K2
  refine forget [(1, _), (2, _), (3, _), (9, _)] ⟨rfl, rfl, rfl, rfl, trivial⟩ (fun e => ?_)
  refine c_seq (fun K3 hK3 => ?_)
  refine c_reg ?_ -- region 2 law.go:64
  refine wl (ro_move rfl) ?_
  refine wl (ro_move rfl) ?_
  refine wl (ro_move rfl) ?_
  refine wl_call rfl en_23 ((hm1.far hU (fun q ↦ q) (fun q ↦ q) (fun q ↦ q)).run (s := s) hfu) ?_
  rintro r2 u2 ⟨hr2, f2⟩
  obtain rfl := hr2.uniq hr1
  have hnt : mt ≠ b9 := by omega
  replace h9 := f2.blkO h9 hnt.symm
  replace hF := hF.trans' f2 (fun b _ q ↦ .inr q)
  refine wl_new (ze_56) (fun b10 w3 hbb10 h10 F3 => ?_)
  have hbsb10 := Nat.le_trans hF.size hbb10
  have hneb9b10 : b9 < b10 := Nat.lt_of_lt_of_le h9.lt hbb10
  replace hF := hF.thenDrew.thenN F3
  replace h9 := F3.blkN h9
  refine wl_puta rfl rfl ((anc_one _)) sz_56 (rfl) h10 ((by simp)) (rfl) (fun w4 h10 F4 => ?_)
  replace hF := hF.thenDrew.thenO F4 (by first | exact .inr (by omega) | exact .inl rfl | exact .inl (by assumption) | assumption)
  replace h9 := F4.blkO h9 (by omega)
  refine wl_nil (x_then (hK3 _ _ ?_))
  clear hK3 K3
  refine forget [(9, _), (10, _)] ⟨rfl, rfl, trivial⟩ (fun e => ?_)
  refine c_seq (fun K4 hK4 => ?_)
  refine c_reg ?_ -- region 3 law.go:65
  refine wl (ro_loadAggB rfl ag_56 (h9) rfl rfl) ?_
  refine wl (ro_loadAggB rfl ag_56 (h10) rfl rfl) ?_
  refine wl (ro_eqAns rfl rfl) ?_
  refine wl (ro_assign rfl) ?_
  refine wl_nil (x_then (hK4 _ _ ?_))
  clear hK4 K4
  refine c_ret ?_
  refine bp_ret Tryz.results7 rfl ?_
  exact ⟨rfl, hF⟩
set_option maxHeartbeats 4000000 in
theorem executed10 (hfu : fuel < 9223372036854775808) (hx : Ret Tryz.prog 25 [ptr db, S im, icv fuel] w (fun r w' => RunR s fuel.toNat r ∧ Fram G w w')) :
    Ret Tryz.prog 10 [ptr db, S im, S s, icv fuel] w (fun r w' => r = .bool true ∧ Fram G w w') := by
  have hF : Fram G w w := Fram.refl _ _
  refine ret_of Tryz.func10 rfl Tryz.ntmps10 rfl ?_
  refine c_seq (fun K1 hK1 => ?_)
  refine c_reg ?_ -- region 0 law.go:80
  refine wl (ro_assign rfl) ?_
  refine wl_nil (x_then (hK1 _ _ ?_))
  clear hK1 K1
  refine forget [(0, _), (1, _), (2, _), (3, _)] ⟨rfl, rfl, rfl, rfl, trivial⟩ (fun e => ?_)
  refine c_seq (fun K2 hK2 => ?_)
  refine c_reg ?_ -- region 1 law.go:81
  refine wl (ro_move rfl) ?_
  refine wl (ro_move rfl) ?_
  refine wl (ro_move rfl) ?_
  refine wl_call rfl en_25 (hx) ?_
  rintro r1 u1 ⟨hr1, f1⟩
  replace hF := hF.trans' f1 (fun _ _ q ↦ q)
  obtain ⟨A, rfl⟩ := hr1.form
  refine wl_new (ze_56) (fun b9 w1 hbb9 h9 F1 => ?_)
  have hbsb9 := Nat.le_trans hF.size hbb9
  replace hF := hF.thenDrew.thenN F1
  refine wl_puta rfl rfl ((anc_one _)) sz_56 (rfl) h9 ((by simp)) (rfl) (fun w2 h9 F2 => ?_)
  replace hF := hF.thenDrew.thenO F2 (by first | exact .inr (by omega) | exact .inl rfl | exact .inl (by assumption) | assumption)
  refine wl_nil (x_then (hK2 _ _ ?_))
  clear hK2 K2
  refine forget [(2, _), (3, _), (9, _)] ⟨rfl, rfl, rfl, trivial⟩ (fun e => ?_)
  refine c_seq (fun K3 hK3 => ?_)
  refine c_reg ?_ -- region 2 law.go:82
  refine wl_call rfl en_6 (New6) ?_
  rintro _ u3 ⟨mc, nn, mt, ms, rfl, ⟨n1, n2, n3⟩, q1, q2, q3, f3⟩
  have hlt9 := h9.lt
  have hs3 := hF.size
  replace h9 := f3.blkN h9
  replace hF := hF.thenN f3
  refine wl (ro_assign rfl) ?_
  refine wl_nil (x_then (hK3 _ _ ?_))
  clear hK3 K3
  refine forget [(2, _), (3, _), (9, _), (10, _)] ⟨rfl, rfl, rfl, rfl, trivial⟩ (fun e => ?_)
  refine c_seq (fun K4 hK4 => ?_)
  refine c_reg ?_ -- region 3 law.go:83
  refine wl (ro_move rfl) ?_
  refine wl (ro_move rfl) ?_
  refine wl (ro_move rfl) ?_
  refine wl_call rfl en_23 ((MoV.mk q1 q2 q3).run (s := s) hfu) ?_
  rintro r2 u2 ⟨hr2, f2⟩
  obtain rfl := hr2.uniq hr1
  have hnt : mt ≠ b9 := by omega
  replace h9 := f2.blkO h9 hnt.symm
  replace hF := hF.thenO f2 (.inr (by omega))
  refine wl_new (ze_56) (fun b11 w3 hbb11 h11 F3 => ?_)
  have hbsb11 := Nat.le_trans hF.size hbb11
  have hneb9b11 : b9 < b11 := Nat.lt_of_lt_of_le h9.lt hbb11
  replace hF := hF.thenDrew.thenN F3
  replace h9 := F3.blkN h9
  refine wl_puta rfl rfl ((anc_one _)) sz_56 (rfl) h11 ((by simp)) (rfl) (fun w4 h11 F4 => ?_)
  replace hF := hF.thenDrew.thenO F4 (by first | exact .inr (by omega) | exact .inl rfl | exact .inl (by assumption) | assumption)
  replace h9 := F4.blkO h9 (by omega)
  refine wl_nil (x_then (hK4 _ _ ?_))
  clear hK4 K4
  refine forget [(9, _), (11, _)] ⟨rfl, rfl, trivial⟩ (fun e => ?_)
  refine c_seq (fun K5 hK5 => ?_)
  refine c_reg ?_ -- region 4 law.go:84
  refine wl (ro_loadAggB rfl ag_56 (h9) rfl rfl) ?_
  refine wl (ro_loadAggB rfl ag_56 (h11) rfl rfl) ?_
  refine wl (ro_eqAns rfl rfl) ?_
  refine wl (ro_assign rfl) ?_
  refine wl_nil (x_then (hK5 _ _ ?_))
  clear hK5 K5
  refine c_ret ?_
  refine bp_ret Tryz.results10 rfl ?_
  exact ⟨rfl, hF⟩
set_option maxHeartbeats 8000000 in
theorem imaged8 {sb : Nat} {dp : Value} {oc : Nat → Nat} (hP : CpR w oc cb (ptr sb) dp) (hS : SyV w oc sb) (hG : GV w oc) (hT : ∀ t k A, prsV s = .inr (t, k) → IAns (arena t) (rt t 1) 0 A → A.T ≠ []) (hi : ∀ t k, prsV s = .inr (t, k) → img (progF t (k + 1)) ≠ []) :
    Ret Tryz.prog 8 [ptr cb, S s] w (fun r w' => ((∃ e p, prsV s = .inl (e, p) ∧ r = .tuple #[S [], .bool false, .bool true]) ∨ ∃ t k, prsV s = .inr (t, k) ∧ r = .tuple #[S (img (progF t (k + 1))), .bool true, .bool true]) ∧ Fram (tg oc imT) w w') := by
  have hF : Fram (tg oc imT) w w := Fram.refl _ _
  cases hp : prsV s with
  | inl x =>
    obtain ⟨e, p⟩ := x
    have he := prsV_err hp
    refine ret_of Tryz.func8 rfl Tryz.ntmps8 rfl ?_
    refine c_seq (fun K1 hK1 => ?_)
    refine c_reg ?_ -- region 0 law.go:69
    refine wl (ro_assign rfl) ?_
    refine wl (ro_assign rfl) ?_
    refine wl (ro_assign rfl) ?_
    refine wl_nil (x_then (hK1 _ _ ?_))
    clear hK1 K1
    refine forget [(0, _), (1, _)] ⟨rfl, rfl, trivial⟩ (fun e => ?_)
    refine c_seq (fun K2 hK2 => ?_)
    refine c_reg ?_ -- region 1 law.go:70
    refine wl (ro_move rfl) ?_
    refine wl (ro_move rfl) ?_
    refine wl_call rfl en_24 (Image24 (s := s) hP hS hG) ?_
    rintro r1 u1 ⟨hI, oc1, x1, hc1, hs1, f1⟩
    unfold ImgR at hI
    rw [hp] at hI
    subst hI
    replace hF := f1
    refine wl (ro_move rfl) ?_
    refine wl (ro_extract rfl rfl) ?_
    refine wl (ro_extract rfl rfl) ?_
    refine wl (ro_extract rfl rfl) ?_
    refine wl (ro_assign rfl) ?_
    refine wl (ro_assign rfl) ?_
    refine wl (ro_assign rfl) ?_
    refine wl_nil (x_then (hK2 _ _ ?_))
    clear hK2 K2
    refine forget [(1, _), (7, _), (8, _), (9, _)] ⟨rfl, rfl, rfl, rfl, trivial⟩ (fun e => ?_)
    refine c_seq (fun K3 hK3 => ?_)
    refine c_reg ?_ -- region 2 law.go:71
    refine wl_call rfl en_6 (New6) ?_
    rintro _ u3 ⟨mc, nn, mt, ms, rfl, ⟨n1, n2, n3⟩, q1, q2, q3, f3⟩
    have hs3 := hF.size
    replace hF := hF.thenN f3
    refine wl (ro_assign rfl) ?_
    refine wl_nil (x_then (hK3 _ _ ?_))
    clear hK3 K3
    refine forget [(1, _), (7, _), (8, _), (9, _), (10, _)] ⟨rfl, rfl, rfl, rfl, rfl, trivial⟩ (fun e => ?_)
    refine c_seq (fun K4 hK4 => ?_)
    refine c_reg ?_ -- region 3 law.go:72
    refine wl (ro_move rfl) ?_
    refine wl (ro_move rfl) ?_
    refine wl_call rfl en_23 ((MoV.mk q1 q2 q3).run (s := s) (fuel := 0) (by decide)) ?_
    rintro r2 u2 ⟨hr2, f2⟩
    unfold RunR at hr2
    rw [hp] at hr2
    subst hr2
    replace hF := hF.thenO f2 (.inr (by omega))
    refine wl_new (ze_56) (fun b11 w1 hbb11 h11 F1 => ?_)
    have hbsb11 := Nat.le_trans hF.size hbb11
    replace hF := hF.thenDrew.thenN F1
    refine wl_puta rfl rfl ((anc_one _)) sz_56 (rfl) h11 ((by simp)) (rfl) (fun w2 h11 F2 => ?_)
    replace hF := hF.thenDrew.thenO F2 (by first | exact .inr (by omega) | exact .inl rfl | exact .inl (by assumption) | assumption)
    refine wl_nil (x_then (hK4 _ _ ?_))
    clear hK4 K4
    refine c_seq (fun K5 hK5 => ?_)
    refine c_seq (fun K6 hK6 => ?_)
    refine c_reg ?_ -- region 4 law.go:73
    refine wl (ro_fieldAddr (k := 4) rfl fo_56_4) ?_
    refine wl (ro_loadB rfl sc_9 (h11) rfl) ?_
    refine wl (ro_eqS (r := true) rfl rfl rfl) ?_
    refine wl_nil (x_then (hK6 _ _ ?_))
    clear hK6 K6
    refine wc_condT rfl ?_
    refine c_seq (fun K7 hK7 => ?_)
    refine c_pi [(0, false), (1, false), (2, false), (3, false), (4, false), (5, false), (6, false), (7, false), (8, false), (9, false), (10, false), (11, false), (12, false), (13, false), (14, false), (15, false), (16, false)] (SameH _) mixed (by kernel_rfl) rfl (by kernel_rfl) (po_then (po_then (po_bp))) (sameH_now _ _) ?_ -- region 5 law.go:74
    refine pi_ro rfl (fun w hS => ro_move rfl) ?_
    refine pi_ro rfl (fun w hS => ro_eqS (r := true) rfl rfl rfl) ?_
    refine pi_ro rfl (fun w hS => ro_move rfl) ?_
    refine pi_gyes rfl rfl (fun w hS => ro_move rfl) ?_
    refine pi_gyes rfl rfl (fun w hS => ro_fieldAddr (k := 0) rfl fo_56_0) ?_
    refine pi_gyes rfl rfl (fun w hS => ro_loadB rfl sc_54 (Blk.of_heap h11 hS) rfl) ?_
    refine pi_gyes rfl rfl (fun w hS => ro_cmp (r := true) rfl rfl (congrArg some (by simp))) ?_
    refine pi_ro rfl (fun w hS => ro_pick rfl rfl rfl) ?_
    refine pi_ro rfl (fun w hS => ro_move rfl) ?_
    refine pi_gyes rfl rfl (fun w hS => ro_move rfl) ?_
    refine pi_gyes rfl rfl (fun w hS => ro_fieldAddr (k := 1) rfl fo_56_1) ?_
    refine pi_gyes rfl rfl (fun w hS => ro_loadB rfl sc_3 (Blk.of_heap h11 hS) rfl) ?_
    refine pi_gyes rfl rfl (fun w hS => ro_cmp (r := true) rfl rfl (congrArg some (by simp))) ?_
    refine pi_ro rfl (fun w hS => ro_pick rfl rfl rfl) ?_
    refine pi_ro rfl (fun w hS => ro_assign rfl) ?_
    refine pi_ro rfl (fun w hS => ro_assign rfl) ?_
    refine pi_ro rfl (fun w hS => ro_assign rfl) ?_
    refine pi_nil (x_then (hK7 _ _ ?_))
    clear hK7 K7
    refine c_ret (x_thenR ?_)
    refine bp_ret Tryz.results8 rfl ?_
    exact ⟨.inl ⟨_, _, rfl, rfl⟩, hF.thenDrew⟩
  | inr x =>
    obtain ⟨t, k⟩ := x
    refine ret_of Tryz.func8 rfl Tryz.ntmps8 rfl ?_
    refine c_seq (fun K1 hK1 => ?_)
    refine c_reg ?_ -- region 0 law.go:69
    refine wl (ro_assign rfl) ?_
    refine wl (ro_assign rfl) ?_
    refine wl (ro_assign rfl) ?_
    refine wl_nil (x_then (hK1 _ _ ?_))
    clear hK1 K1
    refine forget [(0, _), (1, _)] ⟨rfl, rfl, trivial⟩ (fun e => ?_)
    refine c_seq (fun K2 hK2 => ?_)
    refine c_reg ?_ -- region 1 law.go:70
    refine wl (ro_move rfl) ?_
    refine wl (ro_move rfl) ?_
    refine wl_call rfl en_24 (Image24 (s := s) hP hS hG) ?_
    rintro r1 u1 ⟨hI, oc1, x1, hc1, hs1, f1⟩
    unfold ImgR at hI
    rw [hp] at hI
    subst hI
    replace hF := f1
    refine wl (ro_move rfl) ?_
    refine wl (ro_extract rfl rfl) ?_
    refine wl (ro_extract rfl rfl) ?_
    refine wl (ro_extract rfl rfl) ?_
    refine wl (ro_assign rfl) ?_
    refine wl (ro_assign rfl) ?_
    refine wl (ro_assign rfl) ?_
    refine wl_nil (x_then (hK2 _ _ ?_))
    clear hK2 K2
    refine forget [(1, _), (7, _), (8, _), (9, _)] ⟨rfl, rfl, rfl, rfl, trivial⟩ (fun e => ?_)
    refine c_seq (fun K3 hK3 => ?_)
    refine c_reg ?_ -- region 2 law.go:71
    refine wl_call rfl en_6 (New6) ?_
    rintro _ u3 ⟨mc, nn, mt, ms, rfl, ⟨n1, n2, n3⟩, q1, q2, q3, f3⟩
    have hs3 := hF.size
    replace hF := hF.thenN f3
    refine wl (ro_assign rfl) ?_
    refine wl_nil (x_then (hK3 _ _ ?_))
    clear hK3 K3
    refine forget [(1, _), (7, _), (8, _), (9, _), (10, _)] ⟨rfl, rfl, rfl, rfl, rfl, trivial⟩ (fun e => ?_)
    refine c_seq (fun K4 hK4 => ?_)
    refine c_reg ?_ -- region 3 law.go:72
    refine wl (ro_move rfl) ?_
    refine wl (ro_move rfl) ?_
    refine wl_call rfl en_23 ((MoV.mk q1 q2 q3).run (s := s) (fuel := 0) (by decide)) ?_
    rintro r2 u2 ⟨hr2, f2⟩
    unfold RunR at hr2
    rw [hp] at hr2
    obtain ⟨A, hA, rfl⟩ := hr2
    have hAT := hT t k A hp hA
    have him := hi t k hp
    replace hF := hF.thenO f2 (.inr (by omega))
    refine wl_new (ze_56) (fun b11 w1 hbb11 h11 F1 => ?_)
    have hbsb11 := Nat.le_trans hF.size hbb11
    replace hF := hF.thenDrew.thenN F1
    refine wl_puta rfl rfl ((anc_one _)) sz_56 (rfl) h11 ((by simp)) (rfl) (fun w2 h11 F2 => ?_)
    replace hF := hF.thenDrew.thenO F2 (by first | exact .inr (by omega) | exact .inl rfl | exact .inl (by assumption) | assumption)
    refine wl_nil (x_then (hK4 _ _ ?_))
    clear hK4 K4
    refine c_seq (fun K5 hK5 => ?_)
    refine c_seq (fun K6 hK6 => ?_)
    refine c_reg ?_ -- region 4 law.go:73
    refine wl (ro_fieldAddr (k := 4) rfl fo_56_4) ?_
    refine wl (ro_loadB rfl sc_9 (h11) rfl) ?_
    refine wl (ro_eqS (r := false) rfl rfl (congrArg some (by simpa using hAT))) ?_
    refine wl_nil (x_then (hK6 _ _ ?_))
    clear hK6 K6
    refine wc_condF rfl ?_
    refine c_skip (x_then (hK5 _ _ ?_))
    clear hK5 K5
    refine forget [(7, _), (8, _), (9, _)] ⟨rfl, rfl, rfl, trivial⟩ (fun e => ?_)
    refine c_seq (fun K7 hK7 => ?_)
    refine c_reg ?_ -- region 6 law.go:76
    refine wl (ro_move rfl) ?_
    refine wl (ro_move rfl) ?_
    refine wl (ro_cmp (r := true) rfl rfl rfl) ?_
    refine wl (ro_move rfl) ?_
    refine wlg_yes rfl (ro_move rfl) ?_
    refine wlg_yes rfl (ro_cmp (r := true) rfl rfl rfl) ?_
    refine wl (ro_pick rfl rfl rfl) ?_
    refine wl (ro_move rfl) ?_
    refine wlg_yes rfl (ro_move rfl) ?_
    refine wlg_yes rfl (ro_eqS (r := true) rfl rfl (congrArg some (by simpa using him))) ?_
    refine wl (ro_pick rfl rfl rfl) ?_
    refine wl (ro_assign rfl) ?_
    refine wl (ro_assign rfl) ?_
    refine wl (ro_assign rfl) ?_
    refine wl_nil (x_then (hK7 _ _ ?_))
    clear hK7 K7
    refine c_ret ?_
    refine bp_ret Tryz.results8 rfl ?_
    exact ⟨.inr ⟨t, k, rfl, rfl⟩, hF⟩
end
end Go.Proofs.Qxb6500568aGreatDoor
