import Derived.Test.Qxb6500568aGreatDoorYv
/- The interpreter: step, tasks of the kinds 19 to 21. -/
namespace Go.Proofs.Qxb6500568aGreatDoor
open Ieee
set_option linter.unusedVariables false
set_option linter.unusedSimpArgs false
set_option linter.unusedSectionVars false

set_option maxHeartbeats 8000000 in
theorem step33_19 {G : Arena} {root : Nat} {np : Value} {tb rb : Nat} {nv : Value} {w : World} {ow : Nat → Nat} {β τ : List Nat} {m : Nat} {s : IS} (hR : RM G root np tb rb nv w ow β τ m s) (hG : 0 < G.length) (hAG : AOK G) (h0K : (nd G 0).K = 0) (hI : IA G root s) (ht0 : 0 < s.tabs.length) (hm : m ≤ 19900) {tn tx te : Nat} {r : List Tk} (htk : s.th.tasks = ⟨19, tn, tx, te⟩ :: r) :
    Ret Tryz.prog 33 [ptr rb] w (fun r w' => r = .tuple #[] ∧ ∃ bs τ', RP G root np tb rb nv w ow (β ++ bs) (τ ++ τ') (m + 12) (istep G root s) w') := by
  obtain ⟨hok, hnu, htb, T, h, P0, hT0⟩ := hI
  have hTe := P0.t.symm.trans htk
  subst hTe
  have hF : Fram (tg ow cmT) w w := Fram.refl _ _
  have hX : Xt w ow ow := Xt.refl _ _
  have hmr := hR.mem_r
  have hgoal : istep G root s = istep1 G root ⟨19, tn, tx, te⟩ s (s.setT { s.th with tasks := r }) := by unfold istep; rw [htk]
  have het : te ≤ s.envs.length := by have q := hT0; unfold TkI at q; exact q.1
  have hel : te ≤ β.length := by rw [hR.el]; exact het
  have heP : EP β te (epo β te) := EP.mk' hel
  have htl : s.th.tasks.length = r.length + 1 := by rw [htk]; rfl
  have hcl0 := P0.cl
  have hokP : IOK (s.setT { s.th with tasks := r }) := hok.setT hok.th
  have hP0 : 0 < (s.setT { s.th with tasks := r }).tabs.length := ht0
  have htop : ∀ i, (s.setT { s.th with tasks := r }).top i = s.top i := fun i => by unfold IS.top; rw [th_setT hcl0]
  have hclP : (s.setT { s.th with tasks := r }).cur < (s.setT { s.th with tasks := r }).ths.length := by simpa [IS.setT] using hcl0
  have hetP : te ≤ (s.setT { s.th with tasks := r }).envs.length := het
  have P : PW G root (s.setT { s.th with tasks := r }) r h := P0.pop (t := ⟨19, tn, tx, te⟩) (show (19 : Nat) ≠ 3 by decide)
  obtain ⟨-, hn, -, hf, hk, hT⟩ := hT0.inv (t := ⟨19, tn, tx, te⟩) (show (19 : Nat) ≠ 3 by decide)
  have hn : tn < G.length := hn
  have hvl : (s.setT { s.th with tasks := r }).th.vals.length = h := P.v
  have hokt : ∀ i, ok (s.setT { s.th with tasks := r }) ((s.setT { s.th with tasks := r }).top i) := fun i => IOK.getD hokP.th i
  have hnh := hokP.nh
  have hnc := hokP.nc
  have hnn := (hAG tn).1
  obtain ⟨gn, capn, ln, rfl, hN, khN, hcapn, hrow⟩ := hR.nodes hG
  obtain ⟨pn, hpn⟩ := hrow tn hn
  have hf9 : ∀ {u : World} {ow' : Nat → Nat} {m' : Nat} {s' : IS} {bs τ' : List Nat}, Xt w ow ow' → Fram (tg ow cmT) w u → RM G root np tb rb (.slice (some ⟨gn, 0, none⟩) G.length capn) u ow' (β ++ bs) (τ ++ τ') m' s' → m' ≤ m + 12 → ∃ bs τ', RP G root np tb rb (.slice (some ⟨gn, 0, none⟩) G.length capn) w ow (β ++ bs) (τ ++ τ') (m + 12) s' u := fun {_ _ _ _ bs τ'} h1 h2 h3 h4 => ⟨bs, τ', _, h1, h2, h3.le h4⟩
  have hf0 : ∀ {u : World} {ow' : Nat → Nat} {m' : Nat} {s' : IS}, Xt w ow ow' → Fram (tg ow cmT) w u → RM G root np tb rb (.slice (some ⟨gn, 0, none⟩) G.length capn) u ow' β τ m' s' → m' ≤ m + 12 → ∃ bs τ', RP G root np tb rb (.slice (some ⟨gn, 0, none⟩) G.length capn) w ow (β ++ bs) (τ ++ τ') (m + 12) s' u := fun h1 h2 h3 h4 => hf9 (bs := []) (τ' := []) h1 h2 (by rw [List.append_nil, List.append_nil]; exact h3) h4
  have hf1 : ∀ {u : World} {ow' : Nat → Nat} {m' : Nat} {s' : IS} {bs : List Nat}, Xt w ow ow' → Fram (tg ow cmT) w u → RM G root np tb rb (.slice (some ⟨gn, 0, none⟩) G.length capn) u ow' (β ++ bs) τ m' s' → m' ≤ m + 12 → ∃ bs τ', RP G root np tb rb (.slice (some ⟨gn, 0, none⟩) G.length capn) w ow (β ++ bs) (τ ++ τ') (m + 12) s' u := fun {_ _ _ _ bs} h1 h2 h3 h4 => hf9 (bs := bs) (τ' := []) h1 h2 (by rw [List.append_nil]; exact h3) h4
  have hf2 : ∀ {u : World} {ow' : Nat → Nat} {m' : Nat} {s' : IS} {b1 b2 : Nat}, Xt w ow ow' → Fram (tg ow cmT) w u → RM G root np tb rb (.slice (some ⟨gn, 0, none⟩) G.length capn) u ow' (β ++ [b1] ++ [b2]) τ m' s' → m' ≤ m + 12 → ∃ bs τ', RP G root np tb rb (.slice (some ⟨gn, 0, none⟩) G.length capn) w ow (β ++ bs) (τ ++ τ') (m + 12) s' u := fun {_ _ _ _ b1 b2} h1 h2 h3 h4 => hf9 (bs := [b1, b2]) (τ' := []) h1 h2 (by rw [List.append_nil]; rw [List.append_assoc] at h3; exact h3) h4
  refine ret_of Tryz.func33 rfl Tryz.ntmps33 rfl ?_
  refine c_seq (fun K1 hK1 => ?_)
  obtain ⟨cv, a0, a1, a2, a3, a4, gT, capT, lT, bT, tvT, vvT, hXr, hO, hlT, hcapT, hbT, hTh, hgT⟩ := hR.open
  have hB := hTh.k
  have hkb := hTh.t
  have hclT := hR.cl
  unfold rnc at hXr
  have hk70 := hR.t70
  have hbdd := hR.bdm
  refine c_pi [(0, false), (1, false), (2, false), (3, false), (4, false), (5, false), (6, false), (7, false), (8, false), (9, false), (10, false)] (SameH _) mixed (by kernel_rfl) rfl (by kernel_rfl) (po_then (po_bp)) (sameH_now _ _) ?_ -- region 0 compm.go:509
  refine pi_ro rfl (fun w hS => ro_move rfl) ?_
  refine pi_ro rfl (fun w hS => ro_nilCheck rfl) ?_
  refine pi_ro rfl (fun w hS => ro_fieldAddr (k := 5) rfl fo_112_5) ?_
  refine pi_ro rfl (fun w hS => ro_loadB rfl sc_109 (Blk.of_heap (by assumption) hS) rfl) ?_
  refine pi_ro rfl (fun w hS => ro_move rfl) ?_
  refine pi_ro rfl (fun w hS => ro_nilCheck rfl) ?_
  refine pi_ro rfl (fun w hS => ro_fieldAddr (k := 12) rfl fo_112_8) ?_
  refine pi_ro rfl (fun w hS => ro_loadB rfl sc_3 (Blk.of_heap (by assumption) hS) rfl) ?_
  refine pi_ro rfl (fun w hS => ro_indexAddr (et := 123) (k := 1) rfl rfl se_109 rfl (by omega)) ?_
  refine pi_ro rfl (fun w hS => ro_loadB rfl sc_123 (Blk.of_heap hO hS) (hlT)) ?_
  refine pi_ro rfl (fun w hS => ro_assign rfl) ?_
  refine pi_nil (x_then (hK1 _ _ ?_))
  clear hK1 K1
  refine forget [(0, _), (2, _)] ⟨rfl, rfl, trivial⟩ (fun e => ?_)
  refine c_seq (fun K2 hK2 => ?_)
  have hts0 := hTh.ts
  rw [htk] at hts0
  obtain ⟨gt, capt, lt, e1, hV, q1, q2, q3, q4⟩ := hts0.atR (tsc_len β) (j := 0) rfl
  subst e1
  obtain ⟨va, vc, rfl⟩ := hTh.vs.form
  have hrl : ((⟨19, tn, tx, te⟩ : Tk) :: r).length = r.length + 1 := rfl
  refine c_piL 13 [(0, false), (1, false), (2, false), (3, false), (4, false), (5, false), (6, false), (7, false), (8, false), (9, false), (10, false), (11, false), (12, true)] (La bT _ _ (La gt _ _ (fun _ => True))) mixed (by kernel_rfl) rfl (by kernel_rfl) (po_then (po_bp)) (⟨hB, hV, trivial⟩) ?_ -- region 1 compm.go:510
  refine ql_ro rfl (fun w hS => ro_move rfl) ?_
  refine ql_ro rfl (fun w hS => ro_nilCheck rfl) ?_
  refine ql_ro rfl (fun w hS => ro_fieldAddr (k := 3) rfl fo_126_3) ?_
  refine ql_ro rfl (fun w hS => ro_loadB rfl sc_124 (hS.1) rfl) ?_
  refine ql_ro rfl (fun w hS => ro_move rfl) ?_
  refine ql_ro rfl (fun w hS => ro_nilCheck rfl) ?_
  refine ql_ro rfl (fun w hS => ro_fieldAddr (k := 3) rfl fo_126_3) ?_
  refine ql_ro rfl (fun w hS => ro_loadB rfl sc_124 (hS.1) rfl) ?_
  refine ql_ro rfl (fun w hS => ro_lenL rfl se_124) ?_
  refine ql_ro rfl (fun w hS => ro_arith rfl rfl rfl (Go.IntWalk.i64_in _ (by omega))) ?_
  refine ql_ro rfl (fun w hS => ro_indexAddr (et := 161) (k := 4) rfl rfl se_124 ((show ((((⟨19, tn, tx, te⟩ : Tk) :: r).length : Int) - 1) = ((((⟨19, tn, tx, te⟩ : Tk) :: r).length - 1 - 0 : Nat) : Int) by omega)) ((by omega))) ?_
  refine ql_ro rfl (fun w hS => ro_loadAggB rfl ag_161 (hS.2.1) (rfl) (q4)) ?_
  refine ql_new rfl ze_161 (fun w1 F ↦ ⟨F.blkN hB, F.blkN hV, trivial⟩) ?_
  intro b3 w1 hbb3 h3 F1
  have hbsb3 := Nat.le_trans hF.size hbb3
  have hnegnb3 : gn < b3 := Nat.lt_of_lt_of_le hN.lt hbb3
  have hnegTb3 : gT < b3 := Nat.lt_of_lt_of_le hO.lt hbb3
  have hnebTb3 : bT < b3 := Nat.lt_of_lt_of_le hB.lt hbb3
  have hnerbb3 : rb < b3 := Nat.lt_of_lt_of_le hXr.lt hbb3
  have hnegtb3 : gt < b3 := Nat.lt_of_lt_of_le hV.lt hbb3
  have kh3 := hR.df b3 hbb3
  replace hF := hF.thenDrew.thenN F1
  replace hR := hR.thruN ((Fram.refl none' _).thenDrew.thenN F1)
  replace hN := F1.blkN hN
  replace hO := F1.blkN hO
  replace hB := F1.blkN hB
  replace hXr := F1.blkN hXr
  replace hV := F1.blkN hV
  refine ql_puta rfl rfl rfl ((tsc_one _ _)) sz_161 (rfl) h3 ((by simp)) ((show _ = [i64c 19, i64c tn, i64c tx, .pointer (epo β te)] from rfl)) (fun w2 h3 F2 => ?_)
  replace hF := hF.thenDrew.thenO F2 (by first | exact .inr (by omega) | exact .inl rfl | exact .inl (by assumption) | assumption)
  replace hR := hR.hbput ((Fram.refl (one b3) _).thenDrew.thenO F2 (.inl rfl))
  replace hN := F2.blkO hN (by first | omega | exact ow_ne (by assumption) (by assumption) (by omega))
  replace hO := F2.blkO hO (by first | omega | exact ow_ne (by assumption) (by assumption) (by omega))
  replace hB := F2.blkO hB (by first | omega | exact ow_ne (by assumption) (by assumption) (by omega))
  replace hXr := F2.blkO hXr (by first | omega | exact ow_ne (by assumption) (by assumption) (by omega))
  replace hV := F2.blkO hV (by first | omega | exact ow_ne (by assumption) (by assumption) (by omega))
  refine x_then (hK2 _ _ ?_)
  clear hK2 K2
  refine forget [(0, _), (2, _), (3, _)] ⟨rfl, rfl, rfl, trivial⟩ (fun e => ?_)
  refine c_seq (fun K3 hK3 => ?_)
  obtain ⟨b0, hb0⟩ : ∃ b0, b0 = bT := ⟨_, rfl⟩
  subst hb0
  have hb0 := hbT
  clear hTh hkb hlT hbT hcapT hgT hclT hk70 hB hO hXr hV q4 q3 q2 q1 hts0
  obtain ⟨cv, a0, a1, a2, a3, a4, gT, capT, lT, bT, tvT, vvT, hXr, hO, hlT, hcapT, hbT, hTh, hgT⟩ := hR.open
  have hB := hTh.k
  have hkb := hTh.t
  have hclT := hR.cl
  unfold rnc at hXr
  have hk70 := hR.t70
  have hbe : bT = b0 := Option.some.inj (hbT.symm.trans hb0)
  subst hbe
  obtain ⟨ta, tc, rfl⟩ := hTh.ts.form
  obtain ⟨va2, vc2, rfl⟩ := hTh.vs.form
  have hcapt := hTh.ts.capge
  have htr := hTh.ts.dropR (tsc_len β) 1
  rw [htl, htk] at htr
  have hmb := hX.memC (hR.mem_b hR.cl hTh.t)
  refine c_piL 14 [(0, false), (1, false), (2, false), (3, false), (4, false), (5, false), (6, false), (7, false), (8, false), (9, false), (10, false), (11, false), (12, false), (13, false)] (SameH _) mixed (by kernel_rfl) rfl (by kernel_rfl) (po_then (po_bp)) (sameH_now _ _) ?_ -- region 2 compm.go:511
  refine ql_ro rfl (fun w hS => ro_move rfl) ?_
  refine ql_ro rfl (fun w hS => ro_move rfl) ?_
  refine ql_ro rfl (fun w hS => ro_nilCheck rfl) ?_
  refine ql_ro rfl (fun w hS => ro_fieldAddr (k := 3) rfl fo_126_3) ?_
  refine ql_ro rfl (fun w hS => ro_loadB rfl sc_124 (Blk.of_heap (by assumption) hS) rfl) ?_
  refine ql_ro rfl (fun w hS => ro_move rfl) ?_
  refine ql_ro rfl (fun w hS => ro_nilCheck rfl) ?_
  refine ql_ro rfl (fun w hS => ro_fieldAddr (k := 3) rfl fo_126_3) ?_
  refine ql_ro rfl (fun w hS => ro_loadB rfl sc_124 (Blk.of_heap (by assumption) hS) rfl) ?_
  refine ql_ro rfl (fun w hS => ro_lenL rfl se_124) ?_
  refine ql_ro rfl (fun w hS => ro_arith rfl rfl rfl (Go.IntWalk.i64_in _ (by omega))) ?_
  refine ql_ro rfl (fun w hS => ro_sliceH (h := r.length) rfl rfl se_124 (by omega) (by omega)) ?_
  refine ql_ro rfl (fun w hS => ro_nilCheck rfl) ?_
  refine ql_ro rfl (fun w hS => ro_fieldAddr (k := 3) rfl fo_126_3) ?_
  refine ql_put rfl rfl rfl rfl sz_124 hB ((by simp)) (rfl) (fun w3 hB F3 => ?_)
  replace hF := hF.thenDrew.thenO F3 (by first | exact .inr (by omega) | exact .inl rfl | exact .inl (by assumption) | assumption)
  replace hN := F3.blkO hN (by first | omega | exact ow_ne (by assumption) (by assumption) (by omega))
  replace h3 := F3.blkO h3 (by first | omega | exact ow_ne (by assumption) (by assumption) (by omega))
  replace hO := F3.blkO hO (by first | omega | exact ow_ne (by assumption) (by assumption) (by omega))
  replace hXr := F3.blkO hXr (by first | omega | exact ow_ne (by assumption) (by assumption) (by omega))
  have hR2 := hR.thr' (y := { s.th with tasks := r }) hbT hTh.t htr hTh.vs ((Fram.refl (one bT) _).thenDrew.thenO F3 (.inl rfl)) hB (fun z hz => hR.tem z (by rw [htk]; exact List.mem_cons_of_mem _ hz)) (by have := hR.bdm; rw [htl] at this; exact ⟨by show r.length ≤ m; omega, this.2⟩)
  replace hR := hR2
  obtain ⟨b0, hb1⟩ : ∃ b0, b0 = bT := ⟨_, rfl⟩
  subst hb1
  have hb0 : τ[(s.setT { s.th with tasks := r }).cur]? = some b0 := hbT
  clear hTh hkb hlT hbT hcapT hgT hclT hk70 hB hO hXr htr hmb hcapt hbdd
  generalize hsP : s.setT { s.th with tasks := r } = sP at *
  have hbdP := hR.bdm
  refine x_then (hK3 _ _ ?_)
  clear hK3 K3
  refine forget [(0, _), (2, _), (3, _)] ⟨rfl, rfl, rfl, trivial⟩ (fun e => ?_)
  refine c_seq (fun K4 hK4 => ?_)
  refine c_reg ?_ -- region 3 compm.go:512
  refine wl_new (ze_148) (fun b4 w4 hbb4 h4 F4 => ?_)
  have hbsb4 := Nat.le_trans hF.size hbb4
  have hnegnb4 : gn < b4 := Nat.lt_of_lt_of_le hN.lt hbb4
  have hneb3b4 : b3 < b4 := Nat.lt_of_lt_of_le h3.lt hbb4
  have kh4 := hR.df b4 hbb4
  replace hF := hF.thenDrew.thenN F4
  replace hN := F4.blkN hN
  replace h3 := F4.blkN h3
  replace hR := hR.thruN ((Fram.refl none' _).thenDrew.thenN F4)
  refine wl_nil (x_then (hK4 _ _ ?_))
  clear hK4 K4
  refine c_seq (fun K5 hK5 => ?_)
  refine c_seq (fun K6 hK6 => ?_)
  refine c_reg ?_ -- region 4 compm.go:513
  refine wl (ro_fieldAddr (k := 0) rfl fo_161_0) ?_
  refine wl (ro_loadB rfl sc_3 (by assumption) rfl) ?_
  refine wl (ro_cmp rfl rfl rfl) ?_
  refine wl_nil (x_then (hK6 _ _ ?_))
  clear hK6 K6
  refine wc_condT rfl ?_
  obtain ⟨cv, hv_, a0, a1, a2, a3, a4, hXr, hq2, hq3, hq4⟩ := hR.r
  unfold rnc at hXr
  have hk70 := hR.t70
  refine c_piL 8 [(0, false), (1, false), (2, false), (3, false), (4, false), (5, false), (6, false), (7, false)] (SameH _) mixed (by kernel_rfl) rfl (by kernel_rfl) (po_then (po_bp)) (sameH_now _ _) ?_ -- region 5 compm.go:514
  refine ql_ro rfl (fun w hS => ro_move rfl) ?_
  refine ql_ro rfl (fun w hS => ro_nilCheck rfl) ?_
  refine ql_ro rfl (fun w hS => ro_fieldAddr (k := 2) rfl fo_112_2) ?_
  refine ql_ro rfl (fun w hS => ro_loadB rfl sc_77 (Blk.of_heap (by assumption) hS) rfl) ?_
  refine ql_ro rfl (fun w hS => ro_fieldAddr (k := 1) rfl fo_161_1) ?_
  refine ql_ro rfl (fun w hS => ro_loadB rfl sc_3 (Blk.of_heap (by assumption) hS) rfl) ?_
  refine ql_ro rfl (fun w hS => ro_indexAddr (et := 148) (k := 8) rfl rfl se_77 (rfl) (hn)) ?_
  refine ql_ro rfl (fun w hS => ro_loadAggB rfl ag_148 (Blk.of_heap hN hS) (rfl) (hpn)) ?_
  refine ql_puta rfl rfl rfl ((ndc_one _)) sz_148 (rfl) h4 ((by simp)) ((show _ = ndc (nd G tn, pn) from rfl)) (fun w5 h4 F5 => ?_)
  replace hF := hF.thenDrew.thenO F5 (by first | exact .inr (by omega) | exact .inl rfl | exact .inl (by assumption) | assumption)
  replace hN := F5.blkO hN (by first | omega | exact ow_ne (by assumption) (by assumption) (by omega))
  replace h3 := F5.blkO h3 (by first | omega | exact ow_ne (by assumption) (by assumption) (by omega))
  replace hR := hR.hbput ((Fram.refl (one b4) _).thenDrew.thenO F5 (.inl rfl))
  replace hXr := F5.blkO hXr (by first | omega | exact ow_ne (by assumption) (by assumption) (by omega))
  refine x_then (hK5 _ _ ?_)
  clear hK5 K5
  refine forget [(0, _), (2, _), (3, _), (4, _)] ⟨rfl, rfl, rfl, rfl, trivial⟩ (fun e => ?_)
  refine c_seq (fun K7 hK7 => ?_)
  refine c_reg ?_ -- region 6 compm.go:516
  refine wl (ro_fieldAddr (k := 0) rfl fo_161_0) ?_
  refine wl (ro_loadB rfl sc_3 (by assumption) rfl) ?_
  refine wl_nil (x_then (hK7 _ _ ?_))
  clear hK7 K7
  refine c_block ?_
  refine forget [(0, _), (2, _), (3, _), (4, _), (92, _)] ⟨rfl, rfl, rfl, rfl, rfl, trivial⟩ (fun e => ?_)
  refine c_seq (fun K8 hK8 => ?_)
  refine c_reg ?_ -- region 7 compm.go:517
  refine wl (ro_cmp rfl rfl rfl) ?_
  refine wl (ro_assign rfl) ?_
  refine wl_nil (x_then (hK8 _ _ ?_))
  clear hK8 K8
  refine wc_condF rfl ?_
  refine c_seq (fun K9 hK9 => ?_)
  refine c_reg ?_ -- region 10 compm.go:521
  refine wl (ro_cmp rfl rfl rfl) ?_
  refine wl (ro_assign rfl) ?_
  refine wl_nil (x_then (hK9 _ _ ?_))
  clear hK9 K9
  refine wc_condF rfl ?_
  refine c_seq (fun K10 hK10 => ?_)
  refine c_reg ?_ -- region 12 compm.go:523
  refine wl (ro_cmp rfl rfl rfl) ?_
  refine wl (ro_assign rfl) ?_
  refine wl_nil (x_then (hK10 _ _ ?_))
  clear hK10 K10
  refine wc_condF rfl ?_
  refine c_seq (fun K11 hK11 => ?_)
  refine c_reg ?_ -- region 15 compm.go:526
  refine wl (ro_cmp rfl rfl rfl) ?_
  refine wl (ro_assign rfl) ?_
  refine wl_nil (x_then (hK11 _ _ ?_))
  clear hK11 K11
  refine wc_condF rfl ?_
  refine c_seq (fun K12 hK12 => ?_)
  refine c_reg ?_ -- region 16 compm.go:527
  refine wl (ro_cmp rfl rfl rfl) ?_
  refine wl (ro_assign rfl) ?_
  refine wl_nil (x_then (hK12 _ _ ?_))
  clear hK12 K12
  refine wc_condF rfl ?_
  refine c_seq (fun K13 hK13 => ?_)
  refine c_reg ?_ -- region 18 compm.go:529
  refine wl (ro_cmp rfl rfl rfl) ?_
  refine wl (ro_assign rfl) ?_
  refine wl_nil (x_then (hK13 _ _ ?_))
  clear hK13 K13
  refine wc_condF rfl ?_
  refine c_seq (fun K14 hK14 => ?_)
  refine c_reg ?_ -- region 21 compm.go:532
  refine wl (ro_cmp rfl rfl rfl) ?_
  refine wl (ro_assign rfl) ?_
  refine wl_nil (x_then (hK14 _ _ ?_))
  clear hK14 K14
  refine wc_condF rfl ?_
  refine c_seq (fun K15 hK15 => ?_)
  refine c_reg ?_ -- region 28 compm.go:539
  refine wl (ro_cmp rfl rfl rfl) ?_
  refine wl (ro_assign rfl) ?_
  refine wl_nil (x_then (hK15 _ _ ?_))
  clear hK15 K15
  refine wc_condF rfl ?_
  refine c_seq (fun K16 hK16 => ?_)
  refine c_reg ?_ -- region 31 compm.go:542
  refine wl (ro_cmp rfl rfl rfl) ?_
  refine wl (ro_assign rfl) ?_
  refine wl_nil (x_then (hK16 _ _ ?_))
  clear hK16 K16
  refine wc_condF rfl ?_
  refine c_seq (fun K17 hK17 => ?_)
  refine c_reg ?_ -- region 37 compm.go:550
  refine wl (ro_cmp rfl rfl rfl) ?_
  refine wl (ro_assign rfl) ?_
  refine wl_nil (x_then (hK17 _ _ ?_))
  clear hK17 K17
  refine wc_condF rfl ?_
  refine c_seq (fun K18 hK18 => ?_)
  refine c_reg ?_ -- region 42 compm.go:555
  refine wl (ro_cmp rfl rfl rfl) ?_
  refine wl (ro_assign rfl) ?_
  refine wl_nil (x_then (hK18 _ _ ?_))
  clear hK18 K18
  refine wc_condF rfl ?_
  refine c_seq (fun K19 hK19 => ?_)
  refine c_reg ?_ -- region 47 compm.go:562
  refine wl (ro_cmp rfl rfl rfl) ?_
  refine wl (ro_assign rfl) ?_
  refine wl_nil (x_then (hK19 _ _ ?_))
  clear hK19 K19
  refine wc_condF rfl ?_
  refine c_seq (fun K20 hK20 => ?_)
  refine c_reg ?_ -- region 50 compm.go:565
  refine wl (ro_cmp rfl rfl rfl) ?_
  refine wl (ro_assign rfl) ?_
  refine wl_nil (x_then (hK20 _ _ ?_))
  clear hK20 K20
  refine wc_condF rfl ?_
  refine c_seq (fun K21 hK21 => ?_)
  refine c_reg ?_ -- region 55 compm.go:571
  refine wl (ro_cmp rfl rfl rfl) ?_
  refine wl (ro_assign rfl) ?_
  refine wl_nil (x_then (hK21 _ _ ?_))
  clear hK21 K21
  refine wc_condF rfl ?_
  refine c_seq (fun K22 hK22 => ?_)
  refine c_reg ?_ -- region 58 compm.go:575
  refine wl (ro_cmp rfl rfl rfl) ?_
  refine wl (ro_assign rfl) ?_
  refine wl_nil (x_then (hK22 _ _ ?_))
  clear hK22 K22
  refine wc_condF rfl ?_
  refine c_seq (fun K23 hK23 => ?_)
  refine c_reg ?_ -- region 67 compm.go:588
  refine wl (ro_cmp rfl rfl rfl) ?_
  refine wl (ro_assign rfl) ?_
  refine wl_nil (x_then (hK23 _ _ ?_))
  clear hK23 K23
  refine wc_condF rfl ?_
  refine c_seq (fun K24 hK24 => ?_)
  refine c_reg ?_ -- region 78 compm.go:603
  refine wl (ro_cmp rfl rfl rfl) ?_
  refine wl (ro_assign rfl) ?_
  refine wl_nil (x_then (hK24 _ _ ?_))
  clear hK24 K24
  refine wc_condF rfl ?_
  refine c_seq (fun K25 hK25 => ?_)
  refine c_reg ?_ -- region 83 compm.go:609
  refine wl (ro_cmp rfl rfl rfl) ?_
  refine wl (ro_assign rfl) ?_
  refine wl_nil (x_then (hK25 _ _ ?_))
  clear hK25 K25
  refine wc_condF rfl ?_
  refine c_seq (fun K26 hK26 => ?_)
  refine c_reg ?_ -- region 89 compm.go:617
  refine wl (ro_cmp rfl rfl rfl) ?_
  refine wl (ro_assign rfl) ?_
  refine wl_nil (x_then (hK26 _ _ ?_))
  clear hK26 K26
  refine wc_condT rfl ?_
  refine c_seq (fun K27 hK27 => ?_)
  have hf : flT r + 2 ≤ h := hf
  obtain ⟨cv, a0, a1, a2, a3, a4, gT, capT, lT, bT, tvT, vvT, hXr, hO, hlT, hcapT, hbT, hTh, hgT⟩ := hR.open
  have hB := hTh.k
  have hkb := hTh.t
  have hclT := hR.cl
  unfold rnc at hXr
  have hk70 := hR.t70
  have hbe : bT = b0 := Option.some.inj (hbT.symm.trans hb0)
  subst hbe
  obtain ⟨gv, capv, lv, e1, hV, hcapv, hkv, hlv, hrv⟩ := hTh.vals (by omega)
  subst e1
  have hV0 := hV
  have hrv : ∀ j, j < sP.th.vals.length → (lv.drop (0 + (sP.th.vals.length - 1 - j) * 3)).take 3 = pvc (sP.top j) := hrv
  have hr0 := hrv 0 (by omega)
  have hr1 := hrv 1 (by omega)
  have hk : N2 G (nd G tn).A ∧ SB G (nd G tn).C r h 3 := hk
  obtain ⟨nma, nmb, hnm⟩ := hk.1
  have hAl := hnm.lt hG
  have hnm2 : IsNm G (nd G (nd G tn).A).Nx [nmb] := hnm.2.2.2
  have hAl2 := hnm2.lt hG
  obtain ⟨pA, hpA⟩ := hrow _ hAl
  obtain ⟨pA2, hpA2⟩ := hrow _ hAl2
  have ht4 : (sP.top 1).T = 4 := by rw [htop]; exact htb _ _ htk (.inl rfl)
  have htb1 := (hokt 1).tb ht4
  have helP : β.length = sP.envs.length := hR.el
  refine c_reg ?_ -- region 90 compm.go:618
  refine wl (ro_move rfl) ?_
  refine wl (ro_nilCheck rfl) ?_
  refine wl (ro_fieldAddr (k := 4) rfl fo_126_4) ?_
  refine wl (ro_loadB rfl sc_83 (by assumption) rfl) ?_
  refine wl (ro_lenL rfl se_83) ?_
  refine wl (ro_assign rfl) ?_
  refine wl_nil (x_then (hK27 _ _ ?_))
  clear hK27 K27
  refine forget [(0, _), (2, _), (3, _), (4, _), (26, _)] ⟨rfl, rfl, rfl, rfl, rfl, trivial⟩ (fun e => ?_)
  refine c_seq (fun K28 hK28 => ?_)
  have hBt := hB
  have hVt := hV
  refine c_piH 31 22 27 28 [0, 1, 2, 3, 4, 5, 6, 7, 8, 9, 10, 11, 12, 13, 14, 15, 16, 17, 18, 19, 20, 21] [23, 24, 25, 26] [(29, true), (30, true)] (La gn _ _ (La b3 _ _ (La b4 _ _ (La bT _ _ (La gv _ _ (Lz rb _ _ _)))))) mixed (by kernel_rfl) rfl (by kernel_rfl) (po_then (po_blk (po_bp))) (⟨hN, h3, h4, hBt, hVt, hR.rz⟩) ?_ -- region 91 compm.go:619
  refine wh_ro rfl (fun w hS => ro_move rfl) ?_
  refine wh_ro rfl (fun w hS => ro_nilCheck rfl) ?_
  refine wh_ro rfl (fun w hS => ro_fieldAddr (k := 1) rfl fo_112_1) ?_
  refine wh_ro rfl (fun w hS => let ⟨_, hc⟩ := hS.2.2.2.2.2; ro_loadB rfl sc_48 hc rfl) ?_
  refine wh_ro rfl (fun w hS => ro_move rfl) ?_
  refine wh_ro rfl (fun w hS => ro_nilCheck rfl) ?_
  refine wh_ro rfl (fun w hS => ro_fieldAddr (k := 4) rfl fo_126_4) ?_
  refine wh_ro rfl (fun w hS => ro_loadB rfl sc_83 (hS.2.2.2.1) rfl) ?_
  refine wh_ro rfl (fun w hS => ro_move rfl) ?_
  refine wh_ro rfl (fun w hS => ro_arith rfl rfl rfl (Go.IntWalk.i64_in _ (by omega))) ?_
  refine wh_ro rfl (fun w hS => ro_indexAddr (et := 119) (k := 3) rfl rfl se_83 ((show ((sP.th.vals.length : Int) - 2) = ((sP.th.vals.length - 1 - 1 : Nat) : Int) by omega)) ((by omega))) ?_
  refine wh_ro rfl (fun w hS => ro_fieldAddr (k := 1) rfl fo_119_1) ?_
  refine wh_ro rfl (fun w hS => ro_loadB rfl sc_117 (hS.2.2.2.2.1) (row_get hr1 (by decide))) ?_
  refine wh_ro rfl (fun w hS => ro_conv rfl sc_117 in_3 (Go.IntWalk.i64_in _ (by omega))) ?_
  refine wh_ro rfl (fun w hS => ro_move rfl) ?_
  refine wh_ro rfl (fun w hS => ro_nilCheck rfl) ?_
  refine wh_ro rfl (fun w hS => ro_fieldAddr (k := 4) rfl fo_126_4) ?_
  refine wh_ro rfl (fun w hS => ro_loadB rfl sc_83 (hS.2.2.2.1) rfl) ?_
  refine wh_ro rfl (fun w hS => ro_move rfl) ?_
  refine wh_ro rfl (fun w hS => ro_arith rfl rfl rfl (Go.IntWalk.i64_in _ (by omega))) ?_
  refine wh_ro rfl (fun w hS => ro_indexAddr (et := 119) (k := 3) rfl rfl se_83 ((show ((sP.th.vals.length : Int) - 1) = ((sP.th.vals.length - 1 - 0 : Nat) : Int) by omega)) ((by omega))) ?_
  refine wh_ro rfl (fun w hS => ro_loadAggB rfl ag_119 (hS.2.2.2.2.1) (rfl) (hr0)) ?_
  refine wh_nx (.tuple #[pv ((tNext (sP.tabs.getD (sP.top 1).N []) (sP.top 0)).getD (vNil, vNil)).1, pv ((tNext (sP.tabs.getD (sP.top 1).N []) (sP.top 0)).getD (vNil, vNil)).2, (icv (if (tNext (sP.tabs.getD (sP.top 1).N []) (sP.top 0)).isSome then 0 else 7))]) (pvc ((tNext (sP.tabs.getD (sP.top 1).N []) (sP.top 0)).getD (vNil, vNil)).1) (pvc ((tNext (sP.tabs.getD (sP.top 1).N []) (sP.top 0)).getD (vNil, vNil)).2) ((icv (if (tNext (sP.tabs.getD (sP.top 1).N []) (sP.top 0)).isSome then 0 else 7))) rfl rfl rfl rfl rfl rfl rfl rfl rfl rfl rfl (by decide) (by decide) rfl (fun _ => rfl) (fun _ => rfl) (fun _ _ => rfl) (fun _ _ => rfl) en_68 ze_119 sz_119 rfl rfl rfl (pvc_one _) (pvc_one _) (fun w1 F => (hR.dr.thruN F).next68' (n := (sP.top 1).N) (k := sP.top 0) htb1 (hokt 0).wf (hokt 0).w) (fun u F => ⟨F.blkN hN, F.blkN h3, F.blkN h4, F.blkN hBt, F.blkN hVt, (hR.dr.thruN F).rz⟩) ?_
  intro b27 b28 w6 hbb27 hbb28 hneb27b28 h27 h28 F6
  have hbsb27 := Nat.le_trans hF.size hbb27
  have hnegnb27 : gn < b27 := Nat.lt_of_lt_of_le hN.lt hbb27
  have hneb3b27 : b3 < b27 := Nat.lt_of_lt_of_le h3.lt hbb27
  have hneb4b27 : b4 < b27 := Nat.lt_of_lt_of_le h4.lt hbb27
  have hnebTb27 : bT < b27 := Nat.lt_of_lt_of_le hBt.lt hbb27
  have hnegvb27 : gv < b27 := Nat.lt_of_lt_of_le hVt.lt hbb27
  have hbsb28 := Nat.le_trans hF.size hbb28
  have hnegnb28 : gn < b28 := Nat.lt_of_lt_of_le hN.lt hbb28
  have hneb3b28 : b3 < b28 := Nat.lt_of_lt_of_le h3.lt hbb28
  have hneb4b28 : b4 < b28 := Nat.lt_of_lt_of_le h4.lt hbb28
  have hnebTb28 : bT < b28 := Nat.lt_of_lt_of_le hBt.lt hbb28
  have hnegvb28 : gv < b28 := Nat.lt_of_lt_of_le hVt.lt hbb28
  have kh27 := hR.df b27 hbb27
  have kh28 := hR.df b28 hbb28
  replace hF := hF.thenDrew.thenN F6
  replace hN := F6.blkN hN
  replace h3 := F6.blkN h3
  replace hR := hR.thruN ((Fram.refl none' _).thenDrew.thenN F6)
  replace h4 := F6.blkN h4
  replace hBt := F6.blkN hBt
  replace hVt := F6.blkN hVt
  refine x_then (hK28 _ _ ?_)
  clear hK28 K28
  refine c_seq (fun K29 hK29 => ?_)
  refine c_seq (fun K30 hK30 => ?_)
  generalize hnx : (tNext (sP.tabs.getD (sP.top 1).N []) (sP.top 0)).getD (vNil, vNil) = nx at *
  refine c_reg ?_ -- region 92 compm.go:620
  refine wl (ro_fieldAddr (k := 0) rfl fo_119_0) ?_
  refine wl (ro_loadB rfl sc_3 (by assumption) rfl) ?_
  refine wl (ro_cmp rfl rfl rfl) ?_
  refine wl_nil (x_then (hK30 _ _ ?_))
  clear hK30 K30
  refine wc_cond rfl (fun hc598 => ?_) (fun hc598 => ?_)
  · try simp only [decide_eq_true_eq, decide_eq_false_iff_not, Bool.not_eq_true', Bool.not_eq_false', Bool.not_eq_eq_eq_not, Bool.not_true, Bool.not_false, beq_iff_eq, bne_iff_ne, ne_eq, beq_eq_false_iff_ne, bne_eq_false_iff_eq, gt_iff_lt, ge_iff_le, Int.not_lt, Int.not_le] at hc598
    refine c_seq (fun K31 hK31 => ?_)
    obtain ⟨b0, hb9⟩ : ∃ b0, b0 = bT := ⟨_, rfl⟩
    subst hb9
    clear hTh hkb hlT hbT hcapT hgT hclT hk70 hB hO hXr hV hV0 hBt hVt hrv hr0 hr1 hkv hlv hcapv
    obtain ⟨cv, a0, a1, a2, a3, a4, gT, capT, lT, bT, tvT, vvT, hXr, hO, hlT, hcapT, hbT, hTh, hgT⟩ := hR.open
    have hB := hTh.k
    have hkb := hTh.t
    have hclT := hR.cl
    unfold rnc at hXr
    have hk70 := hR.t70
    have hbe : bT = b0 := Option.some.inj (hbT.symm.trans hb0)
    subst hbe
    obtain ⟨gv, capv, lv, e1, hV, hcapv, hkv, hlv, hrv⟩ := hTh.vals (by omega)
    subst e1
    have hV0 := hV
    have hrv : ∀ j, j < sP.th.vals.length → (lv.drop (0 + (sP.th.vals.length - 1 - j) * 3)).take 3 = pvc (sP.top j) := hrv
    have hmb := hX.memC (hR.mem_b hR.cl hTh.t)
    refine c_reg ?_ -- region 93 compm.go:621
    refine wl (ro_move rfl) ?_
    refine wl (ro_move rfl) ?_
    refine wl (ro_nilCheck rfl) ?_
    refine wl (ro_fieldAddr (k := 4) rfl fo_126_4) ?_
    refine wl (ro_loadB rfl sc_83 (by assumption) rfl) ?_
    refine wl (ro_move rfl) ?_
    refine wl (ro_arith rfl rfl rfl (Go.IntWalk.i64_in _ (by omega))) ?_
    refine wl (ro_sliceH (h := sP.th.vals.length - 2) rfl rfl se_83 (by omega) (by omega)) ?_
    refine wl (ro_nilCheck rfl) ?_
    refine wl (ro_fieldAddr (k := 4) rfl fo_126_4) ?_
    refine wl_put rfl rfl rfl sz_83 hB ((by simp)) (rfl) (fun w7 hB F7 => ?_)
    replace hF := hF.thenDrew.thenO F7 (by first | exact .inr (by omega) | exact .inl rfl | exact .inl (by assumption) | assumption)
    replace hN := F7.blkO hN (by first | omega | exact ow_ne (by assumption) (by assumption) (by omega))
    replace h3 := F7.blkO h3 (by first | omega | exact ow_ne (by assumption) (by assumption) (by omega))
    replace h4 := F7.blkO h4 (by first | omega | exact ow_ne (by assumption) (by assumption) (by omega))
    replace h27 := F7.blkO h27 (by first | omega | exact ow_ne (by assumption) (by assumption) (by omega))
    replace h28 := F7.blkO h28 (by first | omega | exact ow_ne (by assumption) (by assumption) (by omega))
    replace hO := F7.blkO hO (by first | omega | exact ow_ne (by assumption) (by assumption) (by omega))
    replace hXr := F7.blkO hXr (by first | omega | exact ow_ne (by assumption) (by assumption) (by omega))
    replace hV := F7.blkO hV (by first | omega | exact ow_ne (by assumption) (by assumption) (by omega))
    have hR2 := hR.cutV hbT hTh.t hTh.ts hTh.vs 2 ((Fram.refl (one bT) _).thenDrew.thenO F7 (.inl rfl)) hB
    replace hR := hR2
    refine wl_nil (x_then (hK31 _ _ ?_))
    clear hK31 K31
    refine c_ret (x_thenR (x_blkR ?_))
    refine bp_ret Tryz.results33 rfl ?_
    refine ⟨rfl, ?_⟩
    rw [hgoal]
    unfold istep1
    simp only [Nat.reduceEqDiff, reduceIte]
    try rw [hmod]
    try simp only [hnx]
    try rw [hlen7]
    try rw [hlen8]
    try (rw [burn_if (by exact P.b.dn)]; first | rw [if_pos (by exact hfu)] | rw [if_neg (by exact hfu)])
    repeat (first | rw [if_pos (by first | assumption | omega)] | rw [if_neg (by first | assumption | omega)])
    first
    | exact hf0 hX hF hR (by omega)
    | exact hf1 hX hF hR (by omega)
    | exact hf2 hX hF hR (by omega)
    | exact hf9 hX hF hR (by omega)
  · try simp only [decide_eq_true_eq, decide_eq_false_iff_not, Bool.not_eq_true', Bool.not_eq_false', Bool.not_eq_eq_eq_not, Bool.not_true, Bool.not_false, beq_iff_eq, bne_iff_ne, ne_eq, beq_eq_false_iff_ne, bne_eq_false_iff_eq, gt_iff_lt, ge_iff_le, Int.not_lt, Int.not_le] at hc598
    refine c_skip (x_then (hK29 _ _ ?_))
    clear hK29 K29
    refine forget [(0, _), (2, _), (3, _), (4, _), (26, _), (27, _), (28, _)] ⟨rfl, rfl, rfl, rfl, rfl, rfl, rfl, trivial⟩ (fun e => ?_)
    refine c_seq (fun K32 hK32 => ?_)
    obtain ⟨b0, hb9⟩ : ∃ b0, b0 = bT := ⟨_, rfl⟩
    subst hb9
    clear hTh hkb hlT hbT hcapT hgT hclT hk70 hB hO hXr hV hV0 hBt hVt hrv hr0 hr1 hkv hlv hcapv
    obtain ⟨cv, a0, a1, a2, a3, a4, gT, capT, lT, bT, tvT, vvT, hXr, hO, hlT, hcapT, hbT, hTh, hgT⟩ := hR.open
    have hB := hTh.k
    have hkb := hTh.t
    have hclT := hR.cl
    unfold rnc at hXr
    have hk70 := hR.t70
    have hbe : bT = b0 := Option.some.inj (hbT.symm.trans hb0)
    subst hbe
    obtain ⟨gv, capv, lv, e1, hV, hcapv, hkv, hlv, hrv⟩ := hTh.vals (by omega)
    subst e1
    have hV0 := hV
    have hrv : ∀ j, j < sP.th.vals.length → (lv.drop (0 + (sP.th.vals.length - 1 - j) * 3)).take 3 = pvc (sP.top j) := hrv
    have hmb := hX.memC (hR.mem_v hkv)
    have hr0 := hrv 0 (by omega)
    refine c_piL 8 [(0, false), (1, false), (2, false), (3, false), (4, false), (5, false), (6, false), (7, false)] (SameH _) mixed (by kernel_rfl) rfl (by kernel_rfl) (po_then (po_blk (po_bp))) (sameH_now _ _) ?_ -- region 94 compm.go:624
    refine ql_ro rfl (fun w hS => ro_move rfl) ?_
    refine ql_ro rfl (fun w hS => ro_nilCheck rfl) ?_
    refine ql_ro rfl (fun w hS => ro_fieldAddr (k := 4) rfl fo_126_4) ?_
    refine ql_ro rfl (fun w hS => ro_loadB rfl sc_83 (Blk.of_heap (by assumption) hS) rfl) ?_
    refine ql_ro rfl (fun w hS => ro_move rfl) ?_
    refine ql_ro rfl (fun w hS => ro_arith rfl rfl rfl (Go.IntWalk.i64_in _ (by omega))) ?_
    refine ql_ro rfl (fun w hS => ro_loadAggB rfl ag_119 (Blk.of_heap (by assumption) hS) rfl rfl) ?_
    refine ql_ro rfl (fun w hS => ro_indexAddr (et := 119) (k := 3) rfl rfl se_83 ((show ((sP.th.vals.length : Int) - 1) = ((sP.th.vals.length - 1 - 0 : Nat) : Int) by omega)) ((by omega))) ?_
    refine ql_puta rfl rfl rfl ((pvc_one _)) sz_119 (rfl) hV ((by rw [hlv]; omega)) (rfl) (fun w8 hV F8 => ?_)
    replace hF := hF.thenDrew.thenO F8 (by first | exact .inr (by omega) | exact .inl rfl | exact .inl (by assumption) | assumption)
    replace hN := F8.blkO hN (by first | omega | exact ow_ne (by assumption) (by assumption) (by omega))
    replace h3 := F8.blkO h3 (by first | omega | exact ow_ne (by assumption) (by assumption) (by omega))
    replace h4 := F8.blkO h4 (by first | omega | exact ow_ne (by assumption) (by assumption) (by omega))
    replace h27 := F8.blkO h27 (by first | omega | exact ow_ne (by assumption) (by assumption) (by omega))
    replace h28 := F8.blkO h28 (by first | omega | exact ow_ne (by assumption) (by assumption) (by omega))
    replace hO := F8.blkO hO (by first | omega | exact ow_ne (by assumption) (by assumption) (by omega))
    replace hB := F8.blkO hB (by first | omega | exact ow_ne (by assumption) (by assumption) (by omega))
    replace hXr := F8.blkO hXr (by first | omega | exact ow_ne (by assumption) (by assumption) (by omega))
    have hR2 := hR.vput (j := 0) (jj := 0) (mm := 3) (x := sP.top 0) (x' := nx.1) (cs := pvc nx.1) hbT hTh hV0 (by unfold IS.top; rw [List.getD_eq_getElem?_getD, List.getElem?_eq_getElem (by omega)]; rfl) ((Fram.refl (one gv) _).thenDrew.thenO F8 (.inl rfl)) hV (by simp only [Nat.zero_add, Nat.add_zero]; rfl) rfl (by omega) rfl
    replace hR := hR2
    refine x_then (hK32 _ _ ?_)
    clear hK32 K32
    refine forget [(0, _), (3, _), (4, _), (27, _), (28, _)] ⟨rfl, rfl, rfl, rfl, rfl, trivial⟩ (fun e => ?_)
    refine c_seq (fun K33 hK33 => ?_)
    refine c_piL 9 [(0, false), (1, false), (2, false), (3, false), (4, false), (5, false), (6, false), (7, false), (8, true)] (La gn _ _ (La b3 _ _ (La b4 _ _ (La b27 _ _ (La b28 _ _ (Lz rb _ _ _)))))) mixed (by kernel_rfl) rfl (by kernel_rfl) (po_then (po_blk (po_bp))) (⟨hN, h3, h4, h27, h28, hR.rz⟩) ?_ -- region 95 compm.go:625
    refine ql_ro rfl (fun w hS => ro_move rfl) ?_
    refine ql_ro rfl (fun w hS => ro_nilCheck rfl) ?_
    refine ql_ro rfl (fun w hS => ro_fieldAddr (k := 2) rfl fo_112_2) ?_
    refine ql_ro rfl (fun w hS => let ⟨_, hc⟩ := hS.2.2.2.2.2; ro_loadB rfl sc_77 hc rfl) ?_
    refine ql_ro rfl (fun w hS => ro_fieldAddr (k := 1) rfl fo_148_1) ?_
    refine ql_ro rfl (fun w hS => ro_loadB rfl sc_3 (hS.2.2.1) rfl) ?_
    refine ql_ro rfl (fun w hS => ro_indexAddr (et := 148) (k := 8) rfl rfl se_77 (rfl) (hAl)) ?_
    refine ql_ro rfl (fun w hS => ro_loadAggB rfl ag_148 (hS.1) (rfl) (hpA)) ?_
    refine ql_new rfl ze_148 (fun w1 F ↦ ⟨F.blkN hN, F.blkN h3, F.blkN h4, F.blkN h27, F.blkN h28, (hR.dr.thruN F).rz⟩) ?_
    intro b30 w9 hbb30 h30 F9
    have hbsb30 := Nat.le_trans hF.size hbb30
    have hnegnb30 : gn < b30 := Nat.lt_of_lt_of_le hN.lt hbb30
    have hneb3b30 : b3 < b30 := Nat.lt_of_lt_of_le h3.lt hbb30
    have hneb4b30 : b4 < b30 := Nat.lt_of_lt_of_le h4.lt hbb30
    have hneb27b30 : b27 < b30 := Nat.lt_of_lt_of_le h27.lt hbb30
    have hneb28b30 : b28 < b30 := Nat.lt_of_lt_of_le h28.lt hbb30
    have kh30 := hR.df b30 hbb30
    replace hF := hF.thenDrew.thenN F9
    replace hN := F9.blkN hN
    replace h3 := F9.blkN h3
    replace h4 := F9.blkN h4
    replace h27 := F9.blkN h27
    replace h28 := F9.blkN h28
    replace hR := hR.thruN ((Fram.refl none' _).thenDrew.thenN F9)
    refine ql_puta rfl rfl rfl ((ndc_one _)) sz_148 (rfl) h30 ((by simp)) ((show _ = ndc (nd G (nd G tn).A, pA) from rfl)) (fun w10 h30 F10 => ?_)
    replace hF := hF.thenDrew.thenO F10 (by first | exact .inr (by omega) | exact .inl rfl | exact .inl (by assumption) | assumption)
    replace hN := F10.blkO hN (by first | omega | exact ow_ne (by assumption) (by assumption) (by omega))
    replace h3 := F10.blkO h3 (by first | omega | exact ow_ne (by assumption) (by assumption) (by omega))
    replace h4 := F10.blkO h4 (by first | omega | exact ow_ne (by assumption) (by assumption) (by omega))
    replace h27 := F10.blkO h27 (by first | omega | exact ow_ne (by assumption) (by assumption) (by omega))
    replace h28 := F10.blkO h28 (by first | omega | exact ow_ne (by assumption) (by assumption) (by omega))
    replace hR := hR.hbput ((Fram.refl (one b30) _).thenDrew.thenO F10 (.inl rfl))
    refine x_then (hK33 _ _ ?_)
    clear hK33 K33
    refine forget [(0, _), (3, _), (4, _), (27, _), (28, _), (30, _)] ⟨rfl, rfl, rfl, rfl, rfl, rfl, trivial⟩ (fun e => ?_)
    refine c_seq (fun K34 hK34 => ?_)
    refine c_piL 9 [(0, false), (1, false), (2, false), (3, false), (4, false), (5, false), (6, false), (7, false), (8, true)] (La gn _ _ (La b3 _ _ (La b4 _ _ (La b27 _ _ (La b28 _ _ (La b30 _ _ (Lz rb _ _ _))))))) mixed (by kernel_rfl) rfl (by kernel_rfl) (po_then (po_blk (po_bp))) (⟨hN, h3, h4, h27, h28, h30, hR.rz⟩) ?_ -- region 96 compm.go:626
    refine ql_ro rfl (fun w hS => ro_move rfl) ?_
    refine ql_ro rfl (fun w hS => ro_nilCheck rfl) ?_
    refine ql_ro rfl (fun w hS => ro_fieldAddr (k := 2) rfl fo_112_2) ?_
    refine ql_ro rfl (fun w hS => let ⟨_, hc⟩ := hS.2.2.2.2.2.2; ro_loadB rfl sc_77 hc rfl) ?_
    refine ql_ro rfl (fun w hS => ro_fieldAddr (k := 4) rfl fo_148_4) ?_
    refine ql_ro rfl (fun w hS => ro_loadB rfl sc_3 (hS.2.2.2.2.2.1) rfl) ?_
    refine ql_ro rfl (fun w hS => ro_indexAddr (et := 148) (k := 8) rfl rfl se_77 (rfl) (hAl2)) ?_
    refine ql_ro rfl (fun w hS => ro_loadAggB rfl ag_148 (hS.1) (rfl) (hpA2)) ?_
    refine ql_new rfl ze_148 (fun w1 F ↦ ⟨F.blkN hN, F.blkN h3, F.blkN h4, F.blkN h27, F.blkN h28, F.blkN h30, (hR.dr.thruN F).rz⟩) ?_
    intro b31 w11 hbb31 h31 F11
    have hbsb31 := Nat.le_trans hF.size hbb31
    have hnegnb31 : gn < b31 := Nat.lt_of_lt_of_le hN.lt hbb31
    have hneb3b31 : b3 < b31 := Nat.lt_of_lt_of_le h3.lt hbb31
    have hneb4b31 : b4 < b31 := Nat.lt_of_lt_of_le h4.lt hbb31
    have hneb27b31 : b27 < b31 := Nat.lt_of_lt_of_le h27.lt hbb31
    have hneb28b31 : b28 < b31 := Nat.lt_of_lt_of_le h28.lt hbb31
    have hneb30b31 : b30 < b31 := Nat.lt_of_lt_of_le h30.lt hbb31
    have kh31 := hR.df b31 hbb31
    replace hF := hF.thenDrew.thenN F11
    replace hN := F11.blkN hN
    replace h3 := F11.blkN h3
    replace h4 := F11.blkN h4
    replace h27 := F11.blkN h27
    replace h28 := F11.blkN h28
    replace hR := hR.thruN ((Fram.refl none' _).thenDrew.thenN F11)
    replace h30 := F11.blkN h30
    refine ql_puta rfl rfl rfl ((ndc_one _)) sz_148 (rfl) h31 ((by simp)) ((show _ = ndc (nd G (nd G (nd G tn).A).Nx, pA2) from rfl)) (fun w12 h31 F12 => ?_)
    replace hF := hF.thenDrew.thenO F12 (by first | exact .inr (by omega) | exact .inl rfl | exact .inl (by assumption) | assumption)
    replace hN := F12.blkO hN (by first | omega | exact ow_ne (by assumption) (by assumption) (by omega))
    replace h3 := F12.blkO h3 (by first | omega | exact ow_ne (by assumption) (by assumption) (by omega))
    replace h4 := F12.blkO h4 (by first | omega | exact ow_ne (by assumption) (by assumption) (by omega))
    replace h27 := F12.blkO h27 (by first | omega | exact ow_ne (by assumption) (by assumption) (by omega))
    replace h28 := F12.blkO h28 (by first | omega | exact ow_ne (by assumption) (by assumption) (by omega))
    replace hR := hR.hbput ((Fram.refl (one b31) _).thenDrew.thenO F12 (.inl rfl))
    replace h30 := F12.blkO h30 (by first | omega | exact ow_ne (by assumption) (by assumption) (by omega))
    refine x_then (hK34 _ _ ?_)
    clear hK34 K34
    refine forget [(0, _), (3, _), (4, _), (27, _), (28, _), (30, _), (31, _)] ⟨rfl, rfl, rfl, rfl, rfl, rfl, rfl, trivial⟩ (fun e => ?_)
    refine c_seq (fun K35 hK35 => ?_)
    refine c_reg ?_ -- region 97 compm.go:627
    refine wl (ro_fieldAddr (k := 6) rfl fo_148_6) ?_
    refine wl (ro_loadB rfl sc_9 (by assumption) rfl) ?_
    refine wl (ro_loadAggB rfl ag_119 (by assumption) rfl rfl) ?_
    refine wl (ro_fieldAddr (k := 3) rfl fo_161_3) ?_
    refine wl (ro_loadB rfl sc_120 (by assumption) rfl) ?_
    refine wl (ro_build rfl bld_159_0_1_2) ?_
    refine wl_box (cs := (evc β ⟨(nd G (nd G tn).A).S, nx.1, te⟩)) rfl rfl (fun b639 w13 hbb639 h639 F13 => ?_)
    have hbsb639 := Nat.le_trans hF.size hbb639
    have hnegnb639 : gn < b639 := Nat.lt_of_lt_of_le hN.lt hbb639
    have hneb3b639 : b3 < b639 := Nat.lt_of_lt_of_le h3.lt hbb639
    have hneb4b639 : b4 < b639 := Nat.lt_of_lt_of_le h4.lt hbb639
    have hneb27b639 : b27 < b639 := Nat.lt_of_lt_of_le h27.lt hbb639
    have hneb28b639 : b28 < b639 := Nat.lt_of_lt_of_le h28.lt hbb639
    have hneb30b639 : b30 < b639 := Nat.lt_of_lt_of_le h30.lt hbb639
    have hneb31b639 : b31 < b639 := Nat.lt_of_lt_of_le h31.lt hbb639
    have kh639 := hR.df b639 hbb639
    replace hF := hF.thenDrew.thenN F13
    replace hN := F13.blkN hN
    replace h3 := F13.blkN h3
    replace h4 := F13.blkN h4
    replace h27 := F13.blkN h27
    replace h28 := F13.blkN h28
    replace hR := hR.thruN ((Fram.refl none' _).thenDrew.thenN F13)
    replace h30 := F13.blkN h30
    replace h31 := F13.blkN h31
    refine wl (ro_assign rfl) ?_
    refine wl_nil (x_then (hK35 _ _ ?_))
    clear hK35 K35
    refine forget [(0, _), (3, _), (4, _), (28, _), (31, _), (32, _)] ⟨rfl, rfl, rfl, rfl, rfl, rfl, trivial⟩ (fun e => ?_)
    refine c_seq (fun K36 hK36 => ?_)
    refine c_reg ?_ -- region 98 compm.go:628
    refine wl (ro_move rfl) ?_
    refine wl (ro_fieldAddr (k := 1) rfl fo_161_1) ?_
    refine wl (ro_loadB rfl sc_3 (by assumption) rfl) ?_
    refine wl (ro_fieldAddr (k := 3) rfl fo_161_3) ?_
    refine wl (ro_loadB rfl sc_120 (by assumption) rfl) ?_
    refine wl_call rfl en_55 (do55 (k := 20) (n := tn) (x := 0) hR.dr heP (by omega)) ?_
    rintro _ u14 ⟨rfl, ow14, x14, f14, r14⟩
    obtain ⟨hN, khN⟩ := cm_loc x14 f14 hN khN
    obtain ⟨h3, kh3⟩ := cm_loc x14 f14 h3 kh3
    obtain ⟨h4, kh4⟩ := cm_loc x14 f14 h4 kh4
    obtain ⟨h27, kh27⟩ := cm_loc x14 f14 h27 kh27
    obtain ⟨h28, kh28⟩ := cm_loc x14 f14 h28 kh28
    obtain ⟨h30, kh30⟩ := cm_loc x14 f14 h30 kh30
    obtain ⟨h31, kh31⟩ := cm_loc x14 f14 h31 kh31
    obtain ⟨h639, kh639⟩ := cm_loc x14 f14 h639 kh639
    have hs14 := hF.size
    replace hF := cm_trans hX hF f14
    replace hX := hX.trans hs14 x14
    replace hR := r14
    refine wl_nil (x_then (hK36 _ _ ?_))
    clear hK36 K36
    have hRn := hR.newE (z := ⟨(nd G (nd G tn).A).S, nx.1, te⟩) h639 (hetP)
    replace khN := ot_kR hRn khN (by first | omega | exact ow_ne (by assumption) (by assumption) (by omega))
    replace kh3 := ot_kR hRn kh3 (by first | omega | exact ow_ne (by assumption) (by assumption) (by omega))
    replace kh4 := ot_kR hRn kh4 (by first | omega | exact ow_ne (by assumption) (by assumption) (by omega))
    replace kh27 := ot_kR hRn kh27 (by first | omega | exact ow_ne (by assumption) (by assumption) (by omega))
    replace kh28 := ot_kR hRn kh28 (by first | omega | exact ow_ne (by assumption) (by assumption) (by omega))
    replace kh30 := ot_kR hRn kh30 (by first | omega | exact ow_ne (by assumption) (by assumption) (by omega))
    replace kh31 := ot_kR hRn kh31 (by first | omega | exact ow_ne (by assumption) (by assumption) (by omega))
    replace hX := ot_xR hRn hX (by omega)
    replace hR := hRn
    refine c_reg ?_ -- region 99 compm.go:629
    refine wl (ro_move rfl) ?_
    refine wl (ro_fieldAddr (k := 3) rfl fo_148_3) ?_
    refine wl (ro_loadB rfl sc_3 (by assumption) rfl) ?_
    refine wl (ro_fieldAddr (k := 6) rfl fo_148_6) ?_
    refine wl (ro_loadB rfl sc_9 (by assumption) rfl) ?_
    refine wl (ro_loadAggB rfl ag_119 (by assumption) rfl rfl) ?_
    refine wl (ro_move rfl) ?_
    refine wl (ro_build rfl bld_159_0_1_2) ?_
    refine wl_box rfl rfl (fun b654 w15 hbb654 h654 F15 => ?_)
    have hbsb654 := Nat.le_trans hF.size hbb654
    have hnegnb654 : gn < b654 := Nat.lt_of_lt_of_le hN.lt hbb654
    have hneb3b654 : b3 < b654 := Nat.lt_of_lt_of_le h3.lt hbb654
    have hneb4b654 : b4 < b654 := Nat.lt_of_lt_of_le h4.lt hbb654
    have hneb27b654 : b27 < b654 := Nat.lt_of_lt_of_le h27.lt hbb654
    have hneb28b654 : b28 < b654 := Nat.lt_of_lt_of_le h28.lt hbb654
    have hneb30b654 : b30 < b654 := Nat.lt_of_lt_of_le h30.lt hbb654
    have hneb31b654 : b31 < b654 := Nat.lt_of_lt_of_le h31.lt hbb654
    have kh654 := hR.df b654 hbb654
    replace hF := hF.thenDrew.thenN F15
    replace hN := F15.blkN hN
    replace h3 := F15.blkN h3
    replace h4 := F15.blkN h4
    replace h27 := F15.blkN h27
    replace h28 := F15.blkN h28
    replace hR := hR.thruN ((Fram.refl none' _).thenDrew.thenN F15)
    replace h30 := F15.blkN h30
    replace h31 := F15.blkN h31
    have h654 := evc_app (β := β) (nd G (nd G (nd G tn).A).Nx).S (nx.2) h654
    have hRn := hR.newE (z := ⟨(nd G (nd G (nd G tn).A).Nx).S, nx.2, β.length + 1⟩) h654 ((by rw [← hR.el]; simp))
    replace khN := ot_kR hRn khN (by first | omega | exact ow_ne (by assumption) (by assumption) (by omega))
    replace kh3 := ot_kR hRn kh3 (by first | omega | exact ow_ne (by assumption) (by assumption) (by omega))
    replace kh4 := ot_kR hRn kh4 (by first | omega | exact ow_ne (by assumption) (by assumption) (by omega))
    replace kh27 := ot_kR hRn kh27 (by first | omega | exact ow_ne (by assumption) (by assumption) (by omega))
    replace kh28 := ot_kR hRn kh28 (by first | omega | exact ow_ne (by assumption) (by assumption) (by omega))
    replace kh30 := ot_kR hRn kh30 (by first | omega | exact ow_ne (by assumption) (by assumption) (by omega))
    replace kh31 := ot_kR hRn kh31 (by first | omega | exact ow_ne (by assumption) (by assumption) (by omega))
    replace hX := ot_xR hRn hX (by omega)
    replace hR := hRn
    have hlen7 : (inew (nd G (nd G tn).A).S nx.1 te (ido 20 tn 0 te (sP.setT { sP.th with vals := sP.th.vals.set 0 nx.1 }))).last = β.length + 1 := by show (inew (nd G (nd G tn).A).S nx.1 te (ido 20 tn 0 te (sP.setT { sP.th with vals := sP.th.vals.set 0 nx.1 }))).envs.length = _; rw [new_len, helP]; rfl
    have hlen8 : ∀ u, (inew (nd G (nd G (nd G tn).A).Nx).S nx.2 u (inew (nd G (nd G tn).A).S nx.1 te (ido 20 tn 0 te (sP.setT { sP.th with vals := sP.th.vals.set 0 nx.1 })))).last = (β ++ [b639]).length + 1 := fun u => by show (inew (nd G (nd G (nd G tn).A).Nx).S nx.2 u (inew (nd G (nd G tn).A).S nx.1 te (ido 20 tn 0 te (sP.setT { sP.th with vals := sP.th.vals.set 0 nx.1 })))).envs.length = _; rw [new_len, new_len, List.length_append, helP]; rfl
    refine wl_call rfl en_55 (do55 (k := 1) (n := (nd G tn).C) (x := 0) hR.dr (EP.new _ _) (by omega)) ?_
    rintro _ u16 ⟨rfl, ow16, x16, f16, r16⟩
    obtain ⟨hN, khN⟩ := cm_loc x16 f16 hN khN
    obtain ⟨h3, kh3⟩ := cm_loc x16 f16 h3 kh3
    obtain ⟨h4, kh4⟩ := cm_loc x16 f16 h4 kh4
    obtain ⟨h27, kh27⟩ := cm_loc x16 f16 h27 kh27
    obtain ⟨h28, kh28⟩ := cm_loc x16 f16 h28 kh28
    obtain ⟨h30, kh30⟩ := cm_loc x16 f16 h30 kh30
    obtain ⟨h31, kh31⟩ := cm_loc x16 f16 h31 kh31
    have hs16 := hF.size
    replace hF := cm_trans hX hF f16
    replace hX := hX.trans hs16 x16
    replace hR := r16
    refine wl_nil (x_blk ?_)
    refine bp_end Tryz.results33 rfl ?_
    refine ⟨rfl, ?_⟩
    rw [hgoal]
    unfold istep1
    simp only [Nat.reduceEqDiff, reduceIte]
    try rw [hmod]
    try simp only [hnx]
    try rw [hlen7]
    try rw [hlen8]
    try (rw [burn_if (by exact P.b.dn)]; first | rw [if_pos (by exact hfu)] | rw [if_neg (by exact hfu)])
    repeat (first | rw [if_pos (by first | assumption | omega)] | rw [if_neg (by first | assumption | omega)])
    first
    | exact hf0 hX hF hR (by omega)
    | exact hf1 hX hF hR (by omega)
    | exact hf2 hX hF hR (by omega)
    | exact hf9 hX hF hR (by omega)

set_option maxHeartbeats 8000000 in
theorem step33_20 {G : Arena} {root : Nat} {np : Value} {tb rb : Nat} {nv : Value} {w : World} {ow : Nat → Nat} {β τ : List Nat} {m : Nat} {s : IS} (hR : RM G root np tb rb nv w ow β τ m s) (hG : 0 < G.length) (hAG : AOK G) (h0K : (nd G 0).K = 0) (hI : IA G root s) (ht0 : 0 < s.tabs.length) (hm : m ≤ 19900) {tn tx te : Nat} {r : List Tk} (htk : s.th.tasks = ⟨20, tn, tx, te⟩ :: r) :
    Ret Tryz.prog 33 [ptr rb] w (fun r w' => r = .tuple #[] ∧ ∃ bs τ', RP G root np tb rb nv w ow (β ++ bs) (τ ++ τ') (m + 12) (istep G root s) w') := by
  obtain ⟨hok, hnu, htb, T, h, P0, hT0⟩ := hI
  have hTe := P0.t.symm.trans htk
  subst hTe
  have hF : Fram (tg ow cmT) w w := Fram.refl _ _
  have hX : Xt w ow ow := Xt.refl _ _
  have hmr := hR.mem_r
  have hgoal : istep G root s = istep1 G root ⟨20, tn, tx, te⟩ s (s.setT { s.th with tasks := r }) := by unfold istep; rw [htk]
  have het : te ≤ s.envs.length := by have q := hT0; unfold TkI at q; exact q.1
  have hel : te ≤ β.length := by rw [hR.el]; exact het
  have heP : EP β te (epo β te) := EP.mk' hel
  have htl : s.th.tasks.length = r.length + 1 := by rw [htk]; rfl
  have hcl0 := P0.cl
  have hokP : IOK (s.setT { s.th with tasks := r }) := hok.setT hok.th
  have hP0 : 0 < (s.setT { s.th with tasks := r }).tabs.length := ht0
  have htop : ∀ i, (s.setT { s.th with tasks := r }).top i = s.top i := fun i => by unfold IS.top; rw [th_setT hcl0]
  have hclP : (s.setT { s.th with tasks := r }).cur < (s.setT { s.th with tasks := r }).ths.length := by simpa [IS.setT] using hcl0
  have hetP : te ≤ (s.setT { s.th with tasks := r }).envs.length := het
  have P : PW G root (s.setT { s.th with tasks := r }) r h := P0.pop (t := ⟨20, tn, tx, te⟩) (show (20 : Nat) ≠ 3 by decide)
  obtain ⟨-, hn, -, hf, hk, hT⟩ := hT0.inv (t := ⟨20, tn, tx, te⟩) (show (20 : Nat) ≠ 3 by decide)
  have hn : tn < G.length := hn
  have hvl : (s.setT { s.th with tasks := r }).th.vals.length = h := P.v
  have hokt : ∀ i, ok (s.setT { s.th with tasks := r }) ((s.setT { s.th with tasks := r }).top i) := fun i => IOK.getD hokP.th i
  have hnh := hokP.nh
  have hnc := hokP.nc
  have hnn := (hAG tn).1
  obtain ⟨gn, capn, ln, rfl, hN, khN, hcapn, hrow⟩ := hR.nodes hG
  obtain ⟨pn, hpn⟩ := hrow tn hn
  have hf9 : ∀ {u : World} {ow' : Nat → Nat} {m' : Nat} {s' : IS} {bs τ' : List Nat}, Xt w ow ow' → Fram (tg ow cmT) w u → RM G root np tb rb (.slice (some ⟨gn, 0, none⟩) G.length capn) u ow' (β ++ bs) (τ ++ τ') m' s' → m' ≤ m + 12 → ∃ bs τ', RP G root np tb rb (.slice (some ⟨gn, 0, none⟩) G.length capn) w ow (β ++ bs) (τ ++ τ') (m + 12) s' u := fun {_ _ _ _ bs τ'} h1 h2 h3 h4 => ⟨bs, τ', _, h1, h2, h3.le h4⟩
  have hf0 : ∀ {u : World} {ow' : Nat → Nat} {m' : Nat} {s' : IS}, Xt w ow ow' → Fram (tg ow cmT) w u → RM G root np tb rb (.slice (some ⟨gn, 0, none⟩) G.length capn) u ow' β τ m' s' → m' ≤ m + 12 → ∃ bs τ', RP G root np tb rb (.slice (some ⟨gn, 0, none⟩) G.length capn) w ow (β ++ bs) (τ ++ τ') (m + 12) s' u := fun h1 h2 h3 h4 => hf9 (bs := []) (τ' := []) h1 h2 (by rw [List.append_nil, List.append_nil]; exact h3) h4
  have hf1 : ∀ {u : World} {ow' : Nat → Nat} {m' : Nat} {s' : IS} {bs : List Nat}, Xt w ow ow' → Fram (tg ow cmT) w u → RM G root np tb rb (.slice (some ⟨gn, 0, none⟩) G.length capn) u ow' (β ++ bs) τ m' s' → m' ≤ m + 12 → ∃ bs τ', RP G root np tb rb (.slice (some ⟨gn, 0, none⟩) G.length capn) w ow (β ++ bs) (τ ++ τ') (m + 12) s' u := fun {_ _ _ _ bs} h1 h2 h3 h4 => hf9 (bs := bs) (τ' := []) h1 h2 (by rw [List.append_nil]; exact h3) h4
  have hf2 : ∀ {u : World} {ow' : Nat → Nat} {m' : Nat} {s' : IS} {b1 b2 : Nat}, Xt w ow ow' → Fram (tg ow cmT) w u → RM G root np tb rb (.slice (some ⟨gn, 0, none⟩) G.length capn) u ow' (β ++ [b1] ++ [b2]) τ m' s' → m' ≤ m + 12 → ∃ bs τ', RP G root np tb rb (.slice (some ⟨gn, 0, none⟩) G.length capn) w ow (β ++ bs) (τ ++ τ') (m + 12) s' u := fun {_ _ _ _ b1 b2} h1 h2 h3 h4 => hf9 (bs := [b1, b2]) (τ' := []) h1 h2 (by rw [List.append_nil]; rw [List.append_assoc] at h3; exact h3) h4
  refine ret_of Tryz.func33 rfl Tryz.ntmps33 rfl ?_
  refine c_seq (fun K1 hK1 => ?_)
  obtain ⟨cv, a0, a1, a2, a3, a4, gT, capT, lT, bT, tvT, vvT, hXr, hO, hlT, hcapT, hbT, hTh, hgT⟩ := hR.open
  have hB := hTh.k
  have hkb := hTh.t
  have hclT := hR.cl
  unfold rnc at hXr
  have hk70 := hR.t70
  have hbdd := hR.bdm
  refine c_pi [(0, false), (1, false), (2, false), (3, false), (4, false), (5, false), (6, false), (7, false), (8, false), (9, false), (10, false)] (SameH _) mixed (by kernel_rfl) rfl (by kernel_rfl) (po_then (po_bp)) (sameH_now _ _) ?_ -- region 0 compm.go:509
  refine pi_ro rfl (fun w hS => ro_move rfl) ?_
  refine pi_ro rfl (fun w hS => ro_nilCheck rfl) ?_
  refine pi_ro rfl (fun w hS => ro_fieldAddr (k := 5) rfl fo_112_5) ?_
  refine pi_ro rfl (fun w hS => ro_loadB rfl sc_109 (Blk.of_heap (by assumption) hS) rfl) ?_
  refine pi_ro rfl (fun w hS => ro_move rfl) ?_
  refine pi_ro rfl (fun w hS => ro_nilCheck rfl) ?_
  refine pi_ro rfl (fun w hS => ro_fieldAddr (k := 12) rfl fo_112_8) ?_
  refine pi_ro rfl (fun w hS => ro_loadB rfl sc_3 (Blk.of_heap (by assumption) hS) rfl) ?_
  refine pi_ro rfl (fun w hS => ro_indexAddr (et := 123) (k := 1) rfl rfl se_109 rfl (by omega)) ?_
  refine pi_ro rfl (fun w hS => ro_loadB rfl sc_123 (Blk.of_heap hO hS) (hlT)) ?_
  refine pi_ro rfl (fun w hS => ro_assign rfl) ?_
  refine pi_nil (x_then (hK1 _ _ ?_))
  clear hK1 K1
  refine forget [(0, _), (2, _)] ⟨rfl, rfl, trivial⟩ (fun e => ?_)
  refine c_seq (fun K2 hK2 => ?_)
  have hts0 := hTh.ts
  rw [htk] at hts0
  obtain ⟨gt, capt, lt, e1, hV, q1, q2, q3, q4⟩ := hts0.atR (tsc_len β) (j := 0) rfl
  subst e1
  obtain ⟨va, vc, rfl⟩ := hTh.vs.form
  have hrl : ((⟨20, tn, tx, te⟩ : Tk) :: r).length = r.length + 1 := rfl
  refine c_piL 13 [(0, false), (1, false), (2, false), (3, false), (4, false), (5, false), (6, false), (7, false), (8, false), (9, false), (10, false), (11, false), (12, true)] (La bT _ _ (La gt _ _ (fun _ => True))) mixed (by kernel_rfl) rfl (by kernel_rfl) (po_then (po_bp)) (⟨hB, hV, trivial⟩) ?_ -- region 1 compm.go:510
  refine ql_ro rfl (fun w hS => ro_move rfl) ?_
  refine ql_ro rfl (fun w hS => ro_nilCheck rfl) ?_
  refine ql_ro rfl (fun w hS => ro_fieldAddr (k := 3) rfl fo_126_3) ?_
  refine ql_ro rfl (fun w hS => ro_loadB rfl sc_124 (hS.1) rfl) ?_
  refine ql_ro rfl (fun w hS => ro_move rfl) ?_
  refine ql_ro rfl (fun w hS => ro_nilCheck rfl) ?_
  refine ql_ro rfl (fun w hS => ro_fieldAddr (k := 3) rfl fo_126_3) ?_
  refine ql_ro rfl (fun w hS => ro_loadB rfl sc_124 (hS.1) rfl) ?_
  refine ql_ro rfl (fun w hS => ro_lenL rfl se_124) ?_
  refine ql_ro rfl (fun w hS => ro_arith rfl rfl rfl (Go.IntWalk.i64_in _ (by omega))) ?_
  refine ql_ro rfl (fun w hS => ro_indexAddr (et := 161) (k := 4) rfl rfl se_124 ((show ((((⟨20, tn, tx, te⟩ : Tk) :: r).length : Int) - 1) = ((((⟨20, tn, tx, te⟩ : Tk) :: r).length - 1 - 0 : Nat) : Int) by omega)) ((by omega))) ?_
  refine ql_ro rfl (fun w hS => ro_loadAggB rfl ag_161 (hS.2.1) (rfl) (q4)) ?_
  refine ql_new rfl ze_161 (fun w1 F ↦ ⟨F.blkN hB, F.blkN hV, trivial⟩) ?_
  intro b3 w1 hbb3 h3 F1
  have hbsb3 := Nat.le_trans hF.size hbb3
  have hnegnb3 : gn < b3 := Nat.lt_of_lt_of_le hN.lt hbb3
  have hnegTb3 : gT < b3 := Nat.lt_of_lt_of_le hO.lt hbb3
  have hnebTb3 : bT < b3 := Nat.lt_of_lt_of_le hB.lt hbb3
  have hnerbb3 : rb < b3 := Nat.lt_of_lt_of_le hXr.lt hbb3
  have hnegtb3 : gt < b3 := Nat.lt_of_lt_of_le hV.lt hbb3
  have kh3 := hR.df b3 hbb3
  replace hF := hF.thenDrew.thenN F1
  replace hR := hR.thruN ((Fram.refl none' _).thenDrew.thenN F1)
  replace hN := F1.blkN hN
  replace hO := F1.blkN hO
  replace hB := F1.blkN hB
  replace hXr := F1.blkN hXr
  replace hV := F1.blkN hV
  refine ql_puta rfl rfl rfl ((tsc_one _ _)) sz_161 (rfl) h3 ((by simp)) ((show _ = [i64c 20, i64c tn, i64c tx, .pointer (epo β te)] from rfl)) (fun w2 h3 F2 => ?_)
  replace hF := hF.thenDrew.thenO F2 (by first | exact .inr (by omega) | exact .inl rfl | exact .inl (by assumption) | assumption)
  replace hR := hR.hbput ((Fram.refl (one b3) _).thenDrew.thenO F2 (.inl rfl))
  replace hN := F2.blkO hN (by first | omega | exact ow_ne (by assumption) (by assumption) (by omega))
  replace hO := F2.blkO hO (by first | omega | exact ow_ne (by assumption) (by assumption) (by omega))
  replace hB := F2.blkO hB (by first | omega | exact ow_ne (by assumption) (by assumption) (by omega))
  replace hXr := F2.blkO hXr (by first | omega | exact ow_ne (by assumption) (by assumption) (by omega))
  replace hV := F2.blkO hV (by first | omega | exact ow_ne (by assumption) (by assumption) (by omega))
  refine x_then (hK2 _ _ ?_)
  clear hK2 K2
  refine forget [(0, _), (2, _), (3, _)] ⟨rfl, rfl, rfl, trivial⟩ (fun e => ?_)
  refine c_seq (fun K3 hK3 => ?_)
  obtain ⟨b0, hb0⟩ : ∃ b0, b0 = bT := ⟨_, rfl⟩
  subst hb0
  have hb0 := hbT
  clear hTh hkb hlT hbT hcapT hgT hclT hk70 hB hO hXr hV q4 q3 q2 q1 hts0
  obtain ⟨cv, a0, a1, a2, a3, a4, gT, capT, lT, bT, tvT, vvT, hXr, hO, hlT, hcapT, hbT, hTh, hgT⟩ := hR.open
  have hB := hTh.k
  have hkb := hTh.t
  have hclT := hR.cl
  unfold rnc at hXr
  have hk70 := hR.t70
  have hbe : bT = b0 := Option.some.inj (hbT.symm.trans hb0)
  subst hbe
  obtain ⟨ta, tc, rfl⟩ := hTh.ts.form
  obtain ⟨va2, vc2, rfl⟩ := hTh.vs.form
  have hcapt := hTh.ts.capge
  have htr := hTh.ts.dropR (tsc_len β) 1
  rw [htl, htk] at htr
  have hmb := hX.memC (hR.mem_b hR.cl hTh.t)
  refine c_piL 14 [(0, false), (1, false), (2, false), (3, false), (4, false), (5, false), (6, false), (7, false), (8, false), (9, false), (10, false), (11, false), (12, false), (13, false)] (SameH _) mixed (by kernel_rfl) rfl (by kernel_rfl) (po_then (po_bp)) (sameH_now _ _) ?_ -- region 2 compm.go:511
  refine ql_ro rfl (fun w hS => ro_move rfl) ?_
  refine ql_ro rfl (fun w hS => ro_move rfl) ?_
  refine ql_ro rfl (fun w hS => ro_nilCheck rfl) ?_
  refine ql_ro rfl (fun w hS => ro_fieldAddr (k := 3) rfl fo_126_3) ?_
  refine ql_ro rfl (fun w hS => ro_loadB rfl sc_124 (Blk.of_heap (by assumption) hS) rfl) ?_
  refine ql_ro rfl (fun w hS => ro_move rfl) ?_
  refine ql_ro rfl (fun w hS => ro_nilCheck rfl) ?_
  refine ql_ro rfl (fun w hS => ro_fieldAddr (k := 3) rfl fo_126_3) ?_
  refine ql_ro rfl (fun w hS => ro_loadB rfl sc_124 (Blk.of_heap (by assumption) hS) rfl) ?_
  refine ql_ro rfl (fun w hS => ro_lenL rfl se_124) ?_
  refine ql_ro rfl (fun w hS => ro_arith rfl rfl rfl (Go.IntWalk.i64_in _ (by omega))) ?_
  refine ql_ro rfl (fun w hS => ro_sliceH (h := r.length) rfl rfl se_124 (by omega) (by omega)) ?_
  refine ql_ro rfl (fun w hS => ro_nilCheck rfl) ?_
  refine ql_ro rfl (fun w hS => ro_fieldAddr (k := 3) rfl fo_126_3) ?_
  refine ql_put rfl rfl rfl rfl sz_124 hB ((by simp)) (rfl) (fun w3 hB F3 => ?_)
  replace hF := hF.thenDrew.thenO F3 (by first | exact .inr (by omega) | exact .inl rfl | exact .inl (by assumption) | assumption)
  replace hN := F3.blkO hN (by first | omega | exact ow_ne (by assumption) (by assumption) (by omega))
  replace h3 := F3.blkO h3 (by first | omega | exact ow_ne (by assumption) (by assumption) (by omega))
  replace hO := F3.blkO hO (by first | omega | exact ow_ne (by assumption) (by assumption) (by omega))
  replace hXr := F3.blkO hXr (by first | omega | exact ow_ne (by assumption) (by assumption) (by omega))
  have hR2 := hR.thr' (y := { s.th with tasks := r }) hbT hTh.t htr hTh.vs ((Fram.refl (one bT) _).thenDrew.thenO F3 (.inl rfl)) hB (fun z hz => hR.tem z (by rw [htk]; exact List.mem_cons_of_mem _ hz)) (by have := hR.bdm; rw [htl] at this; exact ⟨by show r.length ≤ m; omega, this.2⟩)
  replace hR := hR2
  obtain ⟨b0, hb1⟩ : ∃ b0, b0 = bT := ⟨_, rfl⟩
  subst hb1
  have hb0 : τ[(s.setT { s.th with tasks := r }).cur]? = some b0 := hbT
  clear hTh hkb hlT hbT hcapT hgT hclT hk70 hB hO hXr htr hmb hcapt hbdd
  generalize hsP : s.setT { s.th with tasks := r } = sP at *
  have hbdP := hR.bdm
  refine x_then (hK3 _ _ ?_)
  clear hK3 K3
  refine forget [(0, _), (2, _), (3, _)] ⟨rfl, rfl, rfl, trivial⟩ (fun e => ?_)
  refine c_seq (fun K4 hK4 => ?_)
  refine c_reg ?_ -- region 3 compm.go:512
  refine wl_new (ze_148) (fun b4 w4 hbb4 h4 F4 => ?_)
  have hbsb4 := Nat.le_trans hF.size hbb4
  have hnegnb4 : gn < b4 := Nat.lt_of_lt_of_le hN.lt hbb4
  have hneb3b4 : b3 < b4 := Nat.lt_of_lt_of_le h3.lt hbb4
  have kh4 := hR.df b4 hbb4
  replace hF := hF.thenDrew.thenN F4
  replace hN := F4.blkN hN
  replace h3 := F4.blkN h3
  replace hR := hR.thruN ((Fram.refl none' _).thenDrew.thenN F4)
  refine wl_nil (x_then (hK4 _ _ ?_))
  clear hK4 K4
  refine c_seq (fun K5 hK5 => ?_)
  refine c_seq (fun K6 hK6 => ?_)
  refine c_reg ?_ -- region 4 compm.go:513
  refine wl (ro_fieldAddr (k := 0) rfl fo_161_0) ?_
  refine wl (ro_loadB rfl sc_3 (by assumption) rfl) ?_
  refine wl (ro_cmp rfl rfl rfl) ?_
  refine wl_nil (x_then (hK6 _ _ ?_))
  clear hK6 K6
  refine wc_condT rfl ?_
  obtain ⟨cv, hv_, a0, a1, a2, a3, a4, hXr, hq2, hq3, hq4⟩ := hR.r
  unfold rnc at hXr
  have hk70 := hR.t70
  refine c_piL 8 [(0, false), (1, false), (2, false), (3, false), (4, false), (5, false), (6, false), (7, false)] (SameH _) mixed (by kernel_rfl) rfl (by kernel_rfl) (po_then (po_bp)) (sameH_now _ _) ?_ -- region 5 compm.go:514
  refine ql_ro rfl (fun w hS => ro_move rfl) ?_
  refine ql_ro rfl (fun w hS => ro_nilCheck rfl) ?_
  refine ql_ro rfl (fun w hS => ro_fieldAddr (k := 2) rfl fo_112_2) ?_
  refine ql_ro rfl (fun w hS => ro_loadB rfl sc_77 (Blk.of_heap (by assumption) hS) rfl) ?_
  refine ql_ro rfl (fun w hS => ro_fieldAddr (k := 1) rfl fo_161_1) ?_
  refine ql_ro rfl (fun w hS => ro_loadB rfl sc_3 (Blk.of_heap (by assumption) hS) rfl) ?_
  refine ql_ro rfl (fun w hS => ro_indexAddr (et := 148) (k := 8) rfl rfl se_77 (rfl) (hn)) ?_
  refine ql_ro rfl (fun w hS => ro_loadAggB rfl ag_148 (Blk.of_heap hN hS) (rfl) (hpn)) ?_
  refine ql_puta rfl rfl rfl ((ndc_one _)) sz_148 (rfl) h4 ((by simp)) ((show _ = ndc (nd G tn, pn) from rfl)) (fun w5 h4 F5 => ?_)
  replace hF := hF.thenDrew.thenO F5 (by first | exact .inr (by omega) | exact .inl rfl | exact .inl (by assumption) | assumption)
  replace hN := F5.blkO hN (by first | omega | exact ow_ne (by assumption) (by assumption) (by omega))
  replace h3 := F5.blkO h3 (by first | omega | exact ow_ne (by assumption) (by assumption) (by omega))
  replace hR := hR.hbput ((Fram.refl (one b4) _).thenDrew.thenO F5 (.inl rfl))
  replace hXr := F5.blkO hXr (by first | omega | exact ow_ne (by assumption) (by assumption) (by omega))
  refine x_then (hK5 _ _ ?_)
  clear hK5 K5
  refine forget [(0, _), (2, _), (3, _), (4, _)] ⟨rfl, rfl, rfl, rfl, trivial⟩ (fun e => ?_)
  refine c_seq (fun K7 hK7 => ?_)
  refine c_reg ?_ -- region 6 compm.go:516
  refine wl (ro_fieldAddr (k := 0) rfl fo_161_0) ?_
  refine wl (ro_loadB rfl sc_3 (by assumption) rfl) ?_
  refine wl_nil (x_then (hK7 _ _ ?_))
  clear hK7 K7
  refine c_block ?_
  refine forget [(0, _), (2, _), (3, _), (4, _), (92, _)] ⟨rfl, rfl, rfl, rfl, rfl, trivial⟩ (fun e => ?_)
  refine c_seq (fun K8 hK8 => ?_)
  refine c_reg ?_ -- region 7 compm.go:517
  refine wl (ro_cmp rfl rfl rfl) ?_
  refine wl (ro_assign rfl) ?_
  refine wl_nil (x_then (hK8 _ _ ?_))
  clear hK8 K8
  refine wc_condF rfl ?_
  refine c_seq (fun K9 hK9 => ?_)
  refine c_reg ?_ -- region 10 compm.go:521
  refine wl (ro_cmp rfl rfl rfl) ?_
  refine wl (ro_assign rfl) ?_
  refine wl_nil (x_then (hK9 _ _ ?_))
  clear hK9 K9
  refine wc_condF rfl ?_
  refine c_seq (fun K10 hK10 => ?_)
  refine c_reg ?_ -- region 12 compm.go:523
  refine wl (ro_cmp rfl rfl rfl) ?_
  refine wl (ro_assign rfl) ?_
  refine wl_nil (x_then (hK10 _ _ ?_))
  clear hK10 K10
  refine wc_condF rfl ?_
  refine c_seq (fun K11 hK11 => ?_)
  refine c_reg ?_ -- region 15 compm.go:526
  refine wl (ro_cmp rfl rfl rfl) ?_
  refine wl (ro_assign rfl) ?_
  refine wl_nil (x_then (hK11 _ _ ?_))
  clear hK11 K11
  refine wc_condF rfl ?_
  refine c_seq (fun K12 hK12 => ?_)
  refine c_reg ?_ -- region 16 compm.go:527
  refine wl (ro_cmp rfl rfl rfl) ?_
  refine wl (ro_assign rfl) ?_
  refine wl_nil (x_then (hK12 _ _ ?_))
  clear hK12 K12
  refine wc_condF rfl ?_
  refine c_seq (fun K13 hK13 => ?_)
  refine c_reg ?_ -- region 18 compm.go:529
  refine wl (ro_cmp rfl rfl rfl) ?_
  refine wl (ro_assign rfl) ?_
  refine wl_nil (x_then (hK13 _ _ ?_))
  clear hK13 K13
  refine wc_condF rfl ?_
  refine c_seq (fun K14 hK14 => ?_)
  refine c_reg ?_ -- region 21 compm.go:532
  refine wl (ro_cmp rfl rfl rfl) ?_
  refine wl (ro_assign rfl) ?_
  refine wl_nil (x_then (hK14 _ _ ?_))
  clear hK14 K14
  refine wc_condF rfl ?_
  refine c_seq (fun K15 hK15 => ?_)
  refine c_reg ?_ -- region 28 compm.go:539
  refine wl (ro_cmp rfl rfl rfl) ?_
  refine wl (ro_assign rfl) ?_
  refine wl_nil (x_then (hK15 _ _ ?_))
  clear hK15 K15
  refine wc_condF rfl ?_
  refine c_seq (fun K16 hK16 => ?_)
  refine c_reg ?_ -- region 31 compm.go:542
  refine wl (ro_cmp rfl rfl rfl) ?_
  refine wl (ro_assign rfl) ?_
  refine wl_nil (x_then (hK16 _ _ ?_))
  clear hK16 K16
  refine wc_condF rfl ?_
  refine c_seq (fun K17 hK17 => ?_)
  refine c_reg ?_ -- region 37 compm.go:550
  refine wl (ro_cmp rfl rfl rfl) ?_
  refine wl (ro_assign rfl) ?_
  refine wl_nil (x_then (hK17 _ _ ?_))
  clear hK17 K17
  refine wc_condF rfl ?_
  refine c_seq (fun K18 hK18 => ?_)
  refine c_reg ?_ -- region 42 compm.go:555
  refine wl (ro_cmp rfl rfl rfl) ?_
  refine wl (ro_assign rfl) ?_
  refine wl_nil (x_then (hK18 _ _ ?_))
  clear hK18 K18
  refine wc_condF rfl ?_
  refine c_seq (fun K19 hK19 => ?_)
  refine c_reg ?_ -- region 47 compm.go:562
  refine wl (ro_cmp rfl rfl rfl) ?_
  refine wl (ro_assign rfl) ?_
  refine wl_nil (x_then (hK19 _ _ ?_))
  clear hK19 K19
  refine wc_condF rfl ?_
  refine c_seq (fun K20 hK20 => ?_)
  refine c_reg ?_ -- region 50 compm.go:565
  refine wl (ro_cmp rfl rfl rfl) ?_
  refine wl (ro_assign rfl) ?_
  refine wl_nil (x_then (hK20 _ _ ?_))
  clear hK20 K20
  refine wc_condF rfl ?_
  refine c_seq (fun K21 hK21 => ?_)
  refine c_reg ?_ -- region 55 compm.go:571
  refine wl (ro_cmp rfl rfl rfl) ?_
  refine wl (ro_assign rfl) ?_
  refine wl_nil (x_then (hK21 _ _ ?_))
  clear hK21 K21
  refine wc_condF rfl ?_
  refine c_seq (fun K22 hK22 => ?_)
  refine c_reg ?_ -- region 58 compm.go:575
  refine wl (ro_cmp rfl rfl rfl) ?_
  refine wl (ro_assign rfl) ?_
  refine wl_nil (x_then (hK22 _ _ ?_))
  clear hK22 K22
  refine wc_condF rfl ?_
  refine c_seq (fun K23 hK23 => ?_)
  refine c_reg ?_ -- region 67 compm.go:588
  refine wl (ro_cmp rfl rfl rfl) ?_
  refine wl (ro_assign rfl) ?_
  refine wl_nil (x_then (hK23 _ _ ?_))
  clear hK23 K23
  refine wc_condF rfl ?_
  refine c_seq (fun K24 hK24 => ?_)
  refine c_reg ?_ -- region 78 compm.go:603
  refine wl (ro_cmp rfl rfl rfl) ?_
  refine wl (ro_assign rfl) ?_
  refine wl_nil (x_then (hK24 _ _ ?_))
  clear hK24 K24
  refine wc_condF rfl ?_
  refine c_seq (fun K25 hK25 => ?_)
  refine c_reg ?_ -- region 83 compm.go:609
  refine wl (ro_cmp rfl rfl rfl) ?_
  refine wl (ro_assign rfl) ?_
  refine wl_nil (x_then (hK25 _ _ ?_))
  clear hK25 K25
  refine wc_condF rfl ?_
  refine c_seq (fun K26 hK26 => ?_)
  refine c_reg ?_ -- region 89 compm.go:617
  refine wl (ro_cmp rfl rfl rfl) ?_
  refine wl (ro_assign rfl) ?_
  refine wl_nil (x_then (hK26 _ _ ?_))
  clear hK26 K26
  refine wc_condF rfl ?_
  refine c_seq (fun K27 hK27 => ?_)
  refine c_reg ?_ -- region 100 compm.go:630
  refine wl (ro_cmp rfl rfl rfl) ?_
  refine wl (ro_assign rfl) ?_
  refine wl_nil (x_then (hK27 _ _ ?_))
  clear hK27 K27
  refine wc_condT rfl ?_
  refine c_seq (fun K28 hK28 => ?_)
  refine c_reg ?_ -- region 101 compm.go:631
  refine wl (ro_move rfl) ?_
  refine wl_call rfl en_63 (burn63 hR.dr) ?_
  rintro _ u6 ⟨rfl, ow6, x6, f6, r6⟩
  obtain ⟨hN, khN⟩ := cm_loc x6 f6 hN khN
  obtain ⟨h3, kh3⟩ := cm_loc x6 f6 h3 kh3
  obtain ⟨h4, kh4⟩ := cm_loc x6 f6 h4 kh4
  have hs6 := hF.size
  replace hF := cm_trans hX hF f6
  replace hX := hX.trans hs6 x6
  replace hR := r6
  refine wl_nil (x_then (hK28 _ _ ?_))
  clear hK28 K28
  refine wc_cond rfl (fun hc659 => ?_) (fun hc659 => ?_)
  · try simp only [decide_eq_true_eq, decide_eq_false_iff_not, Bool.not_eq_true', Bool.not_eq_false', Bool.not_eq_eq_eq_not, Bool.not_true, Bool.not_false, beq_iff_eq, bne_iff_ne, ne_eq, beq_eq_false_iff_ne, bne_eq_false_iff_eq, gt_iff_lt, ge_iff_le, Int.not_lt, Int.not_le] at hc659
    have hfu : ¬ sP.fuel = 0 := by simpa [IS.setT] using hc659
    refine c_reg ?_ -- region 102 compm.go:632
    refine wl (ro_move rfl) ?_
    refine wl (ro_fieldAddr (k := 1) rfl fo_161_1) ?_
    refine wl (ro_loadB rfl sc_3 (by assumption) rfl) ?_
    refine wl (ro_fieldAddr (k := 3) rfl fo_161_3) ?_
    refine wl (ro_loadB rfl sc_120 (by assumption) rfl) ?_
    refine wl_call rfl en_55 (do55 (k := 19) (n := tn) (x := 0) hR.dr heP (by omega)) ?_
    rintro _ u7 ⟨rfl, ow7, x7, f7, r7⟩
    obtain ⟨hN, khN⟩ := cm_loc x7 f7 hN khN
    obtain ⟨h3, kh3⟩ := cm_loc x7 f7 h3 kh3
    obtain ⟨h4, kh4⟩ := cm_loc x7 f7 h4 kh4
    have hs7 := hF.size
    replace hF := cm_trans hX hF f7
    replace hX := hX.trans hs7 x7
    replace hR := r7
    refine wl_nil (x_blk ?_)
    refine bp_end Tryz.results33 rfl ?_
    refine ⟨rfl, ?_⟩
    rw [hgoal]
    unfold istep1
    simp only [Nat.reduceEqDiff, reduceIte]
    try rw [hmod]
    try simp only [hnx]
    try rw [hlen7]
    try rw [hlen8]
    try (rw [burn_if (by exact P.b.dn)]; first | rw [if_pos (by exact hfu)] | rw [if_neg (by exact hfu)])
    repeat (first | rw [if_pos (by first | assumption | omega)] | rw [if_neg (by first | assumption | omega)])
    first
    | exact hf0 hX hF hR (by omega)
    | exact hf1 hX hF hR (by omega)
    | exact hf2 hX hF hR (by omega)
    | exact hf9 hX hF hR (by omega)
  · try simp only [decide_eq_true_eq, decide_eq_false_iff_not, Bool.not_eq_true', Bool.not_eq_false', Bool.not_eq_eq_eq_not, Bool.not_true, Bool.not_false, beq_iff_eq, bne_iff_ne, ne_eq, beq_eq_false_iff_ne, bne_eq_false_iff_eq, gt_iff_lt, ge_iff_le, Int.not_lt, Int.not_le] at hc659
    have hfu : sP.fuel = 0 := by simpa [IS.setT] using hc659
    refine c_skip (x_blk ?_)
    refine bp_end Tryz.results33 rfl ?_
    refine ⟨rfl, ?_⟩
    rw [hgoal]
    unfold istep1
    simp only [Nat.reduceEqDiff, reduceIte]
    try rw [hmod]
    try simp only [hnx]
    try rw [hlen7]
    try rw [hlen8]
    try (rw [burn_if (by exact P.b.dn)]; first | rw [if_pos (by exact hfu)] | rw [if_neg (by exact hfu)])
    repeat (first | rw [if_pos (by first | assumption | omega)] | rw [if_neg (by first | assumption | omega)])
    first
    | exact hf0 hX hF hR (by omega)
    | exact hf1 hX hF hR (by omega)
    | exact hf2 hX hF hR (by omega)
    | exact hf9 hX hF hR (by omega)

set_option maxHeartbeats 8000000 in
theorem step33_21 {G : Arena} {root : Nat} {np : Value} {tb rb : Nat} {nv : Value} {w : World} {ow : Nat → Nat} {β τ : List Nat} {m : Nat} {s : IS} (hR : RM G root np tb rb nv w ow β τ m s) (hG : 0 < G.length) (hAG : AOK G) (h0K : (nd G 0).K = 0) (hI : IA G root s) (ht0 : 0 < s.tabs.length) (hm : m ≤ 19900) {tn tx te : Nat} {r : List Tk} (htk : s.th.tasks = ⟨21, tn, tx, te⟩ :: r) :
    Ret Tryz.prog 33 [ptr rb] w (fun r w' => r = .tuple #[] ∧ ∃ bs τ', RP G root np tb rb nv w ow (β ++ bs) (τ ++ τ') (m + 12) (istep G root s) w') := by
  obtain ⟨hok, hnu, htb, T, h, P0, hT0⟩ := hI
  have hTe := P0.t.symm.trans htk
  subst hTe
  have hF : Fram (tg ow cmT) w w := Fram.refl _ _
  have hX : Xt w ow ow := Xt.refl _ _
  have hmr := hR.mem_r
  have hgoal : istep G root s = istep1 G root ⟨21, tn, tx, te⟩ s (s.setT { s.th with tasks := r }) := by unfold istep; rw [htk]
  have het : te ≤ s.envs.length := by have q := hT0; unfold TkI at q; exact q.1
  have hel : te ≤ β.length := by rw [hR.el]; exact het
  have heP : EP β te (epo β te) := EP.mk' hel
  have htl : s.th.tasks.length = r.length + 1 := by rw [htk]; rfl
  have hcl0 := P0.cl
  have hokP : IOK (s.setT { s.th with tasks := r }) := hok.setT hok.th
  have hP0 : 0 < (s.setT { s.th with tasks := r }).tabs.length := ht0
  have htop : ∀ i, (s.setT { s.th with tasks := r }).top i = s.top i := fun i => by unfold IS.top; rw [th_setT hcl0]
  have hclP : (s.setT { s.th with tasks := r }).cur < (s.setT { s.th with tasks := r }).ths.length := by simpa [IS.setT] using hcl0
  have hetP : te ≤ (s.setT { s.th with tasks := r }).envs.length := het
  have P : PW G root (s.setT { s.th with tasks := r }) r h := P0.pop (t := ⟨21, tn, tx, te⟩) (show (21 : Nat) ≠ 3 by decide)
  obtain ⟨-, hn, -, hf, hk, hT⟩ := hT0.inv (t := ⟨21, tn, tx, te⟩) (show (21 : Nat) ≠ 3 by decide)
  have hn : tn < G.length := hn
  have hvl : (s.setT { s.th with tasks := r }).th.vals.length = h := P.v
  have hokt : ∀ i, ok (s.setT { s.th with tasks := r }) ((s.setT { s.th with tasks := r }).top i) := fun i => IOK.getD hokP.th i
  have hnh := hokP.nh
  have hnc := hokP.nc
  have hnn := (hAG tn).1
  obtain ⟨gn, capn, ln, rfl, hN, khN, hcapn, hrow⟩ := hR.nodes hG
  obtain ⟨pn, hpn⟩ := hrow tn hn
  have hf9 : ∀ {u : World} {ow' : Nat → Nat} {m' : Nat} {s' : IS} {bs τ' : List Nat}, Xt w ow ow' → Fram (tg ow cmT) w u → RM G root np tb rb (.slice (some ⟨gn, 0, none⟩) G.length capn) u ow' (β ++ bs) (τ ++ τ') m' s' → m' ≤ m + 12 → ∃ bs τ', RP G root np tb rb (.slice (some ⟨gn, 0, none⟩) G.length capn) w ow (β ++ bs) (τ ++ τ') (m + 12) s' u := fun {_ _ _ _ bs τ'} h1 h2 h3 h4 => ⟨bs, τ', _, h1, h2, h3.le h4⟩
  have hf0 : ∀ {u : World} {ow' : Nat → Nat} {m' : Nat} {s' : IS}, Xt w ow ow' → Fram (tg ow cmT) w u → RM G root np tb rb (.slice (some ⟨gn, 0, none⟩) G.length capn) u ow' β τ m' s' → m' ≤ m + 12 → ∃ bs τ', RP G root np tb rb (.slice (some ⟨gn, 0, none⟩) G.length capn) w ow (β ++ bs) (τ ++ τ') (m + 12) s' u := fun h1 h2 h3 h4 => hf9 (bs := []) (τ' := []) h1 h2 (by rw [List.append_nil, List.append_nil]; exact h3) h4
  have hf1 : ∀ {u : World} {ow' : Nat → Nat} {m' : Nat} {s' : IS} {bs : List Nat}, Xt w ow ow' → Fram (tg ow cmT) w u → RM G root np tb rb (.slice (some ⟨gn, 0, none⟩) G.length capn) u ow' (β ++ bs) τ m' s' → m' ≤ m + 12 → ∃ bs τ', RP G root np tb rb (.slice (some ⟨gn, 0, none⟩) G.length capn) w ow (β ++ bs) (τ ++ τ') (m + 12) s' u := fun {_ _ _ _ bs} h1 h2 h3 h4 => hf9 (bs := bs) (τ' := []) h1 h2 (by rw [List.append_nil]; exact h3) h4
  have hf2 : ∀ {u : World} {ow' : Nat → Nat} {m' : Nat} {s' : IS} {b1 b2 : Nat}, Xt w ow ow' → Fram (tg ow cmT) w u → RM G root np tb rb (.slice (some ⟨gn, 0, none⟩) G.length capn) u ow' (β ++ [b1] ++ [b2]) τ m' s' → m' ≤ m + 12 → ∃ bs τ', RP G root np tb rb (.slice (some ⟨gn, 0, none⟩) G.length capn) w ow (β ++ bs) (τ ++ τ') (m + 12) s' u := fun {_ _ _ _ b1 b2} h1 h2 h3 h4 => hf9 (bs := [b1, b2]) (τ' := []) h1 h2 (by rw [List.append_nil]; rw [List.append_assoc] at h3; exact h3) h4
  refine ret_of Tryz.func33 rfl Tryz.ntmps33 rfl ?_
  refine c_seq (fun K1 hK1 => ?_)
  obtain ⟨cv, a0, a1, a2, a3, a4, gT, capT, lT, bT, tvT, vvT, hXr, hO, hlT, hcapT, hbT, hTh, hgT⟩ := hR.open
  have hB := hTh.k
  have hkb := hTh.t
  have hclT := hR.cl
  unfold rnc at hXr
  have hk70 := hR.t70
  have hbdd := hR.bdm
  refine c_pi [(0, false), (1, false), (2, false), (3, false), (4, false), (5, false), (6, false), (7, false), (8, false), (9, false), (10, false)] (SameH _) mixed (by kernel_rfl) rfl (by kernel_rfl) (po_then (po_bp)) (sameH_now _ _) ?_ -- region 0 compm.go:509
  refine pi_ro rfl (fun w hS => ro_move rfl) ?_
  refine pi_ro rfl (fun w hS => ro_nilCheck rfl) ?_
  refine pi_ro rfl (fun w hS => ro_fieldAddr (k := 5) rfl fo_112_5) ?_
  refine pi_ro rfl (fun w hS => ro_loadB rfl sc_109 (Blk.of_heap (by assumption) hS) rfl) ?_
  refine pi_ro rfl (fun w hS => ro_move rfl) ?_
  refine pi_ro rfl (fun w hS => ro_nilCheck rfl) ?_
  refine pi_ro rfl (fun w hS => ro_fieldAddr (k := 12) rfl fo_112_8) ?_
  refine pi_ro rfl (fun w hS => ro_loadB rfl sc_3 (Blk.of_heap (by assumption) hS) rfl) ?_
  refine pi_ro rfl (fun w hS => ro_indexAddr (et := 123) (k := 1) rfl rfl se_109 rfl (by omega)) ?_
  refine pi_ro rfl (fun w hS => ro_loadB rfl sc_123 (Blk.of_heap hO hS) (hlT)) ?_
  refine pi_ro rfl (fun w hS => ro_assign rfl) ?_
  refine pi_nil (x_then (hK1 _ _ ?_))
  clear hK1 K1
  refine forget [(0, _), (2, _)] ⟨rfl, rfl, trivial⟩ (fun e => ?_)
  refine c_seq (fun K2 hK2 => ?_)
  have hts0 := hTh.ts
  rw [htk] at hts0
  obtain ⟨gt, capt, lt, e1, hV, q1, q2, q3, q4⟩ := hts0.atR (tsc_len β) (j := 0) rfl
  subst e1
  obtain ⟨va, vc, rfl⟩ := hTh.vs.form
  have hrl : ((⟨21, tn, tx, te⟩ : Tk) :: r).length = r.length + 1 := rfl
  refine c_piL 13 [(0, false), (1, false), (2, false), (3, false), (4, false), (5, false), (6, false), (7, false), (8, false), (9, false), (10, false), (11, false), (12, true)] (La bT _ _ (La gt _ _ (fun _ => True))) mixed (by kernel_rfl) rfl (by kernel_rfl) (po_then (po_bp)) (⟨hB, hV, trivial⟩) ?_ -- region 1 compm.go:510
  refine ql_ro rfl (fun w hS => ro_move rfl) ?_
  refine ql_ro rfl (fun w hS => ro_nilCheck rfl) ?_
  refine ql_ro rfl (fun w hS => ro_fieldAddr (k := 3) rfl fo_126_3) ?_
  refine ql_ro rfl (fun w hS => ro_loadB rfl sc_124 (hS.1) rfl) ?_
  refine ql_ro rfl (fun w hS => ro_move rfl) ?_
  refine ql_ro rfl (fun w hS => ro_nilCheck rfl) ?_
  refine ql_ro rfl (fun w hS => ro_fieldAddr (k := 3) rfl fo_126_3) ?_
  refine ql_ro rfl (fun w hS => ro_loadB rfl sc_124 (hS.1) rfl) ?_
  refine ql_ro rfl (fun w hS => ro_lenL rfl se_124) ?_
  refine ql_ro rfl (fun w hS => ro_arith rfl rfl rfl (Go.IntWalk.i64_in _ (by omega))) ?_
  refine ql_ro rfl (fun w hS => ro_indexAddr (et := 161) (k := 4) rfl rfl se_124 ((show ((((⟨21, tn, tx, te⟩ : Tk) :: r).length : Int) - 1) = ((((⟨21, tn, tx, te⟩ : Tk) :: r).length - 1 - 0 : Nat) : Int) by omega)) ((by omega))) ?_
  refine ql_ro rfl (fun w hS => ro_loadAggB rfl ag_161 (hS.2.1) (rfl) (q4)) ?_
  refine ql_new rfl ze_161 (fun w1 F ↦ ⟨F.blkN hB, F.blkN hV, trivial⟩) ?_
  intro b3 w1 hbb3 h3 F1
  have hbsb3 := Nat.le_trans hF.size hbb3
  have hnegnb3 : gn < b3 := Nat.lt_of_lt_of_le hN.lt hbb3
  have hnegTb3 : gT < b3 := Nat.lt_of_lt_of_le hO.lt hbb3
  have hnebTb3 : bT < b3 := Nat.lt_of_lt_of_le hB.lt hbb3
  have hnerbb3 : rb < b3 := Nat.lt_of_lt_of_le hXr.lt hbb3
  have hnegtb3 : gt < b3 := Nat.lt_of_lt_of_le hV.lt hbb3
  have kh3 := hR.df b3 hbb3
  replace hF := hF.thenDrew.thenN F1
  replace hR := hR.thruN ((Fram.refl none' _).thenDrew.thenN F1)
  replace hN := F1.blkN hN
  replace hO := F1.blkN hO
  replace hB := F1.blkN hB
  replace hXr := F1.blkN hXr
  replace hV := F1.blkN hV
  refine ql_puta rfl rfl rfl ((tsc_one _ _)) sz_161 (rfl) h3 ((by simp)) ((show _ = [i64c 21, i64c tn, i64c tx, .pointer (epo β te)] from rfl)) (fun w2 h3 F2 => ?_)
  replace hF := hF.thenDrew.thenO F2 (by first | exact .inr (by omega) | exact .inl rfl | exact .inl (by assumption) | assumption)
  replace hR := hR.hbput ((Fram.refl (one b3) _).thenDrew.thenO F2 (.inl rfl))
  replace hN := F2.blkO hN (by first | omega | exact ow_ne (by assumption) (by assumption) (by omega))
  replace hO := F2.blkO hO (by first | omega | exact ow_ne (by assumption) (by assumption) (by omega))
  replace hB := F2.blkO hB (by first | omega | exact ow_ne (by assumption) (by assumption) (by omega))
  replace hXr := F2.blkO hXr (by first | omega | exact ow_ne (by assumption) (by assumption) (by omega))
  replace hV := F2.blkO hV (by first | omega | exact ow_ne (by assumption) (by assumption) (by omega))
  refine x_then (hK2 _ _ ?_)
  clear hK2 K2
  refine forget [(0, _), (2, _), (3, _)] ⟨rfl, rfl, rfl, trivial⟩ (fun e => ?_)
  refine c_seq (fun K3 hK3 => ?_)
  obtain ⟨b0, hb0⟩ : ∃ b0, b0 = bT := ⟨_, rfl⟩
  subst hb0
  have hb0 := hbT
  clear hTh hkb hlT hbT hcapT hgT hclT hk70 hB hO hXr hV q4 q3 q2 q1 hts0
  obtain ⟨cv, a0, a1, a2, a3, a4, gT, capT, lT, bT, tvT, vvT, hXr, hO, hlT, hcapT, hbT, hTh, hgT⟩ := hR.open
  have hB := hTh.k
  have hkb := hTh.t
  have hclT := hR.cl
  unfold rnc at hXr
  have hk70 := hR.t70
  have hbe : bT = b0 := Option.some.inj (hbT.symm.trans hb0)
  subst hbe
  obtain ⟨ta, tc, rfl⟩ := hTh.ts.form
  obtain ⟨va2, vc2, rfl⟩ := hTh.vs.form
  have hcapt := hTh.ts.capge
  have htr := hTh.ts.dropR (tsc_len β) 1
  rw [htl, htk] at htr
  have hmb := hX.memC (hR.mem_b hR.cl hTh.t)
  refine c_piL 14 [(0, false), (1, false), (2, false), (3, false), (4, false), (5, false), (6, false), (7, false), (8, false), (9, false), (10, false), (11, false), (12, false), (13, false)] (SameH _) mixed (by kernel_rfl) rfl (by kernel_rfl) (po_then (po_bp)) (sameH_now _ _) ?_ -- region 2 compm.go:511
  refine ql_ro rfl (fun w hS => ro_move rfl) ?_
  refine ql_ro rfl (fun w hS => ro_move rfl) ?_
  refine ql_ro rfl (fun w hS => ro_nilCheck rfl) ?_
  refine ql_ro rfl (fun w hS => ro_fieldAddr (k := 3) rfl fo_126_3) ?_
  refine ql_ro rfl (fun w hS => ro_loadB rfl sc_124 (Blk.of_heap (by assumption) hS) rfl) ?_
  refine ql_ro rfl (fun w hS => ro_move rfl) ?_
  refine ql_ro rfl (fun w hS => ro_nilCheck rfl) ?_
  refine ql_ro rfl (fun w hS => ro_fieldAddr (k := 3) rfl fo_126_3) ?_
  refine ql_ro rfl (fun w hS => ro_loadB rfl sc_124 (Blk.of_heap (by assumption) hS) rfl) ?_
  refine ql_ro rfl (fun w hS => ro_lenL rfl se_124) ?_
  refine ql_ro rfl (fun w hS => ro_arith rfl rfl rfl (Go.IntWalk.i64_in _ (by omega))) ?_
  refine ql_ro rfl (fun w hS => ro_sliceH (h := r.length) rfl rfl se_124 (by omega) (by omega)) ?_
  refine ql_ro rfl (fun w hS => ro_nilCheck rfl) ?_
  refine ql_ro rfl (fun w hS => ro_fieldAddr (k := 3) rfl fo_126_3) ?_
  refine ql_put rfl rfl rfl rfl sz_124 hB ((by simp)) (rfl) (fun w3 hB F3 => ?_)
  replace hF := hF.thenDrew.thenO F3 (by first | exact .inr (by omega) | exact .inl rfl | exact .inl (by assumption) | assumption)
  replace hN := F3.blkO hN (by first | omega | exact ow_ne (by assumption) (by assumption) (by omega))
  replace h3 := F3.blkO h3 (by first | omega | exact ow_ne (by assumption) (by assumption) (by omega))
  replace hO := F3.blkO hO (by first | omega | exact ow_ne (by assumption) (by assumption) (by omega))
  replace hXr := F3.blkO hXr (by first | omega | exact ow_ne (by assumption) (by assumption) (by omega))
  have hR2 := hR.thr' (y := { s.th with tasks := r }) hbT hTh.t htr hTh.vs ((Fram.refl (one bT) _).thenDrew.thenO F3 (.inl rfl)) hB (fun z hz => hR.tem z (by rw [htk]; exact List.mem_cons_of_mem _ hz)) (by have := hR.bdm; rw [htl] at this; exact ⟨by show r.length ≤ m; omega, this.2⟩)
  replace hR := hR2
  obtain ⟨b0, hb1⟩ : ∃ b0, b0 = bT := ⟨_, rfl⟩
  subst hb1
  have hb0 : τ[(s.setT { s.th with tasks := r }).cur]? = some b0 := hbT
  clear hTh hkb hlT hbT hcapT hgT hclT hk70 hB hO hXr htr hmb hcapt hbdd
  generalize hsP : s.setT { s.th with tasks := r } = sP at *
  have hbdP := hR.bdm
  refine x_then (hK3 _ _ ?_)
  clear hK3 K3
  refine forget [(0, _), (2, _), (3, _)] ⟨rfl, rfl, rfl, trivial⟩ (fun e => ?_)
  refine c_seq (fun K4 hK4 => ?_)
  refine c_reg ?_ -- region 3 compm.go:512
  refine wl_new (ze_148) (fun b4 w4 hbb4 h4 F4 => ?_)
  have hbsb4 := Nat.le_trans hF.size hbb4
  have hnegnb4 : gn < b4 := Nat.lt_of_lt_of_le hN.lt hbb4
  have hneb3b4 : b3 < b4 := Nat.lt_of_lt_of_le h3.lt hbb4
  have kh4 := hR.df b4 hbb4
  replace hF := hF.thenDrew.thenN F4
  replace hN := F4.blkN hN
  replace h3 := F4.blkN h3
  replace hR := hR.thruN ((Fram.refl none' _).thenDrew.thenN F4)
  refine wl_nil (x_then (hK4 _ _ ?_))
  clear hK4 K4
  refine c_seq (fun K5 hK5 => ?_)
  refine c_seq (fun K6 hK6 => ?_)
  refine c_reg ?_ -- region 4 compm.go:513
  refine wl (ro_fieldAddr (k := 0) rfl fo_161_0) ?_
  refine wl (ro_loadB rfl sc_3 (by assumption) rfl) ?_
  refine wl (ro_cmp rfl rfl rfl) ?_
  refine wl_nil (x_then (hK6 _ _ ?_))
  clear hK6 K6
  refine wc_condT rfl ?_
  obtain ⟨cv, hv_, a0, a1, a2, a3, a4, hXr, hq2, hq3, hq4⟩ := hR.r
  unfold rnc at hXr
  have hk70 := hR.t70
  refine c_piL 8 [(0, false), (1, false), (2, false), (3, false), (4, false), (5, false), (6, false), (7, false)] (SameH _) mixed (by kernel_rfl) rfl (by kernel_rfl) (po_then (po_bp)) (sameH_now _ _) ?_ -- region 5 compm.go:514
  refine ql_ro rfl (fun w hS => ro_move rfl) ?_
  refine ql_ro rfl (fun w hS => ro_nilCheck rfl) ?_
  refine ql_ro rfl (fun w hS => ro_fieldAddr (k := 2) rfl fo_112_2) ?_
  refine ql_ro rfl (fun w hS => ro_loadB rfl sc_77 (Blk.of_heap (by assumption) hS) rfl) ?_
  refine ql_ro rfl (fun w hS => ro_fieldAddr (k := 1) rfl fo_161_1) ?_
  refine ql_ro rfl (fun w hS => ro_loadB rfl sc_3 (Blk.of_heap (by assumption) hS) rfl) ?_
  refine ql_ro rfl (fun w hS => ro_indexAddr (et := 148) (k := 8) rfl rfl se_77 (rfl) (hn)) ?_
  refine ql_ro rfl (fun w hS => ro_loadAggB rfl ag_148 (Blk.of_heap hN hS) (rfl) (hpn)) ?_
  refine ql_puta rfl rfl rfl ((ndc_one _)) sz_148 (rfl) h4 ((by simp)) ((show _ = ndc (nd G tn, pn) from rfl)) (fun w5 h4 F5 => ?_)
  replace hF := hF.thenDrew.thenO F5 (by first | exact .inr (by omega) | exact .inl rfl | exact .inl (by assumption) | assumption)
  replace hN := F5.blkO hN (by first | omega | exact ow_ne (by assumption) (by assumption) (by omega))
  replace h3 := F5.blkO h3 (by first | omega | exact ow_ne (by assumption) (by assumption) (by omega))
  replace hR := hR.hbput ((Fram.refl (one b4) _).thenDrew.thenO F5 (.inl rfl))
  replace hXr := F5.blkO hXr (by first | omega | exact ow_ne (by assumption) (by assumption) (by omega))
  refine x_then (hK5 _ _ ?_)
  clear hK5 K5
  refine forget [(0, _), (2, _), (3, _), (4, _)] ⟨rfl, rfl, rfl, rfl, trivial⟩ (fun e => ?_)
  refine c_seq (fun K7 hK7 => ?_)
  have hf : flT r + 2 ≤ h := hf
  refine c_reg ?_ -- region 6 compm.go:516
  refine wl (ro_fieldAddr (k := 0) rfl fo_161_0) ?_
  refine wl (ro_loadB rfl sc_3 (by assumption) rfl) ?_
  refine wl_nil (x_then (hK7 _ _ ?_))
  clear hK7 K7
  refine c_block ?_
  refine forget [(0, _), (2, _), (3, _), (4, _), (92, _)] ⟨rfl, rfl, rfl, rfl, rfl, trivial⟩ (fun e => ?_)
  refine c_seq (fun K8 hK8 => ?_)
  refine c_reg ?_ -- region 7 compm.go:517
  refine wl (ro_cmp rfl rfl rfl) ?_
  refine wl (ro_assign rfl) ?_
  refine wl_nil (x_then (hK8 _ _ ?_))
  clear hK8 K8
  refine wc_condF rfl ?_
  refine c_seq (fun K9 hK9 => ?_)
  refine c_reg ?_ -- region 10 compm.go:521
  refine wl (ro_cmp rfl rfl rfl) ?_
  refine wl (ro_assign rfl) ?_
  refine wl_nil (x_then (hK9 _ _ ?_))
  clear hK9 K9
  refine wc_condF rfl ?_
  refine c_seq (fun K10 hK10 => ?_)
  refine c_reg ?_ -- region 12 compm.go:523
  refine wl (ro_cmp rfl rfl rfl) ?_
  refine wl (ro_assign rfl) ?_
  refine wl_nil (x_then (hK10 _ _ ?_))
  clear hK10 K10
  refine wc_condF rfl ?_
  refine c_seq (fun K11 hK11 => ?_)
  refine c_reg ?_ -- region 15 compm.go:526
  refine wl (ro_cmp rfl rfl rfl) ?_
  refine wl (ro_assign rfl) ?_
  refine wl_nil (x_then (hK11 _ _ ?_))
  clear hK11 K11
  refine wc_condF rfl ?_
  refine c_seq (fun K12 hK12 => ?_)
  refine c_reg ?_ -- region 16 compm.go:527
  refine wl (ro_cmp rfl rfl rfl) ?_
  refine wl (ro_assign rfl) ?_
  refine wl_nil (x_then (hK12 _ _ ?_))
  clear hK12 K12
  refine wc_condF rfl ?_
  refine c_seq (fun K13 hK13 => ?_)
  refine c_reg ?_ -- region 18 compm.go:529
  refine wl (ro_cmp rfl rfl rfl) ?_
  refine wl (ro_assign rfl) ?_
  refine wl_nil (x_then (hK13 _ _ ?_))
  clear hK13 K13
  refine wc_condF rfl ?_
  refine c_seq (fun K14 hK14 => ?_)
  refine c_reg ?_ -- region 21 compm.go:532
  refine wl (ro_cmp rfl rfl rfl) ?_
  refine wl (ro_assign rfl) ?_
  refine wl_nil (x_then (hK14 _ _ ?_))
  clear hK14 K14
  refine wc_condF rfl ?_
  refine c_seq (fun K15 hK15 => ?_)
  refine c_reg ?_ -- region 28 compm.go:539
  refine wl (ro_cmp rfl rfl rfl) ?_
  refine wl (ro_assign rfl) ?_
  refine wl_nil (x_then (hK15 _ _ ?_))
  clear hK15 K15
  refine wc_condF rfl ?_
  refine c_seq (fun K16 hK16 => ?_)
  refine c_reg ?_ -- region 31 compm.go:542
  refine wl (ro_cmp rfl rfl rfl) ?_
  refine wl (ro_assign rfl) ?_
  refine wl_nil (x_then (hK16 _ _ ?_))
  clear hK16 K16
  refine wc_condF rfl ?_
  refine c_seq (fun K17 hK17 => ?_)
  refine c_reg ?_ -- region 37 compm.go:550
  refine wl (ro_cmp rfl rfl rfl) ?_
  refine wl (ro_assign rfl) ?_
  refine wl_nil (x_then (hK17 _ _ ?_))
  clear hK17 K17
  refine wc_condF rfl ?_
  refine c_seq (fun K18 hK18 => ?_)
  refine c_reg ?_ -- region 42 compm.go:555
  refine wl (ro_cmp rfl rfl rfl) ?_
  refine wl (ro_assign rfl) ?_
  refine wl_nil (x_then (hK18 _ _ ?_))
  clear hK18 K18
  refine wc_condF rfl ?_
  refine c_seq (fun K19 hK19 => ?_)
  refine c_reg ?_ -- region 47 compm.go:562
  refine wl (ro_cmp rfl rfl rfl) ?_
  refine wl (ro_assign rfl) ?_
  refine wl_nil (x_then (hK19 _ _ ?_))
  clear hK19 K19
  refine wc_condF rfl ?_
  refine c_seq (fun K20 hK20 => ?_)
  refine c_reg ?_ -- region 50 compm.go:565
  refine wl (ro_cmp rfl rfl rfl) ?_
  refine wl (ro_assign rfl) ?_
  refine wl_nil (x_then (hK20 _ _ ?_))
  clear hK20 K20
  refine wc_condF rfl ?_
  refine c_seq (fun K21 hK21 => ?_)
  refine c_reg ?_ -- region 55 compm.go:571
  refine wl (ro_cmp rfl rfl rfl) ?_
  refine wl (ro_assign rfl) ?_
  refine wl_nil (x_then (hK21 _ _ ?_))
  clear hK21 K21
  refine wc_condF rfl ?_
  refine c_seq (fun K22 hK22 => ?_)
  refine c_reg ?_ -- region 58 compm.go:575
  refine wl (ro_cmp rfl rfl rfl) ?_
  refine wl (ro_assign rfl) ?_
  refine wl_nil (x_then (hK22 _ _ ?_))
  clear hK22 K22
  refine wc_condF rfl ?_
  refine c_seq (fun K23 hK23 => ?_)
  refine c_reg ?_ -- region 67 compm.go:588
  refine wl (ro_cmp rfl rfl rfl) ?_
  refine wl (ro_assign rfl) ?_
  refine wl_nil (x_then (hK23 _ _ ?_))
  clear hK23 K23
  refine wc_condF rfl ?_
  refine c_seq (fun K24 hK24 => ?_)
  refine c_reg ?_ -- region 78 compm.go:603
  refine wl (ro_cmp rfl rfl rfl) ?_
  refine wl (ro_assign rfl) ?_
  refine wl_nil (x_then (hK24 _ _ ?_))
  clear hK24 K24
  refine wc_condF rfl ?_
  refine c_seq (fun K25 hK25 => ?_)
  refine c_reg ?_ -- region 83 compm.go:609
  refine wl (ro_cmp rfl rfl rfl) ?_
  refine wl (ro_assign rfl) ?_
  refine wl_nil (x_then (hK25 _ _ ?_))
  clear hK25 K25
  refine wc_condF rfl ?_
  refine c_seq (fun K26 hK26 => ?_)
  refine c_reg ?_ -- region 89 compm.go:617
  refine wl (ro_cmp rfl rfl rfl) ?_
  refine wl (ro_assign rfl) ?_
  refine wl_nil (x_then (hK26 _ _ ?_))
  clear hK26 K26
  refine wc_condF rfl ?_
  refine c_seq (fun K27 hK27 => ?_)
  refine c_reg ?_ -- region 100 compm.go:630
  refine wl (ro_cmp rfl rfl rfl) ?_
  refine wl (ro_assign rfl) ?_
  refine wl_nil (x_then (hK27 _ _ ?_))
  clear hK27 K27
  refine wc_condF rfl ?_
  refine c_seq (fun K28 hK28 => ?_)
  refine c_reg ?_ -- region 103 compm.go:634
  refine wl (ro_cmp rfl rfl rfl) ?_
  refine wl (ro_assign rfl) ?_
  refine wl_nil (x_then (hK28 _ _ ?_))
  clear hK28 K28
  refine wc_condT rfl ?_
  refine c_seq (fun K29 hK29 => ?_)
  refine c_reg ?_ -- region 104 compm.go:635
  refine wl (ro_move rfl) ?_
  refine wl_call rfl en_59 (pop59 hR.dr (by omega) (by omega)) ?_
  rintro _ u6 ⟨rfl, ow6, x6, f6, r6⟩
  obtain ⟨hN, khN⟩ := cm_loc x6 f6 hN khN
  obtain ⟨h3, kh3⟩ := cm_loc x6 f6 h3 kh3
  obtain ⟨h4, kh4⟩ := cm_loc x6 f6 h4 kh4
  have hs6 := hF.size
  replace hF := cm_trans hX hF f6
  replace hX := hX.trans hs6 x6
  replace hR := r6
  refine wl_new (ze_119) (fun b33 w7 hbb33 h33 F7 => ?_)
  have hbsb33 := Nat.le_trans hF.size hbb33
  have hnegnb33 : gn < b33 := Nat.lt_of_lt_of_le hN.lt hbb33
  have hneb3b33 : b3 < b33 := Nat.lt_of_lt_of_le h3.lt hbb33
  have hneb4b33 : b4 < b33 := Nat.lt_of_lt_of_le h4.lt hbb33
  have kh33 := hR.df b33 hbb33
  replace hF := hF.thenDrew.thenN F7
  replace hN := F7.blkN hN
  replace h3 := F7.blkN h3
  replace hR := hR.thruN ((Fram.refl none' _).thenDrew.thenN F7)
  replace h4 := F7.blkN h4
  refine wl_puta rfl rfl ((pvc_one _)) sz_119 (rfl) h33 ((by simp)) ((show _ = pvc (sP.top 0) from rfl)) (fun w8 h33 F8 => ?_)
  replace hF := hF.thenDrew.thenO F8 (by first | exact .inr (by omega) | exact .inl rfl | exact .inl (by assumption) | assumption)
  replace hN := F8.blkO hN (by first | omega | exact ow_ne (by assumption) (by assumption) (by omega))
  replace h3 := F8.blkO h3 (by first | omega | exact ow_ne (by assumption) (by assumption) (by omega))
  replace hR := hR.hbput ((Fram.refl (one b33) _).thenDrew.thenO F8 (.inl rfl))
  replace h4 := F8.blkO h4 (by first | omega | exact ow_ne (by assumption) (by assumption) (by omega))
  refine wl_nil (x_then (hK29 _ _ ?_))
  clear hK29 K29
  refine forget [(0, _), (33, _)] ⟨rfl, rfl, trivial⟩ (fun e => ?_)
  refine c_seq (fun K30 hK30 => ?_)
  refine c_reg ?_ -- region 105 compm.go:636
  refine wl (ro_move rfl) ?_
  refine wl_call rfl en_59 (pop59 hR.dr (by rw [drop_vals hclP, List.length_drop]; omega) (by omega)) ?_
  rintro _ u9 ⟨rfl, ow9, x9, f9, r9⟩
  obtain ⟨hN, khN⟩ := cm_loc x9 f9 hN khN
  obtain ⟨h3, kh3⟩ := cm_loc x9 f9 h3 kh3
  obtain ⟨h4, kh4⟩ := cm_loc x9 f9 h4 kh4
  obtain ⟨h33, kh33⟩ := cm_loc x9 f9 h33 kh33
  have hs9 := hF.size
  replace hF := cm_trans hX hF f9
  replace hX := hX.trans hs9 x9
  replace hR := r9
  rw [drop_drop hclP] at hR
  rw [top_drop hclP]
  refine wl_new (ze_119) (fun b34 w10 hbb34 h34 F10 => ?_)
  have hbsb34 := Nat.le_trans hF.size hbb34
  have hnegnb34 : gn < b34 := Nat.lt_of_lt_of_le hN.lt hbb34
  have hneb3b34 : b3 < b34 := Nat.lt_of_lt_of_le h3.lt hbb34
  have hneb4b34 : b4 < b34 := Nat.lt_of_lt_of_le h4.lt hbb34
  have hneb33b34 : b33 < b34 := Nat.lt_of_lt_of_le h33.lt hbb34
  have kh34 := hR.df b34 hbb34
  replace hF := hF.thenDrew.thenN F10
  replace hN := F10.blkN hN
  replace h3 := F10.blkN h3
  replace hR := hR.thruN ((Fram.refl none' _).thenDrew.thenN F10)
  replace h4 := F10.blkN h4
  replace h33 := F10.blkN h33
  refine wl_puta rfl rfl ((pvc_one _)) sz_119 (rfl) h34 ((by simp)) ((show _ = pvc (sP.top 1) from rfl)) (fun w11 h34 F11 => ?_)
  replace hF := hF.thenDrew.thenO F11 (by first | exact .inr (by omega) | exact .inl rfl | exact .inl (by assumption) | assumption)
  replace hN := F11.blkO hN (by first | omega | exact ow_ne (by assumption) (by assumption) (by omega))
  replace h3 := F11.blkO h3 (by first | omega | exact ow_ne (by assumption) (by assumption) (by omega))
  replace hR := hR.hbput ((Fram.refl (one b34) _).thenDrew.thenO F11 (.inl rfl))
  replace h4 := F11.blkO h4 (by first | omega | exact ow_ne (by assumption) (by assumption) (by omega))
  replace h33 := F11.blkO h33 (by first | omega | exact ow_ne (by assumption) (by assumption) (by omega))
  refine wl_nil (x_then (hK30 _ _ ?_))
  clear hK30 K30
  refine c_reg ?_ -- region 106 compm.go:637
  refine wl (ro_move rfl) ?_
  refine wl (ro_loadAggB rfl ag_119 (by assumption) rfl rfl) ?_
  refine wl (ro_loadAggB rfl ag_119 (by assumption) rfl rfl) ?_
  refine wl_call rfl en_58 (ret58 (va := sP.top 1) (vb := sP.top 0) hR.dr (hokt 1).wf (hokt 1).w ((P.drop 2).rt hT (by omega)) (by omega)) ?_
  rintro _ u12 ⟨rfl, ow12, x12, f12, r12⟩
  obtain ⟨hN, khN⟩ := cm_loc x12 f12 hN khN
  obtain ⟨h3, kh3⟩ := cm_loc x12 f12 h3 kh3
  obtain ⟨h4, kh4⟩ := cm_loc x12 f12 h4 kh4
  obtain ⟨h33, kh33⟩ := cm_loc x12 f12 h33 kh33
  obtain ⟨h34, kh34⟩ := cm_loc x12 f12 h34 kh34
  have hs12 := hF.size
  replace hF := cm_trans hX hF f12
  replace hX := hX.trans hs12 x12
  replace hR := r12
  refine wl_nil (x_blk ?_)
  refine bp_end Tryz.results33 rfl ?_
  refine ⟨rfl, ?_⟩
  rw [hgoal]
  unfold istep1
  simp only [Nat.reduceEqDiff, reduceIte]
  try rw [hmod]
  try simp only [hnx]
  try rw [hlen7]
  try rw [hlen8]
  try (rw [burn_if (by exact P.b.dn)]; first | rw [if_pos (by exact hfu)] | rw [if_neg (by exact hfu)])
  repeat (first | rw [if_pos (by first | assumption | omega)] | rw [if_neg (by first | assumption | omega)])
  first
  | exact hf0 hX hF hR (by omega)
  | exact hf1 hX hF hR (by omega)
  | exact hf2 hX hF hR (by omega)
  | exact hf9 hX hF hR (by omega)

end Go.Proofs.Qxb6500568aGreatDoor
