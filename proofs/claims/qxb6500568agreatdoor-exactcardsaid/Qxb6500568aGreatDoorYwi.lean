import Derived.Test.Qxb6500568aGreatDoorYv
/- The interpreter: step, tasks of the kinds 25 to 28. -/
namespace Go.Proofs.Qxb6500568aGreatDoor
open Ieee
set_option linter.unusedVariables false
set_option linter.unusedSimpArgs false
set_option linter.unusedSectionVars false

set_option maxHeartbeats 8000000 in
theorem step33_25 {G : Arena} {root : Nat} {np : Value} {tb rb : Nat} {nv : Value} {w : World} {ow : Nat → Nat} {β τ : List Nat} {m : Nat} {s : IS} (hR : RM G root np tb rb nv w ow β τ m s) (hG : 0 < G.length) (hAG : AOK G) (h0K : (nd G 0).K = 0) (hI : IA G root s) (ht0 : 0 < s.tabs.length) (hm : m ≤ 19900) {tn tx te : Nat} {r : List Tk} (htk : s.th.tasks = ⟨25, tn, tx, te⟩ :: r) :
    Ret Tryz.prog 33 [ptr rb] w (fun r w' => r = .tuple #[] ∧ ∃ bs τ', RP G root np tb rb nv w ow (β ++ bs) (τ ++ τ') (m + 12) (istep G root s) w') := by
  obtain ⟨hok, hnu, htb, T, h, P0, hT0⟩ := hI
  have hTe := P0.t.symm.trans htk
  subst hTe
  have hF : Fram (tg ow cmT) w w := Fram.refl _ _
  have hX : Xt w ow ow := Xt.refl _ _
  have hmr := hR.mem_r
  have hgoal : istep G root s = istep1 G root ⟨25, tn, tx, te⟩ s (s.setT { s.th with tasks := r }) := by unfold istep; rw [htk]
  have het : te ≤ s.envs.length := by have q := hT0; unfold TkI at q; exact q.1
  have hel : te ≤ β.length := by rw [hR.el]; exact het
  have heP : EP β te (epo β te) := EP.mk' hel
  have htl : s.th.tasks.length = r.length + 1 := by rw [htk]; rfl
  have hcl0 := P0.cl
  have hokP : IOK (s.setT { s.th with tasks := r }) := hok.setT hok.th
  have hP0 : 0 < (s.setT { s.th with tasks := r }).tabs.length := ht0
  have htop : ∀ i, (s.setT { s.th with tasks := r }).top i = s.top i := fun i => by unfold IS.top; rw [th_setT hcl0]
  have hclP : (s.setT { s.th with tasks := r }).cur < (s.setT { s.th with tasks := r }).ths.length := by simpa [IS.setT] using hcl0
  have hetP : te ≤ (s.setT { s.th with tasks := r }).envs.length := het
  have P : PW G root (s.setT { s.th with tasks := r }) r h := P0.pop (t := ⟨25, tn, tx, te⟩) (show (25 : Nat) ≠ 3 by decide)
  obtain ⟨-, hn, -, hf, hk, hT⟩ := hT0.inv (t := ⟨25, tn, tx, te⟩) (show (25 : Nat) ≠ 3 by decide)
  have hn : tn < G.length := hn
  have hvl : (s.setT { s.th with tasks := r }).th.vals.length = h := P.v
  have hokt : ∀ i, ok (s.setT { s.th with tasks := r }) ((s.setT { s.th with tasks := r }).top i) := fun i => IOK.getD hokP.th i
  have hnh := hokP.nh
  have hnc := hokP.nc
  have hnn := (hAG tn).1
  obtain ⟨gn, capn, ln, rfl, hN, khN, hcapn, hrow⟩ := hR.nodes hG
  obtain ⟨pn, hpn⟩ := hrow tn hn
  have hf9 : ∀ {u : World} {ow' : Nat → Nat} {m' : Nat} {s' : IS} {bs τ' : List Nat}, Xt w ow ow' → Fram (tg ow cmT) w u → RM G root np tb rb (.slice (some ⟨gn, 0, none⟩) G.length capn) u ow' (β ++ bs) (τ ++ τ') m' s' → m' ≤ m + 12 → ∃ bs τ', RP G root np tb rb (.slice (some ⟨gn, 0, none⟩) G.length capn) w ow (β ++ bs) (τ ++ τ') (m + 12) s' u := fun {_ _ _ _ bs τ'} h1 h2 h3 h4 => ⟨bs, τ', _, h1, h2, h3.le h4⟩
  have hf0 : ∀ {u : World} {ow' : Nat → Nat} {m' : Nat} {s' : IS}, Xt w ow ow' → Fram (tg ow cmT) w u → RM G root np tb rb (.slice (some ⟨gn, 0, none⟩) G.length capn) u ow' β τ m' s' → m' ≤ m + 12 → ∃ bs τ', RP G root np tb rb (.slice (some ⟨gn, 0, none⟩) G.length capn) w ow (β ++ bs) (τ ++ τ') (m + 12) s' u := fun h1 h2 h3 h4 => hf9 (bs := []) (τ' := []) h1 h2 (by rw [List.append_nil, List.append_nil]; exact h3) h4
  have hf1 : ∀ {u : World} {ow' : Nat → Nat} {m' : Nat} {s' : IS} {bs : List Nat}, Xt w ow ow' → Fram (tg ow cmT) w u → RM G root np tb rb (.slice (some ⟨gn, 0, none⟩) G.length capn) u ow' (β ++ bs) τ m' s' → m' ≤ m + 12 → ∃ bs τ', RP G root np tb rb (.slice (some ⟨gn, 0, none⟩) G.length capn) w ow (β ++ bs) (τ ++ τ') (m + 12) s' u := fun {_ _ _ _ bs} h1 h2 h3 h4 => hf9 (bs := bs) (τ' := []) h1 h2 (by rw [List.append_nil]; exact h3) h4
  have hf2 : ∀ {u : World} {ow' : Nat → Nat} {m' : Nat} {s' : IS} {b1 b2 : Nat}, Xt w ow ow' → Fram (tg ow cmT) w u → RM G root np tb rb (.slice (some ⟨gn, 0, none⟩) G.length capn) u ow' (β ++ [b1] ++ [b2]) τ m' s' → m' ≤ m + 12 → ∃ bs τ', RP G root np tb rb (.slice (some ⟨gn, 0, none⟩) G.length capn) w ow (β ++ bs) (τ ++ τ') (m + 12) s' u := fun {_ _ _ _ b1 b2} h1 h2 h3 h4 => hf9 (bs := [b1, b2]) (τ' := []) h1 h2 (by rw [List.append_nil]; rw [List.append_assoc] at h3; exact h3) h4
  refine ret_of Tryz.func33 rfl Tryz.ntmps33 rfl ?_
  refine c_seq (fun K1 hK1 => ?_)
  obtain ⟨cv, a0, a1, a2, a3, a4, gT, capT, lT, bT, tvT, vvT, hXr, hO, hlT, hcapT, hbT, hTh, hgT⟩ := hR.open
  have hB := hTh.k
  have hkb := hTh.t
  have hclT := hR.cl
  unfold rnc at hXr
  have hk70 := hR.t70
  have hbdd := hR.bdm
  refine c_pi [(0, false), (1, false), (2, false), (3, false), (4, false), (5, false), (6, false), (7, false), (8, false), (9, false), (10, false)] (SameH _) mixed (by kernel_rfl) rfl (by kernel_rfl) (po_then (po_bp)) (sameH_now _ _) ?_ -- region 0 compm.go:509
  refine pi_ro rfl (fun w hS => ro_move rfl) ?_
  refine pi_ro rfl (fun w hS => ro_nilCheck rfl) ?_
  refine pi_ro rfl (fun w hS => ro_fieldAddr (k := 5) rfl fo_112_5) ?_
  refine pi_ro rfl (fun w hS => ro_loadB rfl sc_109 (Blk.of_heap (by assumption) hS) rfl) ?_
  refine pi_ro rfl (fun w hS => ro_move rfl) ?_
  refine pi_ro rfl (fun w hS => ro_nilCheck rfl) ?_
  refine pi_ro rfl (fun w hS => ro_fieldAddr (k := 12) rfl fo_112_8) ?_
  refine pi_ro rfl (fun w hS => ro_loadB rfl sc_3 (Blk.of_heap (by assumption) hS) rfl) ?_
  refine pi_ro rfl (fun w hS => ro_indexAddr (et := 123) (k := 1) rfl rfl se_109 rfl (by omega)) ?_
  refine pi_ro rfl (fun w hS => ro_loadB rfl sc_123 (Blk.of_heap hO hS) (hlT)) ?_
  refine pi_ro rfl (fun w hS => ro_assign rfl) ?_
  refine pi_nil (x_then (hK1 _ _ ?_))
  clear hK1 K1
  refine forget [(0, _), (2, _)] ⟨rfl, rfl, trivial⟩ (fun e => ?_)
  refine c_seq (fun K2 hK2 => ?_)
  have hts0 := hTh.ts
  rw [htk] at hts0
  obtain ⟨gt, capt, lt, e1, hV, q1, q2, q3, q4⟩ := hts0.atR (tsc_len β) (j := 0) rfl
  subst e1
  obtain ⟨va, vc, rfl⟩ := hTh.vs.form
  have hrl : ((⟨25, tn, tx, te⟩ : Tk) :: r).length = r.length + 1 := rfl
  refine c_piL 13 [(0, false), (1, false), (2, false), (3, false), (4, false), (5, false), (6, false), (7, false), (8, false), (9, false), (10, false), (11, false), (12, true)] (La bT _ _ (La gt _ _ (fun _ => True))) mixed (by kernel_rfl) rfl (by kernel_rfl) (po_then (po_bp)) (⟨hB, hV, trivial⟩) ?_ -- region 1 compm.go:510
  refine ql_ro rfl (fun w hS => ro_move rfl) ?_
  refine ql_ro rfl (fun w hS => ro_nilCheck rfl) ?_
  refine ql_ro rfl (fun w hS => ro_fieldAddr (k := 3) rfl fo_126_3) ?_
  refine ql_ro rfl (fun w hS => ro_loadB rfl sc_124 (hS.1) rfl) ?_
  refine ql_ro rfl (fun w hS => ro_move rfl) ?_
  refine ql_ro rfl (fun w hS => ro_nilCheck rfl) ?_
  refine ql_ro rfl (fun w hS => ro_fieldAddr (k := 3) rfl fo_126_3) ?_
  refine ql_ro rfl (fun w hS => ro_loadB rfl sc_124 (hS.1) rfl) ?_
  refine ql_ro rfl (fun w hS => ro_lenL rfl se_124) ?_
  refine ql_ro rfl (fun w hS => ro_arith rfl rfl rfl (Go.IntWalk.i64_in _ (by omega))) ?_
  refine ql_ro rfl (fun w hS => ro_indexAddr (et := 161) (k := 4) rfl rfl se_124 ((show ((((⟨25, tn, tx, te⟩ : Tk) :: r).length : Int) - 1) = ((((⟨25, tn, tx, te⟩ : Tk) :: r).length - 1 - 0 : Nat) : Int) by omega)) ((by omega))) ?_
  refine ql_ro rfl (fun w hS => ro_loadAggB rfl ag_161 (hS.2.1) (rfl) (q4)) ?_
  refine ql_new rfl ze_161 (fun w1 F ↦ ⟨F.blkN hB, F.blkN hV, trivial⟩) ?_
  intro b3 w1 hbb3 h3 F1
  have hbsb3 := Nat.le_trans hF.size hbb3
  have hnegnb3 : gn < b3 := Nat.lt_of_lt_of_le hN.lt hbb3
  have hnegTb3 : gT < b3 := Nat.lt_of_lt_of_le hO.lt hbb3
  have hnebTb3 : bT < b3 := Nat.lt_of_lt_of_le hB.lt hbb3
  have hnerbb3 : rb < b3 := Nat.lt_of_lt_of_le hXr.lt hbb3
  have hnegtb3 : gt < b3 := Nat.lt_of_lt_of_le hV.lt hbb3
  have kh3 := hR.df b3 hbb3
  replace hF := hF.thenDrew.thenN F1
  replace hR := hR.thruN ((Fram.refl none' _).thenDrew.thenN F1)
  replace hN := F1.blkN hN
  replace hO := F1.blkN hO
  replace hB := F1.blkN hB
  replace hXr := F1.blkN hXr
  replace hV := F1.blkN hV
  refine ql_puta rfl rfl rfl ((tsc_one _ _)) sz_161 (rfl) h3 ((by simp)) ((show _ = [i64c 25, i64c tn, i64c tx, .pointer (epo β te)] from rfl)) (fun w2 h3 F2 => ?_)
  replace hF := hF.thenDrew.thenO F2 (by first | exact .inr (by omega) | exact .inl rfl | exact .inl (by assumption) | assumption)
  replace hR := hR.hbput ((Fram.refl (one b3) _).thenDrew.thenO F2 (.inl rfl))
  replace hN := F2.blkO hN (by first | omega | exact ow_ne (by assumption) (by assumption) (by omega))
  replace hO := F2.blkO hO (by first | omega | exact ow_ne (by assumption) (by assumption) (by omega))
  replace hB := F2.blkO hB (by first | omega | exact ow_ne (by assumption) (by assumption) (by omega))
  replace hXr := F2.blkO hXr (by first | omega | exact ow_ne (by assumption) (by assumption) (by omega))
  replace hV := F2.blkO hV (by first | omega | exact ow_ne (by assumption) (by assumption) (by omega))
  refine x_then (hK2 _ _ ?_)
  clear hK2 K2
  refine forget [(0, _), (2, _), (3, _)] ⟨rfl, rfl, rfl, trivial⟩ (fun e => ?_)
  refine c_seq (fun K3 hK3 => ?_)
  obtain ⟨b0, hb0⟩ : ∃ b0, b0 = bT := ⟨_, rfl⟩
  subst hb0
  have hb0 := hbT
  clear hTh hkb hlT hbT hcapT hgT hclT hk70 hB hO hXr hV q4 q3 q2 q1 hts0
  obtain ⟨cv, a0, a1, a2, a3, a4, gT, capT, lT, bT, tvT, vvT, hXr, hO, hlT, hcapT, hbT, hTh, hgT⟩ := hR.open
  have hB := hTh.k
  have hkb := hTh.t
  have hclT := hR.cl
  unfold rnc at hXr
  have hk70 := hR.t70
  have hbe : bT = b0 := Option.some.inj (hbT.symm.trans hb0)
  subst hbe
  obtain ⟨ta, tc, rfl⟩ := hTh.ts.form
  obtain ⟨va2, vc2, rfl⟩ := hTh.vs.form
  have hcapt := hTh.ts.capge
  have htr := hTh.ts.dropR (tsc_len β) 1
  rw [htl, htk] at htr
  have hmb := hX.memC (hR.mem_b hR.cl hTh.t)
  refine c_piL 14 [(0, false), (1, false), (2, false), (3, false), (4, false), (5, false), (6, false), (7, false), (8, false), (9, false), (10, false), (11, false), (12, false), (13, false)] (SameH _) mixed (by kernel_rfl) rfl (by kernel_rfl) (po_then (po_bp)) (sameH_now _ _) ?_ -- region 2 compm.go:511
  refine ql_ro rfl (fun w hS => ro_move rfl) ?_
  refine ql_ro rfl (fun w hS => ro_move rfl) ?_
  refine ql_ro rfl (fun w hS => ro_nilCheck rfl) ?_
  refine ql_ro rfl (fun w hS => ro_fieldAddr (k := 3) rfl fo_126_3) ?_
  refine ql_ro rfl (fun w hS => ro_loadB rfl sc_124 (Blk.of_heap (by assumption) hS) rfl) ?_
  refine ql_ro rfl (fun w hS => ro_move rfl) ?_
  refine ql_ro rfl (fun w hS => ro_nilCheck rfl) ?_
  refine ql_ro rfl (fun w hS => ro_fieldAddr (k := 3) rfl fo_126_3) ?_
  refine ql_ro rfl (fun w hS => ro_loadB rfl sc_124 (Blk.of_heap (by assumption) hS) rfl) ?_
  refine ql_ro rfl (fun w hS => ro_lenL rfl se_124) ?_
  refine ql_ro rfl (fun w hS => ro_arith rfl rfl rfl (Go.IntWalk.i64_in _ (by omega))) ?_
  refine ql_ro rfl (fun w hS => ro_sliceH (h := r.length) rfl rfl se_124 (by omega) (by omega)) ?_
  refine ql_ro rfl (fun w hS => ro_nilCheck rfl) ?_
  refine ql_ro rfl (fun w hS => ro_fieldAddr (k := 3) rfl fo_126_3) ?_
  refine ql_put rfl rfl rfl rfl sz_124 hB ((by simp)) (rfl) (fun w3 hB F3 => ?_)
  replace hF := hF.thenDrew.thenO F3 (by first | exact .inr (by omega) | exact .inl rfl | exact .inl (by assumption) | assumption)
  replace hN := F3.blkO hN (by first | omega | exact ow_ne (by assumption) (by assumption) (by omega))
  replace h3 := F3.blkO h3 (by first | omega | exact ow_ne (by assumption) (by assumption) (by omega))
  replace hO := F3.blkO hO (by first | omega | exact ow_ne (by assumption) (by assumption) (by omega))
  replace hXr := F3.blkO hXr (by first | omega | exact ow_ne (by assumption) (by assumption) (by omega))
  have hR2 := hR.thr' (y := { s.th with tasks := r }) hbT hTh.t htr hTh.vs ((Fram.refl (one bT) _).thenDrew.thenO F3 (.inl rfl)) hB (fun z hz => hR.tem z (by rw [htk]; exact List.mem_cons_of_mem _ hz)) (by have := hR.bdm; rw [htl] at this; exact ⟨by show r.length ≤ m; omega, this.2⟩)
  replace hR := hR2
  obtain ⟨b0, hb1⟩ : ∃ b0, b0 = bT := ⟨_, rfl⟩
  subst hb1
  have hb0 : τ[(s.setT { s.th with tasks := r }).cur]? = some b0 := hbT
  clear hTh hkb hlT hbT hcapT hgT hclT hk70 hB hO hXr htr hmb hcapt hbdd
  generalize hsP : s.setT { s.th with tasks := r } = sP at *
  have hbdP := hR.bdm
  refine x_then (hK3 _ _ ?_)
  clear hK3 K3
  refine forget [(0, _), (2, _), (3, _)] ⟨rfl, rfl, rfl, trivial⟩ (fun e => ?_)
  refine c_seq (fun K4 hK4 => ?_)
  refine c_reg ?_ -- region 3 compm.go:512
  refine wl_new (ze_148) (fun b4 w4 hbb4 h4 F4 => ?_)
  have hbsb4 := Nat.le_trans hF.size hbb4
  have hnegnb4 : gn < b4 := Nat.lt_of_lt_of_le hN.lt hbb4
  have hneb3b4 : b3 < b4 := Nat.lt_of_lt_of_le h3.lt hbb4
  have kh4 := hR.df b4 hbb4
  replace hF := hF.thenDrew.thenN F4
  replace hN := F4.blkN hN
  replace h3 := F4.blkN h3
  replace hR := hR.thruN ((Fram.refl none' _).thenDrew.thenN F4)
  refine wl_nil (x_then (hK4 _ _ ?_))
  clear hK4 K4
  refine c_seq (fun K5 hK5 => ?_)
  refine c_seq (fun K6 hK6 => ?_)
  refine c_reg ?_ -- region 4 compm.go:513
  refine wl (ro_fieldAddr (k := 0) rfl fo_161_0) ?_
  refine wl (ro_loadB rfl sc_3 (by assumption) rfl) ?_
  refine wl (ro_cmp rfl rfl rfl) ?_
  refine wl_nil (x_then (hK6 _ _ ?_))
  clear hK6 K6
  refine wc_condT rfl ?_
  obtain ⟨cv, hv_, a0, a1, a2, a3, a4, hXr, hq2, hq3, hq4⟩ := hR.r
  unfold rnc at hXr
  have hk70 := hR.t70
  refine c_piL 8 [(0, false), (1, false), (2, false), (3, false), (4, false), (5, false), (6, false), (7, false)] (SameH _) mixed (by kernel_rfl) rfl (by kernel_rfl) (po_then (po_bp)) (sameH_now _ _) ?_ -- region 5 compm.go:514
  refine ql_ro rfl (fun w hS => ro_move rfl) ?_
  refine ql_ro rfl (fun w hS => ro_nilCheck rfl) ?_
  refine ql_ro rfl (fun w hS => ro_fieldAddr (k := 2) rfl fo_112_2) ?_
  refine ql_ro rfl (fun w hS => ro_loadB rfl sc_77 (Blk.of_heap (by assumption) hS) rfl) ?_
  refine ql_ro rfl (fun w hS => ro_fieldAddr (k := 1) rfl fo_161_1) ?_
  refine ql_ro rfl (fun w hS => ro_loadB rfl sc_3 (Blk.of_heap (by assumption) hS) rfl) ?_
  refine ql_ro rfl (fun w hS => ro_indexAddr (et := 148) (k := 8) rfl rfl se_77 (rfl) (hn)) ?_
  refine ql_ro rfl (fun w hS => ro_loadAggB rfl ag_148 (Blk.of_heap hN hS) (rfl) (hpn)) ?_
  refine ql_puta rfl rfl rfl ((ndc_one _)) sz_148 (rfl) h4 ((by simp)) ((show _ = ndc (nd G tn, pn) from rfl)) (fun w5 h4 F5 => ?_)
  replace hF := hF.thenDrew.thenO F5 (by first | exact .inr (by omega) | exact .inl rfl | exact .inl (by assumption) | assumption)
  replace hN := F5.blkO hN (by first | omega | exact ow_ne (by assumption) (by assumption) (by omega))
  replace h3 := F5.blkO h3 (by first | omega | exact ow_ne (by assumption) (by assumption) (by omega))
  replace hR := hR.hbput ((Fram.refl (one b4) _).thenDrew.thenO F5 (.inl rfl))
  replace hXr := F5.blkO hXr (by first | omega | exact ow_ne (by assumption) (by assumption) (by omega))
  refine x_then (hK5 _ _ ?_)
  clear hK5 K5
  refine forget [(0, _), (2, _), (3, _), (4, _)] ⟨rfl, rfl, rfl, rfl, trivial⟩ (fun e => ?_)
  refine c_seq (fun K7 hK7 => ?_)
  have hf : flT r + 1 ≤ h := hf
  have hk : 1 ≤ (nd G tn).N ∧ (nd G tn).N ≤ 3 := hk
  refine c_reg ?_ -- region 6 compm.go:516
  refine wl (ro_fieldAddr (k := 0) rfl fo_161_0) ?_
  refine wl (ro_loadB rfl sc_3 (by assumption) rfl) ?_
  refine wl_nil (x_then (hK7 _ _ ?_))
  clear hK7 K7
  refine c_block ?_
  refine forget [(0, _), (2, _), (3, _), (4, _), (92, _)] ⟨rfl, rfl, rfl, rfl, rfl, trivial⟩ (fun e => ?_)
  refine c_seq (fun K8 hK8 => ?_)
  refine c_reg ?_ -- region 7 compm.go:517
  refine wl (ro_cmp rfl rfl rfl) ?_
  refine wl (ro_assign rfl) ?_
  refine wl_nil (x_then (hK8 _ _ ?_))
  clear hK8 K8
  refine wc_condF rfl ?_
  refine c_seq (fun K9 hK9 => ?_)
  refine c_reg ?_ -- region 10 compm.go:521
  refine wl (ro_cmp rfl rfl rfl) ?_
  refine wl (ro_assign rfl) ?_
  refine wl_nil (x_then (hK9 _ _ ?_))
  clear hK9 K9
  refine wc_condF rfl ?_
  refine c_seq (fun K10 hK10 => ?_)
  refine c_reg ?_ -- region 12 compm.go:523
  refine wl (ro_cmp rfl rfl rfl) ?_
  refine wl (ro_assign rfl) ?_
  refine wl_nil (x_then (hK10 _ _ ?_))
  clear hK10 K10
  refine wc_condF rfl ?_
  refine c_seq (fun K11 hK11 => ?_)
  refine c_reg ?_ -- region 15 compm.go:526
  refine wl (ro_cmp rfl rfl rfl) ?_
  refine wl (ro_assign rfl) ?_
  refine wl_nil (x_then (hK11 _ _ ?_))
  clear hK11 K11
  refine wc_condF rfl ?_
  refine c_seq (fun K12 hK12 => ?_)
  refine c_reg ?_ -- region 16 compm.go:527
  refine wl (ro_cmp rfl rfl rfl) ?_
  refine wl (ro_assign rfl) ?_
  refine wl_nil (x_then (hK12 _ _ ?_))
  clear hK12 K12
  refine wc_condF rfl ?_
  refine c_seq (fun K13 hK13 => ?_)
  refine c_reg ?_ -- region 18 compm.go:529
  refine wl (ro_cmp rfl rfl rfl) ?_
  refine wl (ro_assign rfl) ?_
  refine wl_nil (x_then (hK13 _ _ ?_))
  clear hK13 K13
  refine wc_condF rfl ?_
  refine c_seq (fun K14 hK14 => ?_)
  refine c_reg ?_ -- region 21 compm.go:532
  refine wl (ro_cmp rfl rfl rfl) ?_
  refine wl (ro_assign rfl) ?_
  refine wl_nil (x_then (hK14 _ _ ?_))
  clear hK14 K14
  refine wc_condF rfl ?_
  refine c_seq (fun K15 hK15 => ?_)
  refine c_reg ?_ -- region 28 compm.go:539
  refine wl (ro_cmp rfl rfl rfl) ?_
  refine wl (ro_assign rfl) ?_
  refine wl_nil (x_then (hK15 _ _ ?_))
  clear hK15 K15
  refine wc_condF rfl ?_
  refine c_seq (fun K16 hK16 => ?_)
  refine c_reg ?_ -- region 31 compm.go:542
  refine wl (ro_cmp rfl rfl rfl) ?_
  refine wl (ro_assign rfl) ?_
  refine wl_nil (x_then (hK16 _ _ ?_))
  clear hK16 K16
  refine wc_condF rfl ?_
  refine c_seq (fun K17 hK17 => ?_)
  refine c_reg ?_ -- region 37 compm.go:550
  refine wl (ro_cmp rfl rfl rfl) ?_
  refine wl (ro_assign rfl) ?_
  refine wl_nil (x_then (hK17 _ _ ?_))
  clear hK17 K17
  refine wc_condF rfl ?_
  refine c_seq (fun K18 hK18 => ?_)
  refine c_reg ?_ -- region 42 compm.go:555
  refine wl (ro_cmp rfl rfl rfl) ?_
  refine wl (ro_assign rfl) ?_
  refine wl_nil (x_then (hK18 _ _ ?_))
  clear hK18 K18
  refine wc_condF rfl ?_
  refine c_seq (fun K19 hK19 => ?_)
  refine c_reg ?_ -- region 47 compm.go:562
  refine wl (ro_cmp rfl rfl rfl) ?_
  refine wl (ro_assign rfl) ?_
  refine wl_nil (x_then (hK19 _ _ ?_))
  clear hK19 K19
  refine wc_condF rfl ?_
  refine c_seq (fun K20 hK20 => ?_)
  refine c_reg ?_ -- region 50 compm.go:565
  refine wl (ro_cmp rfl rfl rfl) ?_
  refine wl (ro_assign rfl) ?_
  refine wl_nil (x_then (hK20 _ _ ?_))
  clear hK20 K20
  refine wc_condF rfl ?_
  refine c_seq (fun K21 hK21 => ?_)
  refine c_reg ?_ -- region 55 compm.go:571
  refine wl (ro_cmp rfl rfl rfl) ?_
  refine wl (ro_assign rfl) ?_
  refine wl_nil (x_then (hK21 _ _ ?_))
  clear hK21 K21
  refine wc_condF rfl ?_
  refine c_seq (fun K22 hK22 => ?_)
  refine c_reg ?_ -- region 58 compm.go:575
  refine wl (ro_cmp rfl rfl rfl) ?_
  refine wl (ro_assign rfl) ?_
  refine wl_nil (x_then (hK22 _ _ ?_))
  clear hK22 K22
  refine wc_condF rfl ?_
  refine c_seq (fun K23 hK23 => ?_)
  refine c_reg ?_ -- region 67 compm.go:588
  refine wl (ro_cmp rfl rfl rfl) ?_
  refine wl (ro_assign rfl) ?_
  refine wl_nil (x_then (hK23 _ _ ?_))
  clear hK23 K23
  refine wc_condF rfl ?_
  refine c_seq (fun K24 hK24 => ?_)
  refine c_reg ?_ -- region 78 compm.go:603
  refine wl (ro_cmp rfl rfl rfl) ?_
  refine wl (ro_assign rfl) ?_
  refine wl_nil (x_then (hK24 _ _ ?_))
  clear hK24 K24
  refine wc_condF rfl ?_
  refine c_seq (fun K25 hK25 => ?_)
  refine c_reg ?_ -- region 83 compm.go:609
  refine wl (ro_cmp rfl rfl rfl) ?_
  refine wl (ro_assign rfl) ?_
  refine wl_nil (x_then (hK25 _ _ ?_))
  clear hK25 K25
  refine wc_condF rfl ?_
  refine c_seq (fun K26 hK26 => ?_)
  refine c_reg ?_ -- region 89 compm.go:617
  refine wl (ro_cmp rfl rfl rfl) ?_
  refine wl (ro_assign rfl) ?_
  refine wl_nil (x_then (hK26 _ _ ?_))
  clear hK26 K26
  refine wc_condF rfl ?_
  refine c_seq (fun K27 hK27 => ?_)
  refine c_reg ?_ -- region 100 compm.go:630
  refine wl (ro_cmp rfl rfl rfl) ?_
  refine wl (ro_assign rfl) ?_
  refine wl_nil (x_then (hK27 _ _ ?_))
  clear hK27 K27
  refine wc_condF rfl ?_
  refine c_seq (fun K28 hK28 => ?_)
  refine c_reg ?_ -- region 103 compm.go:634
  refine wl (ro_cmp rfl rfl rfl) ?_
  refine wl (ro_assign rfl) ?_
  refine wl_nil (x_then (hK28 _ _ ?_))
  clear hK28 K28
  refine wc_condF rfl ?_
  refine c_seq (fun K29 hK29 => ?_)
  refine c_reg ?_ -- region 107 compm.go:638
  refine wl (ro_cmp rfl rfl rfl) ?_
  refine wl (ro_assign rfl) ?_
  refine wl_nil (x_then (hK29 _ _ ?_))
  clear hK29 K29
  refine wc_condF rfl ?_
  refine c_seq (fun K30 hK30 => ?_)
  refine c_reg ?_ -- region 109 compm.go:640
  refine wl (ro_cmp rfl rfl rfl) ?_
  refine wl (ro_assign rfl) ?_
  refine wl_nil (x_then (hK30 _ _ ?_))
  clear hK30 K30
  refine wc_condF rfl ?_
  refine c_seq (fun K31 hK31 => ?_)
  refine c_reg ?_ -- region 115 compm.go:647
  refine wl (ro_cmp rfl rfl rfl) ?_
  refine wl (ro_assign rfl) ?_
  refine wl_nil (x_then (hK31 _ _ ?_))
  clear hK31 K31
  refine wc_condF rfl ?_
  refine c_seq (fun K32 hK32 => ?_)
  refine c_reg ?_ -- region 119 compm.go:651
  refine wl (ro_cmp rfl rfl rfl) ?_
  refine wl (ro_assign rfl) ?_
  refine wl_nil (x_then (hK32 _ _ ?_))
  clear hK32 K32
  refine wc_condT rfl ?_
  refine c_seq (fun K33 hK33 => ?_)
  refine c_reg ?_ -- region 120 compm.go:652
  refine wl (ro_move rfl) ?_
  refine wl_call rfl en_59 (pop59 hR.dr (by omega) (by omega)) ?_
  rintro _ u6 ⟨rfl, ow6, x6, f6, r6⟩
  obtain ⟨hN, khN⟩ := cm_loc x6 f6 hN khN
  obtain ⟨h3, kh3⟩ := cm_loc x6 f6 h3 kh3
  obtain ⟨h4, kh4⟩ := cm_loc x6 f6 h4 kh4
  have hs6 := hF.size
  replace hF := cm_trans hX hF f6
  replace hX := hX.trans hs6 x6
  replace hR := r6
  refine wl_new (ze_119) (fun b39 w7 hbb39 h39 F7 => ?_)
  have hbsb39 := Nat.le_trans hF.size hbb39
  have hnegnb39 : gn < b39 := Nat.lt_of_lt_of_le hN.lt hbb39
  have hneb3b39 : b3 < b39 := Nat.lt_of_lt_of_le h3.lt hbb39
  have hneb4b39 : b4 < b39 := Nat.lt_of_lt_of_le h4.lt hbb39
  have kh39 := hR.df b39 hbb39
  replace hF := hF.thenDrew.thenN F7
  replace hN := F7.blkN hN
  replace h3 := F7.blkN h3
  replace hR := hR.thruN ((Fram.refl none' _).thenDrew.thenN F7)
  replace h4 := F7.blkN h4
  refine wl_puta rfl rfl ((pvc_one _)) sz_119 (rfl) h39 ((by simp)) ((show _ = pvc (sP.top 0) from rfl)) (fun w8 h39 F8 => ?_)
  replace hF := hF.thenDrew.thenO F8 (by first | exact .inr (by omega) | exact .inl rfl | exact .inl (by assumption) | assumption)
  replace hN := F8.blkO hN (by first | omega | exact ow_ne (by assumption) (by assumption) (by omega))
  replace h3 := F8.blkO h3 (by first | omega | exact ow_ne (by assumption) (by assumption) (by omega))
  replace hR := hR.hbput ((Fram.refl (one b39) _).thenDrew.thenO F8 (.inl rfl))
  replace h4 := F8.blkO h4 (by first | omega | exact ow_ne (by assumption) (by assumption) (by omega))
  refine wl_nil (x_then (hK33 _ _ ?_))
  clear hK33 K33
  refine c_reg ?_ -- region 121 compm.go:653
  refine wl (ro_move rfl) ?_
  refine wl (ro_fieldAddr (k := 5) rfl fo_148_5) ?_
  refine wl (ro_loadB rfl sc_117 (by assumption) rfl) ?_
  refine wl (ro_conv rfl sc_117 in_3 (Go.IntWalk.i64_in _ (by dsimp only; omega))) ?_
  refine wl (ro_loadAggB rfl ag_119 (by assumption) rfl rfl) ?_
  refine wl_call rfl en_73 (un73 (op := (nd G tn).N) (a := sP.top 0) hR.dr (hokt 0) hk ((P.drop 1).rt hT (by omega)) (by omega)) ?_
  rintro _ u9 ⟨rfl, ow9, x9, f9, r9⟩
  obtain ⟨hN, khN⟩ := cm_loc x9 f9 hN khN
  obtain ⟨h3, kh3⟩ := cm_loc x9 f9 h3 kh3
  obtain ⟨h4, kh4⟩ := cm_loc x9 f9 h4 kh4
  obtain ⟨h39, kh39⟩ := cm_loc x9 f9 h39 kh39
  have hs9 := hF.size
  replace hF := cm_trans hX hF f9
  replace hX := hX.trans hs9 x9
  replace hR := r9
  refine wl_nil (x_blk ?_)
  refine bp_end Tryz.results33 rfl ?_
  refine ⟨rfl, ?_⟩
  rw [hgoal]
  unfold istep1
  simp only [Nat.reduceEqDiff, reduceIte]
  try rw [hmod]
  try simp only [hnx]
  try rw [hlen7]
  try rw [hlen8]
  try (rw [burn_if (by exact P.b.dn)]; first | rw [if_pos (by exact hfu)] | rw [if_neg (by exact hfu)])
  repeat (first | rw [if_pos (by first | assumption | omega)] | rw [if_neg (by first | assumption | omega)])
  first
  | exact hf0 hX hF hR (by omega)
  | exact hf1 hX hF hR (by omega)
  | exact hf2 hX hF hR (by omega)
  | exact hf9 hX hF hR (by omega)

set_option maxHeartbeats 8000000 in
theorem step33_26 {G : Arena} {root : Nat} {np : Value} {tb rb : Nat} {nv : Value} {w : World} {ow : Nat → Nat} {β τ : List Nat} {m : Nat} {s : IS} (hR : RM G root np tb rb nv w ow β τ m s) (hG : 0 < G.length) (hAG : AOK G) (h0K : (nd G 0).K = 0) (hI : IA G root s) (ht0 : 0 < s.tabs.length) (hm : m ≤ 19900) {tn tx te : Nat} {r : List Tk} (htk : s.th.tasks = ⟨26, tn, tx, te⟩ :: r) :
    Ret Tryz.prog 33 [ptr rb] w (fun r w' => r = .tuple #[] ∧ ∃ bs τ', RP G root np tb rb nv w ow (β ++ bs) (τ ++ τ') (m + 12) (istep G root s) w') := by
  obtain ⟨hok, hnu, htb, T, h, P0, hT0⟩ := hI
  have hTe := P0.t.symm.trans htk
  subst hTe
  have hF : Fram (tg ow cmT) w w := Fram.refl _ _
  have hX : Xt w ow ow := Xt.refl _ _
  have hmr := hR.mem_r
  have hgoal : istep G root s = istep1 G root ⟨26, tn, tx, te⟩ s (s.setT { s.th with tasks := r }) := by unfold istep; rw [htk]
  have het : te ≤ s.envs.length := by have q := hT0; unfold TkI at q; exact q.1
  have hel : te ≤ β.length := by rw [hR.el]; exact het
  have heP : EP β te (epo β te) := EP.mk' hel
  have htl : s.th.tasks.length = r.length + 1 := by rw [htk]; rfl
  have hcl0 := P0.cl
  have hokP : IOK (s.setT { s.th with tasks := r }) := hok.setT hok.th
  have hP0 : 0 < (s.setT { s.th with tasks := r }).tabs.length := ht0
  have htop : ∀ i, (s.setT { s.th with tasks := r }).top i = s.top i := fun i => by unfold IS.top; rw [th_setT hcl0]
  have hclP : (s.setT { s.th with tasks := r }).cur < (s.setT { s.th with tasks := r }).ths.length := by simpa [IS.setT] using hcl0
  have hetP : te ≤ (s.setT { s.th with tasks := r }).envs.length := het
  have P : PW G root (s.setT { s.th with tasks := r }) r h := P0.pop (t := ⟨26, tn, tx, te⟩) (show (26 : Nat) ≠ 3 by decide)
  obtain ⟨-, hn, -, hf, hk, hT⟩ := hT0.inv (t := ⟨26, tn, tx, te⟩) (show (26 : Nat) ≠ 3 by decide)
  have hn : tn < G.length := hn
  have hvl : (s.setT { s.th with tasks := r }).th.vals.length = h := P.v
  have hokt : ∀ i, ok (s.setT { s.th with tasks := r }) ((s.setT { s.th with tasks := r }).top i) := fun i => IOK.getD hokP.th i
  have hnh := hokP.nh
  have hnc := hokP.nc
  have hnn := (hAG tn).1
  obtain ⟨gn, capn, ln, rfl, hN, khN, hcapn, hrow⟩ := hR.nodes hG
  obtain ⟨pn, hpn⟩ := hrow tn hn
  have hf9 : ∀ {u : World} {ow' : Nat → Nat} {m' : Nat} {s' : IS} {bs τ' : List Nat}, Xt w ow ow' → Fram (tg ow cmT) w u → RM G root np tb rb (.slice (some ⟨gn, 0, none⟩) G.length capn) u ow' (β ++ bs) (τ ++ τ') m' s' → m' ≤ m + 12 → ∃ bs τ', RP G root np tb rb (.slice (some ⟨gn, 0, none⟩) G.length capn) w ow (β ++ bs) (τ ++ τ') (m + 12) s' u := fun {_ _ _ _ bs τ'} h1 h2 h3 h4 => ⟨bs, τ', _, h1, h2, h3.le h4⟩
  have hf0 : ∀ {u : World} {ow' : Nat → Nat} {m' : Nat} {s' : IS}, Xt w ow ow' → Fram (tg ow cmT) w u → RM G root np tb rb (.slice (some ⟨gn, 0, none⟩) G.length capn) u ow' β τ m' s' → m' ≤ m + 12 → ∃ bs τ', RP G root np tb rb (.slice (some ⟨gn, 0, none⟩) G.length capn) w ow (β ++ bs) (τ ++ τ') (m + 12) s' u := fun h1 h2 h3 h4 => hf9 (bs := []) (τ' := []) h1 h2 (by rw [List.append_nil, List.append_nil]; exact h3) h4
  have hf1 : ∀ {u : World} {ow' : Nat → Nat} {m' : Nat} {s' : IS} {bs : List Nat}, Xt w ow ow' → Fram (tg ow cmT) w u → RM G root np tb rb (.slice (some ⟨gn, 0, none⟩) G.length capn) u ow' (β ++ bs) τ m' s' → m' ≤ m + 12 → ∃ bs τ', RP G root np tb rb (.slice (some ⟨gn, 0, none⟩) G.length capn) w ow (β ++ bs) (τ ++ τ') (m + 12) s' u := fun {_ _ _ _ bs} h1 h2 h3 h4 => hf9 (bs := bs) (τ' := []) h1 h2 (by rw [List.append_nil]; exact h3) h4
  have hf2 : ∀ {u : World} {ow' : Nat → Nat} {m' : Nat} {s' : IS} {b1 b2 : Nat}, Xt w ow ow' → Fram (tg ow cmT) w u → RM G root np tb rb (.slice (some ⟨gn, 0, none⟩) G.length capn) u ow' (β ++ [b1] ++ [b2]) τ m' s' → m' ≤ m + 12 → ∃ bs τ', RP G root np tb rb (.slice (some ⟨gn, 0, none⟩) G.length capn) w ow (β ++ bs) (τ ++ τ') (m + 12) s' u := fun {_ _ _ _ b1 b2} h1 h2 h3 h4 => hf9 (bs := [b1, b2]) (τ' := []) h1 h2 (by rw [List.append_nil]; rw [List.append_assoc] at h3; exact h3) h4
  refine ret_of Tryz.func33 rfl Tryz.ntmps33 rfl ?_
  refine c_seq (fun K1 hK1 => ?_)
  obtain ⟨cv, a0, a1, a2, a3, a4, gT, capT, lT, bT, tvT, vvT, hXr, hO, hlT, hcapT, hbT, hTh, hgT⟩ := hR.open
  have hB := hTh.k
  have hkb := hTh.t
  have hclT := hR.cl
  unfold rnc at hXr
  have hk70 := hR.t70
  have hbdd := hR.bdm
  refine c_pi [(0, false), (1, false), (2, false), (3, false), (4, false), (5, false), (6, false), (7, false), (8, false), (9, false), (10, false)] (SameH _) mixed (by kernel_rfl) rfl (by kernel_rfl) (po_then (po_bp)) (sameH_now _ _) ?_ -- region 0 compm.go:509
  refine pi_ro rfl (fun w hS => ro_move rfl) ?_
  refine pi_ro rfl (fun w hS => ro_nilCheck rfl) ?_
  refine pi_ro rfl (fun w hS => ro_fieldAddr (k := 5) rfl fo_112_5) ?_
  refine pi_ro rfl (fun w hS => ro_loadB rfl sc_109 (Blk.of_heap (by assumption) hS) rfl) ?_
  refine pi_ro rfl (fun w hS => ro_move rfl) ?_
  refine pi_ro rfl (fun w hS => ro_nilCheck rfl) ?_
  refine pi_ro rfl (fun w hS => ro_fieldAddr (k := 12) rfl fo_112_8) ?_
  refine pi_ro rfl (fun w hS => ro_loadB rfl sc_3 (Blk.of_heap (by assumption) hS) rfl) ?_
  refine pi_ro rfl (fun w hS => ro_indexAddr (et := 123) (k := 1) rfl rfl se_109 rfl (by omega)) ?_
  refine pi_ro rfl (fun w hS => ro_loadB rfl sc_123 (Blk.of_heap hO hS) (hlT)) ?_
  refine pi_ro rfl (fun w hS => ro_assign rfl) ?_
  refine pi_nil (x_then (hK1 _ _ ?_))
  clear hK1 K1
  refine forget [(0, _), (2, _)] ⟨rfl, rfl, trivial⟩ (fun e => ?_)
  refine c_seq (fun K2 hK2 => ?_)
  have hts0 := hTh.ts
  rw [htk] at hts0
  obtain ⟨gt, capt, lt, e1, hV, q1, q2, q3, q4⟩ := hts0.atR (tsc_len β) (j := 0) rfl
  subst e1
  obtain ⟨va, vc, rfl⟩ := hTh.vs.form
  have hrl : ((⟨26, tn, tx, te⟩ : Tk) :: r).length = r.length + 1 := rfl
  refine c_piL 13 [(0, false), (1, false), (2, false), (3, false), (4, false), (5, false), (6, false), (7, false), (8, false), (9, false), (10, false), (11, false), (12, true)] (La bT _ _ (La gt _ _ (fun _ => True))) mixed (by kernel_rfl) rfl (by kernel_rfl) (po_then (po_bp)) (⟨hB, hV, trivial⟩) ?_ -- region 1 compm.go:510
  refine ql_ro rfl (fun w hS => ro_move rfl) ?_
  refine ql_ro rfl (fun w hS => ro_nilCheck rfl) ?_
  refine ql_ro rfl (fun w hS => ro_fieldAddr (k := 3) rfl fo_126_3) ?_
  refine ql_ro rfl (fun w hS => ro_loadB rfl sc_124 (hS.1) rfl) ?_
  refine ql_ro rfl (fun w hS => ro_move rfl) ?_
  refine ql_ro rfl (fun w hS => ro_nilCheck rfl) ?_
  refine ql_ro rfl (fun w hS => ro_fieldAddr (k := 3) rfl fo_126_3) ?_
  refine ql_ro rfl (fun w hS => ro_loadB rfl sc_124 (hS.1) rfl) ?_
  refine ql_ro rfl (fun w hS => ro_lenL rfl se_124) ?_
  refine ql_ro rfl (fun w hS => ro_arith rfl rfl rfl (Go.IntWalk.i64_in _ (by omega))) ?_
  refine ql_ro rfl (fun w hS => ro_indexAddr (et := 161) (k := 4) rfl rfl se_124 ((show ((((⟨26, tn, tx, te⟩ : Tk) :: r).length : Int) - 1) = ((((⟨26, tn, tx, te⟩ : Tk) :: r).length - 1 - 0 : Nat) : Int) by omega)) ((by omega))) ?_
  refine ql_ro rfl (fun w hS => ro_loadAggB rfl ag_161 (hS.2.1) (rfl) (q4)) ?_
  refine ql_new rfl ze_161 (fun w1 F ↦ ⟨F.blkN hB, F.blkN hV, trivial⟩) ?_
  intro b3 w1 hbb3 h3 F1
  have hbsb3 := Nat.le_trans hF.size hbb3
  have hnegnb3 : gn < b3 := Nat.lt_of_lt_of_le hN.lt hbb3
  have hnegTb3 : gT < b3 := Nat.lt_of_lt_of_le hO.lt hbb3
  have hnebTb3 : bT < b3 := Nat.lt_of_lt_of_le hB.lt hbb3
  have hnerbb3 : rb < b3 := Nat.lt_of_lt_of_le hXr.lt hbb3
  have hnegtb3 : gt < b3 := Nat.lt_of_lt_of_le hV.lt hbb3
  have kh3 := hR.df b3 hbb3
  replace hF := hF.thenDrew.thenN F1
  replace hR := hR.thruN ((Fram.refl none' _).thenDrew.thenN F1)
  replace hN := F1.blkN hN
  replace hO := F1.blkN hO
  replace hB := F1.blkN hB
  replace hXr := F1.blkN hXr
  replace hV := F1.blkN hV
  refine ql_puta rfl rfl rfl ((tsc_one _ _)) sz_161 (rfl) h3 ((by simp)) ((show _ = [i64c 26, i64c tn, i64c tx, .pointer (epo β te)] from rfl)) (fun w2 h3 F2 => ?_)
  replace hF := hF.thenDrew.thenO F2 (by first | exact .inr (by omega) | exact .inl rfl | exact .inl (by assumption) | assumption)
  replace hR := hR.hbput ((Fram.refl (one b3) _).thenDrew.thenO F2 (.inl rfl))
  replace hN := F2.blkO hN (by first | omega | exact ow_ne (by assumption) (by assumption) (by omega))
  replace hO := F2.blkO hO (by first | omega | exact ow_ne (by assumption) (by assumption) (by omega))
  replace hB := F2.blkO hB (by first | omega | exact ow_ne (by assumption) (by assumption) (by omega))
  replace hXr := F2.blkO hXr (by first | omega | exact ow_ne (by assumption) (by assumption) (by omega))
  replace hV := F2.blkO hV (by first | omega | exact ow_ne (by assumption) (by assumption) (by omega))
  refine x_then (hK2 _ _ ?_)
  clear hK2 K2
  refine forget [(0, _), (2, _), (3, _)] ⟨rfl, rfl, rfl, trivial⟩ (fun e => ?_)
  refine c_seq (fun K3 hK3 => ?_)
  obtain ⟨b0, hb0⟩ : ∃ b0, b0 = bT := ⟨_, rfl⟩
  subst hb0
  have hb0 := hbT
  clear hTh hkb hlT hbT hcapT hgT hclT hk70 hB hO hXr hV q4 q3 q2 q1 hts0
  obtain ⟨cv, a0, a1, a2, a3, a4, gT, capT, lT, bT, tvT, vvT, hXr, hO, hlT, hcapT, hbT, hTh, hgT⟩ := hR.open
  have hB := hTh.k
  have hkb := hTh.t
  have hclT := hR.cl
  unfold rnc at hXr
  have hk70 := hR.t70
  have hbe : bT = b0 := Option.some.inj (hbT.symm.trans hb0)
  subst hbe
  obtain ⟨ta, tc, rfl⟩ := hTh.ts.form
  obtain ⟨va2, vc2, rfl⟩ := hTh.vs.form
  have hcapt := hTh.ts.capge
  have htr := hTh.ts.dropR (tsc_len β) 1
  rw [htl, htk] at htr
  have hmb := hX.memC (hR.mem_b hR.cl hTh.t)
  refine c_piL 14 [(0, false), (1, false), (2, false), (3, false), (4, false), (5, false), (6, false), (7, false), (8, false), (9, false), (10, false), (11, false), (12, false), (13, false)] (SameH _) mixed (by kernel_rfl) rfl (by kernel_rfl) (po_then (po_bp)) (sameH_now _ _) ?_ -- region 2 compm.go:511
  refine ql_ro rfl (fun w hS => ro_move rfl) ?_
  refine ql_ro rfl (fun w hS => ro_move rfl) ?_
  refine ql_ro rfl (fun w hS => ro_nilCheck rfl) ?_
  refine ql_ro rfl (fun w hS => ro_fieldAddr (k := 3) rfl fo_126_3) ?_
  refine ql_ro rfl (fun w hS => ro_loadB rfl sc_124 (Blk.of_heap (by assumption) hS) rfl) ?_
  refine ql_ro rfl (fun w hS => ro_move rfl) ?_
  refine ql_ro rfl (fun w hS => ro_nilCheck rfl) ?_
  refine ql_ro rfl (fun w hS => ro_fieldAddr (k := 3) rfl fo_126_3) ?_
  refine ql_ro rfl (fun w hS => ro_loadB rfl sc_124 (Blk.of_heap (by assumption) hS) rfl) ?_
  refine ql_ro rfl (fun w hS => ro_lenL rfl se_124) ?_
  refine ql_ro rfl (fun w hS => ro_arith rfl rfl rfl (Go.IntWalk.i64_in _ (by omega))) ?_
  refine ql_ro rfl (fun w hS => ro_sliceH (h := r.length) rfl rfl se_124 (by omega) (by omega)) ?_
  refine ql_ro rfl (fun w hS => ro_nilCheck rfl) ?_
  refine ql_ro rfl (fun w hS => ro_fieldAddr (k := 3) rfl fo_126_3) ?_
  refine ql_put rfl rfl rfl rfl sz_124 hB ((by simp)) (rfl) (fun w3 hB F3 => ?_)
  replace hF := hF.thenDrew.thenO F3 (by first | exact .inr (by omega) | exact .inl rfl | exact .inl (by assumption) | assumption)
  replace hN := F3.blkO hN (by first | omega | exact ow_ne (by assumption) (by assumption) (by omega))
  replace h3 := F3.blkO h3 (by first | omega | exact ow_ne (by assumption) (by assumption) (by omega))
  replace hO := F3.blkO hO (by first | omega | exact ow_ne (by assumption) (by assumption) (by omega))
  replace hXr := F3.blkO hXr (by first | omega | exact ow_ne (by assumption) (by assumption) (by omega))
  have hR2 := hR.thr' (y := { s.th with tasks := r }) hbT hTh.t htr hTh.vs ((Fram.refl (one bT) _).thenDrew.thenO F3 (.inl rfl)) hB (fun z hz => hR.tem z (by rw [htk]; exact List.mem_cons_of_mem _ hz)) (by have := hR.bdm; rw [htl] at this; exact ⟨by show r.length ≤ m; omega, this.2⟩)
  replace hR := hR2
  obtain ⟨b0, hb1⟩ : ∃ b0, b0 = bT := ⟨_, rfl⟩
  subst hb1
  have hb0 : τ[(s.setT { s.th with tasks := r }).cur]? = some b0 := hbT
  clear hTh hkb hlT hbT hcapT hgT hclT hk70 hB hO hXr htr hmb hcapt hbdd
  generalize hsP : s.setT { s.th with tasks := r } = sP at *
  have hbdP := hR.bdm
  refine x_then (hK3 _ _ ?_)
  clear hK3 K3
  refine forget [(0, _), (2, _), (3, _)] ⟨rfl, rfl, rfl, trivial⟩ (fun e => ?_)
  refine c_seq (fun K4 hK4 => ?_)
  refine c_reg ?_ -- region 3 compm.go:512
  refine wl_new (ze_148) (fun b4 w4 hbb4 h4 F4 => ?_)
  have hbsb4 := Nat.le_trans hF.size hbb4
  have hnegnb4 : gn < b4 := Nat.lt_of_lt_of_le hN.lt hbb4
  have hneb3b4 : b3 < b4 := Nat.lt_of_lt_of_le h3.lt hbb4
  have kh4 := hR.df b4 hbb4
  replace hF := hF.thenDrew.thenN F4
  replace hN := F4.blkN hN
  replace h3 := F4.blkN h3
  replace hR := hR.thruN ((Fram.refl none' _).thenDrew.thenN F4)
  refine wl_nil (x_then (hK4 _ _ ?_))
  clear hK4 K4
  refine c_seq (fun K5 hK5 => ?_)
  refine c_seq (fun K6 hK6 => ?_)
  refine c_reg ?_ -- region 4 compm.go:513
  refine wl (ro_fieldAddr (k := 0) rfl fo_161_0) ?_
  refine wl (ro_loadB rfl sc_3 (by assumption) rfl) ?_
  refine wl (ro_cmp rfl rfl rfl) ?_
  refine wl_nil (x_then (hK6 _ _ ?_))
  clear hK6 K6
  refine wc_condT rfl ?_
  obtain ⟨cv, hv_, a0, a1, a2, a3, a4, hXr, hq2, hq3, hq4⟩ := hR.r
  unfold rnc at hXr
  have hk70 := hR.t70
  refine c_piL 8 [(0, false), (1, false), (2, false), (3, false), (4, false), (5, false), (6, false), (7, false)] (SameH _) mixed (by kernel_rfl) rfl (by kernel_rfl) (po_then (po_bp)) (sameH_now _ _) ?_ -- region 5 compm.go:514
  refine ql_ro rfl (fun w hS => ro_move rfl) ?_
  refine ql_ro rfl (fun w hS => ro_nilCheck rfl) ?_
  refine ql_ro rfl (fun w hS => ro_fieldAddr (k := 2) rfl fo_112_2) ?_
  refine ql_ro rfl (fun w hS => ro_loadB rfl sc_77 (Blk.of_heap (by assumption) hS) rfl) ?_
  refine ql_ro rfl (fun w hS => ro_fieldAddr (k := 1) rfl fo_161_1) ?_
  refine ql_ro rfl (fun w hS => ro_loadB rfl sc_3 (Blk.of_heap (by assumption) hS) rfl) ?_
  refine ql_ro rfl (fun w hS => ro_indexAddr (et := 148) (k := 8) rfl rfl se_77 (rfl) (hn)) ?_
  refine ql_ro rfl (fun w hS => ro_loadAggB rfl ag_148 (Blk.of_heap hN hS) (rfl) (hpn)) ?_
  refine ql_puta rfl rfl rfl ((ndc_one _)) sz_148 (rfl) h4 ((by simp)) ((show _ = ndc (nd G tn, pn) from rfl)) (fun w5 h4 F5 => ?_)
  replace hF := hF.thenDrew.thenO F5 (by first | exact .inr (by omega) | exact .inl rfl | exact .inl (by assumption) | assumption)
  replace hN := F5.blkO hN (by first | omega | exact ow_ne (by assumption) (by assumption) (by omega))
  replace h3 := F5.blkO h3 (by first | omega | exact ow_ne (by assumption) (by assumption) (by omega))
  replace hR := hR.hbput ((Fram.refl (one b4) _).thenDrew.thenO F5 (.inl rfl))
  replace hXr := F5.blkO hXr (by first | omega | exact ow_ne (by assumption) (by assumption) (by omega))
  refine x_then (hK5 _ _ ?_)
  clear hK5 K5
  refine forget [(0, _), (2, _), (3, _), (4, _)] ⟨rfl, rfl, rfl, rfl, trivial⟩ (fun e => ?_)
  refine c_seq (fun K7 hK7 => ?_)
  refine c_reg ?_ -- region 6 compm.go:516
  refine wl (ro_fieldAddr (k := 0) rfl fo_161_0) ?_
  refine wl (ro_loadB rfl sc_3 (by assumption) rfl) ?_
  refine wl_nil (x_then (hK7 _ _ ?_))
  clear hK7 K7
  refine c_block ?_
  refine forget [(0, _), (2, _), (3, _), (4, _), (92, _)] ⟨rfl, rfl, rfl, rfl, rfl, trivial⟩ (fun e => ?_)
  refine c_seq (fun K8 hK8 => ?_)
  refine c_reg ?_ -- region 7 compm.go:517
  refine wl (ro_cmp rfl rfl rfl) ?_
  refine wl (ro_assign rfl) ?_
  refine wl_nil (x_then (hK8 _ _ ?_))
  clear hK8 K8
  refine wc_condF rfl ?_
  refine c_seq (fun K9 hK9 => ?_)
  refine c_reg ?_ -- region 10 compm.go:521
  refine wl (ro_cmp rfl rfl rfl) ?_
  refine wl (ro_assign rfl) ?_
  refine wl_nil (x_then (hK9 _ _ ?_))
  clear hK9 K9
  refine wc_condF rfl ?_
  refine c_seq (fun K10 hK10 => ?_)
  refine c_reg ?_ -- region 12 compm.go:523
  refine wl (ro_cmp rfl rfl rfl) ?_
  refine wl (ro_assign rfl) ?_
  refine wl_nil (x_then (hK10 _ _ ?_))
  clear hK10 K10
  refine wc_condF rfl ?_
  refine c_seq (fun K11 hK11 => ?_)
  refine c_reg ?_ -- region 15 compm.go:526
  refine wl (ro_cmp rfl rfl rfl) ?_
  refine wl (ro_assign rfl) ?_
  refine wl_nil (x_then (hK11 _ _ ?_))
  clear hK11 K11
  refine wc_condF rfl ?_
  refine c_seq (fun K12 hK12 => ?_)
  refine c_reg ?_ -- region 16 compm.go:527
  refine wl (ro_cmp rfl rfl rfl) ?_
  refine wl (ro_assign rfl) ?_
  refine wl_nil (x_then (hK12 _ _ ?_))
  clear hK12 K12
  refine wc_condF rfl ?_
  refine c_seq (fun K13 hK13 => ?_)
  refine c_reg ?_ -- region 18 compm.go:529
  refine wl (ro_cmp rfl rfl rfl) ?_
  refine wl (ro_assign rfl) ?_
  refine wl_nil (x_then (hK13 _ _ ?_))
  clear hK13 K13
  refine wc_condF rfl ?_
  refine c_seq (fun K14 hK14 => ?_)
  refine c_reg ?_ -- region 21 compm.go:532
  refine wl (ro_cmp rfl rfl rfl) ?_
  refine wl (ro_assign rfl) ?_
  refine wl_nil (x_then (hK14 _ _ ?_))
  clear hK14 K14
  refine wc_condF rfl ?_
  refine c_seq (fun K15 hK15 => ?_)
  refine c_reg ?_ -- region 28 compm.go:539
  refine wl (ro_cmp rfl rfl rfl) ?_
  refine wl (ro_assign rfl) ?_
  refine wl_nil (x_then (hK15 _ _ ?_))
  clear hK15 K15
  refine wc_condF rfl ?_
  refine c_seq (fun K16 hK16 => ?_)
  refine c_reg ?_ -- region 31 compm.go:542
  refine wl (ro_cmp rfl rfl rfl) ?_
  refine wl (ro_assign rfl) ?_
  refine wl_nil (x_then (hK16 _ _ ?_))
  clear hK16 K16
  refine wc_condF rfl ?_
  refine c_seq (fun K17 hK17 => ?_)
  refine c_reg ?_ -- region 37 compm.go:550
  refine wl (ro_cmp rfl rfl rfl) ?_
  refine wl (ro_assign rfl) ?_
  refine wl_nil (x_then (hK17 _ _ ?_))
  clear hK17 K17
  refine wc_condF rfl ?_
  refine c_seq (fun K18 hK18 => ?_)
  refine c_reg ?_ -- region 42 compm.go:555
  refine wl (ro_cmp rfl rfl rfl) ?_
  refine wl (ro_assign rfl) ?_
  refine wl_nil (x_then (hK18 _ _ ?_))
  clear hK18 K18
  refine wc_condF rfl ?_
  refine c_seq (fun K19 hK19 => ?_)
  refine c_reg ?_ -- region 47 compm.go:562
  refine wl (ro_cmp rfl rfl rfl) ?_
  refine wl (ro_assign rfl) ?_
  refine wl_nil (x_then (hK19 _ _ ?_))
  clear hK19 K19
  refine wc_condF rfl ?_
  refine c_seq (fun K20 hK20 => ?_)
  refine c_reg ?_ -- region 50 compm.go:565
  refine wl (ro_cmp rfl rfl rfl) ?_
  refine wl (ro_assign rfl) ?_
  refine wl_nil (x_then (hK20 _ _ ?_))
  clear hK20 K20
  refine wc_condF rfl ?_
  refine c_seq (fun K21 hK21 => ?_)
  refine c_reg ?_ -- region 55 compm.go:571
  refine wl (ro_cmp rfl rfl rfl) ?_
  refine wl (ro_assign rfl) ?_
  refine wl_nil (x_then (hK21 _ _ ?_))
  clear hK21 K21
  refine wc_condF rfl ?_
  refine c_seq (fun K22 hK22 => ?_)
  refine c_reg ?_ -- region 58 compm.go:575
  refine wl (ro_cmp rfl rfl rfl) ?_
  refine wl (ro_assign rfl) ?_
  refine wl_nil (x_then (hK22 _ _ ?_))
  clear hK22 K22
  refine wc_condF rfl ?_
  refine c_seq (fun K23 hK23 => ?_)
  refine c_reg ?_ -- region 67 compm.go:588
  refine wl (ro_cmp rfl rfl rfl) ?_
  refine wl (ro_assign rfl) ?_
  refine wl_nil (x_then (hK23 _ _ ?_))
  clear hK23 K23
  refine wc_condF rfl ?_
  refine c_seq (fun K24 hK24 => ?_)
  refine c_reg ?_ -- region 78 compm.go:603
  refine wl (ro_cmp rfl rfl rfl) ?_
  refine wl (ro_assign rfl) ?_
  refine wl_nil (x_then (hK24 _ _ ?_))
  clear hK24 K24
  refine wc_condF rfl ?_
  refine c_seq (fun K25 hK25 => ?_)
  refine c_reg ?_ -- region 83 compm.go:609
  refine wl (ro_cmp rfl rfl rfl) ?_
  refine wl (ro_assign rfl) ?_
  refine wl_nil (x_then (hK25 _ _ ?_))
  clear hK25 K25
  refine wc_condF rfl ?_
  refine c_seq (fun K26 hK26 => ?_)
  refine c_reg ?_ -- region 89 compm.go:617
  refine wl (ro_cmp rfl rfl rfl) ?_
  refine wl (ro_assign rfl) ?_
  refine wl_nil (x_then (hK26 _ _ ?_))
  clear hK26 K26
  refine wc_condF rfl ?_
  refine c_seq (fun K27 hK27 => ?_)
  refine c_reg ?_ -- region 100 compm.go:630
  refine wl (ro_cmp rfl rfl rfl) ?_
  refine wl (ro_assign rfl) ?_
  refine wl_nil (x_then (hK27 _ _ ?_))
  clear hK27 K27
  refine wc_condF rfl ?_
  refine c_seq (fun K28 hK28 => ?_)
  refine c_reg ?_ -- region 103 compm.go:634
  refine wl (ro_cmp rfl rfl rfl) ?_
  refine wl (ro_assign rfl) ?_
  refine wl_nil (x_then (hK28 _ _ ?_))
  clear hK28 K28
  refine wc_condF rfl ?_
  refine c_seq (fun K29 hK29 => ?_)
  refine c_reg ?_ -- region 107 compm.go:638
  refine wl (ro_cmp rfl rfl rfl) ?_
  refine wl (ro_assign rfl) ?_
  refine wl_nil (x_then (hK29 _ _ ?_))
  clear hK29 K29
  refine wc_condF rfl ?_
  refine c_seq (fun K30 hK30 => ?_)
  refine c_reg ?_ -- region 109 compm.go:640
  refine wl (ro_cmp rfl rfl rfl) ?_
  refine wl (ro_assign rfl) ?_
  refine wl_nil (x_then (hK30 _ _ ?_))
  clear hK30 K30
  refine wc_condF rfl ?_
  refine c_seq (fun K31 hK31 => ?_)
  refine c_reg ?_ -- region 115 compm.go:647
  refine wl (ro_cmp rfl rfl rfl) ?_
  refine wl (ro_assign rfl) ?_
  refine wl_nil (x_then (hK31 _ _ ?_))
  clear hK31 K31
  refine wc_condF rfl ?_
  refine c_seq (fun K32 hK32 => ?_)
  refine c_reg ?_ -- region 119 compm.go:651
  refine wl (ro_cmp rfl rfl rfl) ?_
  refine wl (ro_assign rfl) ?_
  refine wl_nil (x_then (hK32 _ _ ?_))
  clear hK32 K32
  refine wc_condF rfl ?_
  refine c_seq (fun K33 hK33 => ?_)
  refine c_reg ?_ -- region 122 compm.go:654
  refine wl (ro_cmp rfl rfl rfl) ?_
  refine wl (ro_assign rfl) ?_
  refine wl_nil (x_then (hK33 _ _ ?_))
  clear hK33 K33
  refine wc_condT rfl ?_
  refine c_seq (fun K34 hK34 => ?_)
  have hf : flT r + 1 ≤ h := hf
  obtain ⟨cv, a0, a1, a2, a3, a4, gT, capT, lT, bT, tvT, vvT, hXr, hO, hlT, hcapT, hbT, hTh, hgT⟩ := hR.open
  have hB := hTh.k
  have hkb := hTh.t
  have hclT := hR.cl
  unfold rnc at hXr
  have hk70 := hR.t70
  have hbe : bT = b0 := Option.some.inj (hbT.symm.trans hb0)
  subst hbe
  obtain ⟨gv, capv, lv, e1, hV, hcapv, hkv, hlv, hrv⟩ := hTh.vals (by omega)
  subst e1
  have hV0 := hV
  have hrv : ∀ j, j < sP.th.vals.length → (lv.drop (0 + (sP.th.vals.length - 1 - j) * 3)).take 3 = pvc (sP.top j) := hrv
  have hr0 := hrv 0 (by omega)
  refine c_piL9 12 [(0, false), (1, false), (2, false), (3, false), (4, false), (5, false), (6, false), (7, false), (8, false), (9, false), (10, false), (11, false)] (SameH _) mixed (by kernel_rfl) rfl (by kernel_rfl) (po_then (po_blk (po_bp))) (sameH_now _ _) ?_ -- region 123 compm.go:655
  refine ql_ro rfl (fun w hS => ro_move rfl) ?_
  refine ql_ro rfl (fun w hS => ro_nilCheck rfl) ?_
  refine ql_ro rfl (fun w hS => ro_fieldAddr (k := 4) rfl fo_126_4) ?_
  refine ql_ro rfl (fun w hS => ro_loadB rfl sc_83 (Blk.of_heap (by assumption) hS) rfl) ?_
  refine ql_ro rfl (fun w hS => ro_move rfl) ?_
  refine ql_ro rfl (fun w hS => ro_nilCheck rfl) ?_
  refine ql_ro rfl (fun w hS => ro_fieldAddr (k := 4) rfl fo_126_4) ?_
  refine ql_ro rfl (fun w hS => ro_loadB rfl sc_83 (Blk.of_heap (by assumption) hS) rfl) ?_
  refine ql_ro rfl (fun w hS => ro_lenL rfl se_83) ?_
  refine ql_ro rfl (fun w hS => ro_arith rfl rfl rfl (Go.IntWalk.i64_in _ (by omega))) ?_
  refine ql_ro rfl (fun w hS => ro_indexAddr (et := 119) (k := 3) rfl rfl se_83 ((show ((sP.th.vals.length : Int) - 1) = ((sP.th.vals.length - 1 - 0 : Nat) : Int) by omega)) ((by omega))) ?_
  refine ql_ro rfl (fun w hS => ro_loadAggB rfl ag_119 (Blk.of_heap hV hS) (rfl) (hr0)) ?_
  refine ql_lastC rfl rfl en_62 (Truthy62 (v := sP.top 0) (wf_f (hokt 0).wf (hokt 0).w)) ?_
  rintro _ w9 ⟨rfl, F9⟩
  replace hF := hF.thenDrew.thenN F9
  replace hN := F9.blkN hN
  replace h3 := F9.blkN h3
  replace hR := hR.thruN ((Fram.refl none' _).thenDrew.thenN F9)
  replace h4 := F9.blkN h4
  replace hXr := F9.blkN hXr
  replace hO := F9.blkN hO
  replace hB := F9.blkN hB
  replace hV := F9.blkN hV
  refine x_then (hK34 _ _ ?_)
  clear hK34 K34
  refine wc_cond rfl (fun hc761 => ?_) (fun hc761 => ?_)
  · try simp only [decide_eq_true_eq, decide_eq_false_iff_not, Bool.not_eq_true', Bool.not_eq_false', Bool.not_eq_eq_eq_not, Bool.not_true, Bool.not_false, beq_iff_eq, bne_iff_ne, ne_eq, beq_eq_false_iff_ne, bne_eq_false_iff_eq, gt_iff_lt, ge_iff_le, Int.not_lt, Int.not_le] at hc761
    have hq : trV (sP.top 0) = true := by simpa using hc761
    refine c_seq (fun K35 hK35 => ?_)
    refine c_reg ?_ -- region 124 compm.go:656
    refine wl (ro_move rfl) ?_
    refine wl_call rfl en_59 (pop59 hR.dr (by omega) (by omega)) ?_
    rintro _ u6 ⟨rfl, ow6, x6, f6, r6⟩
    obtain ⟨hN, khN⟩ := cm_loc x6 f6 hN khN
    obtain ⟨h3, kh3⟩ := cm_loc x6 f6 h3 kh3
    obtain ⟨h4, kh4⟩ := cm_loc x6 f6 h4 kh4
    have hs6 := hF.size
    replace hF := cm_trans hX hF f6
    replace hX := hX.trans hs6 x6
    replace hR := r6
    refine wl_nil (x_then (hK35 _ _ ?_))
    clear hK35 K35
    refine c_reg ?_ -- region 125 compm.go:657
    refine wl (ro_move rfl) ?_
    refine wl (ro_fieldAddr (k := 2) rfl fo_148_2) ?_
    refine wl (ro_loadB rfl sc_3 (by assumption) rfl) ?_
    refine wl (ro_fieldAddr (k := 3) rfl fo_161_3) ?_
    refine wl (ro_loadB rfl sc_120 (by assumption) rfl) ?_
    refine wl_call rfl en_55 (do55 (k := 2) (n := (nd G tn).B) (x := 0) hR.dr heP (by omega)) ?_
    rintro _ u7 ⟨rfl, ow7, x7, f7, r7⟩
    obtain ⟨hN, khN⟩ := cm_loc x7 f7 hN khN
    obtain ⟨h3, kh3⟩ := cm_loc x7 f7 h3 kh3
    obtain ⟨h4, kh4⟩ := cm_loc x7 f7 h4 kh4
    have hs7 := hF.size
    replace hF := cm_trans hX hF f7
    replace hX := hX.trans hs7 x7
    replace hR := r7
    refine wl_nil (x_blk ?_)
    refine bp_end Tryz.results33 rfl ?_
    refine ⟨rfl, ?_⟩
    rw [hgoal]
    unfold istep1
    simp only [Nat.reduceEqDiff, reduceIte]
    try rw [hmod]
    try simp only [hnx]
    try rw [hlen7]
    try rw [hlen8]
    try (rw [burn_if (by exact P.b.dn)]; first | rw [if_pos (by exact hfu)] | rw [if_neg (by exact hfu)])
    repeat (first | rw [if_pos (by first | assumption | omega)] | rw [if_neg (by first | assumption | omega)])
    first
    | exact hf0 hX hF hR (by omega)
    | exact hf1 hX hF hR (by omega)
    | exact hf2 hX hF hR (by omega)
    | exact hf9 hX hF hR (by omega)
  · try simp only [decide_eq_true_eq, decide_eq_false_iff_not, Bool.not_eq_true', Bool.not_eq_false', Bool.not_eq_eq_eq_not, Bool.not_true, Bool.not_false, beq_iff_eq, bne_iff_ne, ne_eq, beq_eq_false_iff_ne, bne_eq_false_iff_eq, gt_iff_lt, ge_iff_le, Int.not_lt, Int.not_le] at hc761
    have hq : ¬ trV (sP.top 0) = true := by simpa using hc761
    refine c_skip (x_blk ?_)
    refine bp_end Tryz.results33 rfl ?_
    refine ⟨rfl, ?_⟩
    rw [hgoal]
    unfold istep1
    simp only [Nat.reduceEqDiff, reduceIte]
    try rw [hmod]
    try simp only [hnx]
    try rw [hlen7]
    try rw [hlen8]
    try (rw [burn_if (by exact P.b.dn)]; first | rw [if_pos (by exact hfu)] | rw [if_neg (by exact hfu)])
    repeat (first | rw [if_pos (by first | assumption | omega)] | rw [if_neg (by first | assumption | omega)])
    first
    | exact hf0 hX hF hR (by omega)
    | exact hf1 hX hF hR (by omega)
    | exact hf2 hX hF hR (by omega)
    | exact hf9 hX hF hR (by omega)

set_option maxHeartbeats 8000000 in
theorem step33_27 {G : Arena} {root : Nat} {np : Value} {tb rb : Nat} {nv : Value} {w : World} {ow : Nat → Nat} {β τ : List Nat} {m : Nat} {s : IS} (hR : RM G root np tb rb nv w ow β τ m s) (hG : 0 < G.length) (hAG : AOK G) (h0K : (nd G 0).K = 0) (hI : IA G root s) (ht0 : 0 < s.tabs.length) (hm : m ≤ 19900) {tn tx te : Nat} {r : List Tk} (htk : s.th.tasks = ⟨27, tn, tx, te⟩ :: r) :
    Ret Tryz.prog 33 [ptr rb] w (fun r w' => r = .tuple #[] ∧ ∃ bs τ', RP G root np tb rb nv w ow (β ++ bs) (τ ++ τ') (m + 12) (istep G root s) w') := by
  obtain ⟨hok, hnu, htb, T, h, P0, hT0⟩ := hI
  have hTe := P0.t.symm.trans htk
  subst hTe
  have hF : Fram (tg ow cmT) w w := Fram.refl _ _
  have hX : Xt w ow ow := Xt.refl _ _
  have hmr := hR.mem_r
  have hgoal : istep G root s = istep1 G root ⟨27, tn, tx, te⟩ s (s.setT { s.th with tasks := r }) := by unfold istep; rw [htk]
  have het : te ≤ s.envs.length := by have q := hT0; unfold TkI at q; exact q.1
  have hel : te ≤ β.length := by rw [hR.el]; exact het
  have heP : EP β te (epo β te) := EP.mk' hel
  have htl : s.th.tasks.length = r.length + 1 := by rw [htk]; rfl
  have hcl0 := P0.cl
  have hokP : IOK (s.setT { s.th with tasks := r }) := hok.setT hok.th
  have hP0 : 0 < (s.setT { s.th with tasks := r }).tabs.length := ht0
  have htop : ∀ i, (s.setT { s.th with tasks := r }).top i = s.top i := fun i => by unfold IS.top; rw [th_setT hcl0]
  have hclP : (s.setT { s.th with tasks := r }).cur < (s.setT { s.th with tasks := r }).ths.length := by simpa [IS.setT] using hcl0
  have hetP : te ≤ (s.setT { s.th with tasks := r }).envs.length := het
  have P : PW G root (s.setT { s.th with tasks := r }) r h := P0.pop (t := ⟨27, tn, tx, te⟩) (show (27 : Nat) ≠ 3 by decide)
  obtain ⟨-, hn, -, hf, hk, hT⟩ := hT0.inv (t := ⟨27, tn, tx, te⟩) (show (27 : Nat) ≠ 3 by decide)
  have hn : tn < G.length := hn
  have hvl : (s.setT { s.th with tasks := r }).th.vals.length = h := P.v
  have hokt : ∀ i, ok (s.setT { s.th with tasks := r }) ((s.setT { s.th with tasks := r }).top i) := fun i => IOK.getD hokP.th i
  have hnh := hokP.nh
  have hnc := hokP.nc
  have hnn := (hAG tn).1
  obtain ⟨gn, capn, ln, rfl, hN, khN, hcapn, hrow⟩ := hR.nodes hG
  obtain ⟨pn, hpn⟩ := hrow tn hn
  have hf9 : ∀ {u : World} {ow' : Nat → Nat} {m' : Nat} {s' : IS} {bs τ' : List Nat}, Xt w ow ow' → Fram (tg ow cmT) w u → RM G root np tb rb (.slice (some ⟨gn, 0, none⟩) G.length capn) u ow' (β ++ bs) (τ ++ τ') m' s' → m' ≤ m + 12 → ∃ bs τ', RP G root np tb rb (.slice (some ⟨gn, 0, none⟩) G.length capn) w ow (β ++ bs) (τ ++ τ') (m + 12) s' u := fun {_ _ _ _ bs τ'} h1 h2 h3 h4 => ⟨bs, τ', _, h1, h2, h3.le h4⟩
  have hf0 : ∀ {u : World} {ow' : Nat → Nat} {m' : Nat} {s' : IS}, Xt w ow ow' → Fram (tg ow cmT) w u → RM G root np tb rb (.slice (some ⟨gn, 0, none⟩) G.length capn) u ow' β τ m' s' → m' ≤ m + 12 → ∃ bs τ', RP G root np tb rb (.slice (some ⟨gn, 0, none⟩) G.length capn) w ow (β ++ bs) (τ ++ τ') (m + 12) s' u := fun h1 h2 h3 h4 => hf9 (bs := []) (τ' := []) h1 h2 (by rw [List.append_nil, List.append_nil]; exact h3) h4
  have hf1 : ∀ {u : World} {ow' : Nat → Nat} {m' : Nat} {s' : IS} {bs : List Nat}, Xt w ow ow' → Fram (tg ow cmT) w u → RM G root np tb rb (.slice (some ⟨gn, 0, none⟩) G.length capn) u ow' (β ++ bs) τ m' s' → m' ≤ m + 12 → ∃ bs τ', RP G root np tb rb (.slice (some ⟨gn, 0, none⟩) G.length capn) w ow (β ++ bs) (τ ++ τ') (m + 12) s' u := fun {_ _ _ _ bs} h1 h2 h3 h4 => hf9 (bs := bs) (τ' := []) h1 h2 (by rw [List.append_nil]; exact h3) h4
  have hf2 : ∀ {u : World} {ow' : Nat → Nat} {m' : Nat} {s' : IS} {b1 b2 : Nat}, Xt w ow ow' → Fram (tg ow cmT) w u → RM G root np tb rb (.slice (some ⟨gn, 0, none⟩) G.length capn) u ow' (β ++ [b1] ++ [b2]) τ m' s' → m' ≤ m + 12 → ∃ bs τ', RP G root np tb rb (.slice (some ⟨gn, 0, none⟩) G.length capn) w ow (β ++ bs) (τ ++ τ') (m + 12) s' u := fun {_ _ _ _ b1 b2} h1 h2 h3 h4 => hf9 (bs := [b1, b2]) (τ' := []) h1 h2 (by rw [List.append_nil]; rw [List.append_assoc] at h3; exact h3) h4
  refine ret_of Tryz.func33 rfl Tryz.ntmps33 rfl ?_
  refine c_seq (fun K1 hK1 => ?_)
  obtain ⟨cv, a0, a1, a2, a3, a4, gT, capT, lT, bT, tvT, vvT, hXr, hO, hlT, hcapT, hbT, hTh, hgT⟩ := hR.open
  have hB := hTh.k
  have hkb := hTh.t
  have hclT := hR.cl
  unfold rnc at hXr
  have hk70 := hR.t70
  have hbdd := hR.bdm
  refine c_pi [(0, false), (1, false), (2, false), (3, false), (4, false), (5, false), (6, false), (7, false), (8, false), (9, false), (10, false)] (SameH _) mixed (by kernel_rfl) rfl (by kernel_rfl) (po_then (po_bp)) (sameH_now _ _) ?_ -- region 0 compm.go:509
  refine pi_ro rfl (fun w hS => ro_move rfl) ?_
  refine pi_ro rfl (fun w hS => ro_nilCheck rfl) ?_
  refine pi_ro rfl (fun w hS => ro_fieldAddr (k := 5) rfl fo_112_5) ?_
  refine pi_ro rfl (fun w hS => ro_loadB rfl sc_109 (Blk.of_heap (by assumption) hS) rfl) ?_
  refine pi_ro rfl (fun w hS => ro_move rfl) ?_
  refine pi_ro rfl (fun w hS => ro_nilCheck rfl) ?_
  refine pi_ro rfl (fun w hS => ro_fieldAddr (k := 12) rfl fo_112_8) ?_
  refine pi_ro rfl (fun w hS => ro_loadB rfl sc_3 (Blk.of_heap (by assumption) hS) rfl) ?_
  refine pi_ro rfl (fun w hS => ro_indexAddr (et := 123) (k := 1) rfl rfl se_109 rfl (by omega)) ?_
  refine pi_ro rfl (fun w hS => ro_loadB rfl sc_123 (Blk.of_heap hO hS) (hlT)) ?_
  refine pi_ro rfl (fun w hS => ro_assign rfl) ?_
  refine pi_nil (x_then (hK1 _ _ ?_))
  clear hK1 K1
  refine forget [(0, _), (2, _)] ⟨rfl, rfl, trivial⟩ (fun e => ?_)
  refine c_seq (fun K2 hK2 => ?_)
  have hts0 := hTh.ts
  rw [htk] at hts0
  obtain ⟨gt, capt, lt, e1, hV, q1, q2, q3, q4⟩ := hts0.atR (tsc_len β) (j := 0) rfl
  subst e1
  obtain ⟨va, vc, rfl⟩ := hTh.vs.form
  have hrl : ((⟨27, tn, tx, te⟩ : Tk) :: r).length = r.length + 1 := rfl
  refine c_piL 13 [(0, false), (1, false), (2, false), (3, false), (4, false), (5, false), (6, false), (7, false), (8, false), (9, false), (10, false), (11, false), (12, true)] (La bT _ _ (La gt _ _ (fun _ => True))) mixed (by kernel_rfl) rfl (by kernel_rfl) (po_then (po_bp)) (⟨hB, hV, trivial⟩) ?_ -- region 1 compm.go:510
  refine ql_ro rfl (fun w hS => ro_move rfl) ?_
  refine ql_ro rfl (fun w hS => ro_nilCheck rfl) ?_
  refine ql_ro rfl (fun w hS => ro_fieldAddr (k := 3) rfl fo_126_3) ?_
  refine ql_ro rfl (fun w hS => ro_loadB rfl sc_124 (hS.1) rfl) ?_
  refine ql_ro rfl (fun w hS => ro_move rfl) ?_
  refine ql_ro rfl (fun w hS => ro_nilCheck rfl) ?_
  refine ql_ro rfl (fun w hS => ro_fieldAddr (k := 3) rfl fo_126_3) ?_
  refine ql_ro rfl (fun w hS => ro_loadB rfl sc_124 (hS.1) rfl) ?_
  refine ql_ro rfl (fun w hS => ro_lenL rfl se_124) ?_
  refine ql_ro rfl (fun w hS => ro_arith rfl rfl rfl (Go.IntWalk.i64_in _ (by omega))) ?_
  refine ql_ro rfl (fun w hS => ro_indexAddr (et := 161) (k := 4) rfl rfl se_124 ((show ((((⟨27, tn, tx, te⟩ : Tk) :: r).length : Int) - 1) = ((((⟨27, tn, tx, te⟩ : Tk) :: r).length - 1 - 0 : Nat) : Int) by omega)) ((by omega))) ?_
  refine ql_ro rfl (fun w hS => ro_loadAggB rfl ag_161 (hS.2.1) (rfl) (q4)) ?_
  refine ql_new rfl ze_161 (fun w1 F ↦ ⟨F.blkN hB, F.blkN hV, trivial⟩) ?_
  intro b3 w1 hbb3 h3 F1
  have hbsb3 := Nat.le_trans hF.size hbb3
  have hnegnb3 : gn < b3 := Nat.lt_of_lt_of_le hN.lt hbb3
  have hnegTb3 : gT < b3 := Nat.lt_of_lt_of_le hO.lt hbb3
  have hnebTb3 : bT < b3 := Nat.lt_of_lt_of_le hB.lt hbb3
  have hnerbb3 : rb < b3 := Nat.lt_of_lt_of_le hXr.lt hbb3
  have hnegtb3 : gt < b3 := Nat.lt_of_lt_of_le hV.lt hbb3
  have kh3 := hR.df b3 hbb3
  replace hF := hF.thenDrew.thenN F1
  replace hR := hR.thruN ((Fram.refl none' _).thenDrew.thenN F1)
  replace hN := F1.blkN hN
  replace hO := F1.blkN hO
  replace hB := F1.blkN hB
  replace hXr := F1.blkN hXr
  replace hV := F1.blkN hV
  refine ql_puta rfl rfl rfl ((tsc_one _ _)) sz_161 (rfl) h3 ((by simp)) ((show _ = [i64c 27, i64c tn, i64c tx, .pointer (epo β te)] from rfl)) (fun w2 h3 F2 => ?_)
  replace hF := hF.thenDrew.thenO F2 (by first | exact .inr (by omega) | exact .inl rfl | exact .inl (by assumption) | assumption)
  replace hR := hR.hbput ((Fram.refl (one b3) _).thenDrew.thenO F2 (.inl rfl))
  replace hN := F2.blkO hN (by first | omega | exact ow_ne (by assumption) (by assumption) (by omega))
  replace hO := F2.blkO hO (by first | omega | exact ow_ne (by assumption) (by assumption) (by omega))
  replace hB := F2.blkO hB (by first | omega | exact ow_ne (by assumption) (by assumption) (by omega))
  replace hXr := F2.blkO hXr (by first | omega | exact ow_ne (by assumption) (by assumption) (by omega))
  replace hV := F2.blkO hV (by first | omega | exact ow_ne (by assumption) (by assumption) (by omega))
  refine x_then (hK2 _ _ ?_)
  clear hK2 K2
  refine forget [(0, _), (2, _), (3, _)] ⟨rfl, rfl, rfl, trivial⟩ (fun e => ?_)
  refine c_seq (fun K3 hK3 => ?_)
  obtain ⟨b0, hb0⟩ : ∃ b0, b0 = bT := ⟨_, rfl⟩
  subst hb0
  have hb0 := hbT
  clear hTh hkb hlT hbT hcapT hgT hclT hk70 hB hO hXr hV q4 q3 q2 q1 hts0
  obtain ⟨cv, a0, a1, a2, a3, a4, gT, capT, lT, bT, tvT, vvT, hXr, hO, hlT, hcapT, hbT, hTh, hgT⟩ := hR.open
  have hB := hTh.k
  have hkb := hTh.t
  have hclT := hR.cl
  unfold rnc at hXr
  have hk70 := hR.t70
  have hbe : bT = b0 := Option.some.inj (hbT.symm.trans hb0)
  subst hbe
  obtain ⟨ta, tc, rfl⟩ := hTh.ts.form
  obtain ⟨va2, vc2, rfl⟩ := hTh.vs.form
  have hcapt := hTh.ts.capge
  have htr := hTh.ts.dropR (tsc_len β) 1
  rw [htl, htk] at htr
  have hmb := hX.memC (hR.mem_b hR.cl hTh.t)
  refine c_piL 14 [(0, false), (1, false), (2, false), (3, false), (4, false), (5, false), (6, false), (7, false), (8, false), (9, false), (10, false), (11, false), (12, false), (13, false)] (SameH _) mixed (by kernel_rfl) rfl (by kernel_rfl) (po_then (po_bp)) (sameH_now _ _) ?_ -- region 2 compm.go:511
  refine ql_ro rfl (fun w hS => ro_move rfl) ?_
  refine ql_ro rfl (fun w hS => ro_move rfl) ?_
  refine ql_ro rfl (fun w hS => ro_nilCheck rfl) ?_
  refine ql_ro rfl (fun w hS => ro_fieldAddr (k := 3) rfl fo_126_3) ?_
  refine ql_ro rfl (fun w hS => ro_loadB rfl sc_124 (Blk.of_heap (by assumption) hS) rfl) ?_
  refine ql_ro rfl (fun w hS => ro_move rfl) ?_
  refine ql_ro rfl (fun w hS => ro_nilCheck rfl) ?_
  refine ql_ro rfl (fun w hS => ro_fieldAddr (k := 3) rfl fo_126_3) ?_
  refine ql_ro rfl (fun w hS => ro_loadB rfl sc_124 (Blk.of_heap (by assumption) hS) rfl) ?_
  refine ql_ro rfl (fun w hS => ro_lenL rfl se_124) ?_
  refine ql_ro rfl (fun w hS => ro_arith rfl rfl rfl (Go.IntWalk.i64_in _ (by omega))) ?_
  refine ql_ro rfl (fun w hS => ro_sliceH (h := r.length) rfl rfl se_124 (by omega) (by omega)) ?_
  refine ql_ro rfl (fun w hS => ro_nilCheck rfl) ?_
  refine ql_ro rfl (fun w hS => ro_fieldAddr (k := 3) rfl fo_126_3) ?_
  refine ql_put rfl rfl rfl rfl sz_124 hB ((by simp)) (rfl) (fun w3 hB F3 => ?_)
  replace hF := hF.thenDrew.thenO F3 (by first | exact .inr (by omega) | exact .inl rfl | exact .inl (by assumption) | assumption)
  replace hN := F3.blkO hN (by first | omega | exact ow_ne (by assumption) (by assumption) (by omega))
  replace h3 := F3.blkO h3 (by first | omega | exact ow_ne (by assumption) (by assumption) (by omega))
  replace hO := F3.blkO hO (by first | omega | exact ow_ne (by assumption) (by assumption) (by omega))
  replace hXr := F3.blkO hXr (by first | omega | exact ow_ne (by assumption) (by assumption) (by omega))
  have hR2 := hR.thr' (y := { s.th with tasks := r }) hbT hTh.t htr hTh.vs ((Fram.refl (one bT) _).thenDrew.thenO F3 (.inl rfl)) hB (fun z hz => hR.tem z (by rw [htk]; exact List.mem_cons_of_mem _ hz)) (by have := hR.bdm; rw [htl] at this; exact ⟨by show r.length ≤ m; omega, this.2⟩)
  replace hR := hR2
  obtain ⟨b0, hb1⟩ : ∃ b0, b0 = bT := ⟨_, rfl⟩
  subst hb1
  have hb0 : τ[(s.setT { s.th with tasks := r }).cur]? = some b0 := hbT
  clear hTh hkb hlT hbT hcapT hgT hclT hk70 hB hO hXr htr hmb hcapt hbdd
  generalize hsP : s.setT { s.th with tasks := r } = sP at *
  have hbdP := hR.bdm
  refine x_then (hK3 _ _ ?_)
  clear hK3 K3
  refine forget [(0, _), (2, _), (3, _)] ⟨rfl, rfl, rfl, trivial⟩ (fun e => ?_)
  refine c_seq (fun K4 hK4 => ?_)
  refine c_reg ?_ -- region 3 compm.go:512
  refine wl_new (ze_148) (fun b4 w4 hbb4 h4 F4 => ?_)
  have hbsb4 := Nat.le_trans hF.size hbb4
  have hnegnb4 : gn < b4 := Nat.lt_of_lt_of_le hN.lt hbb4
  have hneb3b4 : b3 < b4 := Nat.lt_of_lt_of_le h3.lt hbb4
  have kh4 := hR.df b4 hbb4
  replace hF := hF.thenDrew.thenN F4
  replace hN := F4.blkN hN
  replace h3 := F4.blkN h3
  replace hR := hR.thruN ((Fram.refl none' _).thenDrew.thenN F4)
  refine wl_nil (x_then (hK4 _ _ ?_))
  clear hK4 K4
  refine c_seq (fun K5 hK5 => ?_)
  refine c_seq (fun K6 hK6 => ?_)
  refine c_reg ?_ -- region 4 compm.go:513
  refine wl (ro_fieldAddr (k := 0) rfl fo_161_0) ?_
  refine wl (ro_loadB rfl sc_3 (by assumption) rfl) ?_
  refine wl (ro_cmp rfl rfl rfl) ?_
  refine wl_nil (x_then (hK6 _ _ ?_))
  clear hK6 K6
  refine wc_condT rfl ?_
  obtain ⟨cv, hv_, a0, a1, a2, a3, a4, hXr, hq2, hq3, hq4⟩ := hR.r
  unfold rnc at hXr
  have hk70 := hR.t70
  refine c_piL 8 [(0, false), (1, false), (2, false), (3, false), (4, false), (5, false), (6, false), (7, false)] (SameH _) mixed (by kernel_rfl) rfl (by kernel_rfl) (po_then (po_bp)) (sameH_now _ _) ?_ -- region 5 compm.go:514
  refine ql_ro rfl (fun w hS => ro_move rfl) ?_
  refine ql_ro rfl (fun w hS => ro_nilCheck rfl) ?_
  refine ql_ro rfl (fun w hS => ro_fieldAddr (k := 2) rfl fo_112_2) ?_
  refine ql_ro rfl (fun w hS => ro_loadB rfl sc_77 (Blk.of_heap (by assumption) hS) rfl) ?_
  refine ql_ro rfl (fun w hS => ro_fieldAddr (k := 1) rfl fo_161_1) ?_
  refine ql_ro rfl (fun w hS => ro_loadB rfl sc_3 (Blk.of_heap (by assumption) hS) rfl) ?_
  refine ql_ro rfl (fun w hS => ro_indexAddr (et := 148) (k := 8) rfl rfl se_77 (rfl) (hn)) ?_
  refine ql_ro rfl (fun w hS => ro_loadAggB rfl ag_148 (Blk.of_heap hN hS) (rfl) (hpn)) ?_
  refine ql_puta rfl rfl rfl ((ndc_one _)) sz_148 (rfl) h4 ((by simp)) ((show _ = ndc (nd G tn, pn) from rfl)) (fun w5 h4 F5 => ?_)
  replace hF := hF.thenDrew.thenO F5 (by first | exact .inr (by omega) | exact .inl rfl | exact .inl (by assumption) | assumption)
  replace hN := F5.blkO hN (by first | omega | exact ow_ne (by assumption) (by assumption) (by omega))
  replace h3 := F5.blkO h3 (by first | omega | exact ow_ne (by assumption) (by assumption) (by omega))
  replace hR := hR.hbput ((Fram.refl (one b4) _).thenDrew.thenO F5 (.inl rfl))
  replace hXr := F5.blkO hXr (by first | omega | exact ow_ne (by assumption) (by assumption) (by omega))
  refine x_then (hK5 _ _ ?_)
  clear hK5 K5
  refine forget [(0, _), (2, _), (3, _), (4, _)] ⟨rfl, rfl, rfl, rfl, trivial⟩ (fun e => ?_)
  refine c_seq (fun K7 hK7 => ?_)
  refine c_reg ?_ -- region 6 compm.go:516
  refine wl (ro_fieldAddr (k := 0) rfl fo_161_0) ?_
  refine wl (ro_loadB rfl sc_3 (by assumption) rfl) ?_
  refine wl_nil (x_then (hK7 _ _ ?_))
  clear hK7 K7
  refine c_block ?_
  refine forget [(0, _), (2, _), (3, _), (4, _), (92, _)] ⟨rfl, rfl, rfl, rfl, rfl, trivial⟩ (fun e => ?_)
  refine c_seq (fun K8 hK8 => ?_)
  refine c_reg ?_ -- region 7 compm.go:517
  refine wl (ro_cmp rfl rfl rfl) ?_
  refine wl (ro_assign rfl) ?_
  refine wl_nil (x_then (hK8 _ _ ?_))
  clear hK8 K8
  refine wc_condF rfl ?_
  refine c_seq (fun K9 hK9 => ?_)
  refine c_reg ?_ -- region 10 compm.go:521
  refine wl (ro_cmp rfl rfl rfl) ?_
  refine wl (ro_assign rfl) ?_
  refine wl_nil (x_then (hK9 _ _ ?_))
  clear hK9 K9
  refine wc_condF rfl ?_
  refine c_seq (fun K10 hK10 => ?_)
  refine c_reg ?_ -- region 12 compm.go:523
  refine wl (ro_cmp rfl rfl rfl) ?_
  refine wl (ro_assign rfl) ?_
  refine wl_nil (x_then (hK10 _ _ ?_))
  clear hK10 K10
  refine wc_condF rfl ?_
  refine c_seq (fun K11 hK11 => ?_)
  refine c_reg ?_ -- region 15 compm.go:526
  refine wl (ro_cmp rfl rfl rfl) ?_
  refine wl (ro_assign rfl) ?_
  refine wl_nil (x_then (hK11 _ _ ?_))
  clear hK11 K11
  refine wc_condF rfl ?_
  refine c_seq (fun K12 hK12 => ?_)
  refine c_reg ?_ -- region 16 compm.go:527
  refine wl (ro_cmp rfl rfl rfl) ?_
  refine wl (ro_assign rfl) ?_
  refine wl_nil (x_then (hK12 _ _ ?_))
  clear hK12 K12
  refine wc_condF rfl ?_
  refine c_seq (fun K13 hK13 => ?_)
  refine c_reg ?_ -- region 18 compm.go:529
  refine wl (ro_cmp rfl rfl rfl) ?_
  refine wl (ro_assign rfl) ?_
  refine wl_nil (x_then (hK13 _ _ ?_))
  clear hK13 K13
  refine wc_condF rfl ?_
  refine c_seq (fun K14 hK14 => ?_)
  refine c_reg ?_ -- region 21 compm.go:532
  refine wl (ro_cmp rfl rfl rfl) ?_
  refine wl (ro_assign rfl) ?_
  refine wl_nil (x_then (hK14 _ _ ?_))
  clear hK14 K14
  refine wc_condF rfl ?_
  refine c_seq (fun K15 hK15 => ?_)
  refine c_reg ?_ -- region 28 compm.go:539
  refine wl (ro_cmp rfl rfl rfl) ?_
  refine wl (ro_assign rfl) ?_
  refine wl_nil (x_then (hK15 _ _ ?_))
  clear hK15 K15
  refine wc_condF rfl ?_
  refine c_seq (fun K16 hK16 => ?_)
  refine c_reg ?_ -- region 31 compm.go:542
  refine wl (ro_cmp rfl rfl rfl) ?_
  refine wl (ro_assign rfl) ?_
  refine wl_nil (x_then (hK16 _ _ ?_))
  clear hK16 K16
  refine wc_condF rfl ?_
  refine c_seq (fun K17 hK17 => ?_)
  refine c_reg ?_ -- region 37 compm.go:550
  refine wl (ro_cmp rfl rfl rfl) ?_
  refine wl (ro_assign rfl) ?_
  refine wl_nil (x_then (hK17 _ _ ?_))
  clear hK17 K17
  refine wc_condF rfl ?_
  refine c_seq (fun K18 hK18 => ?_)
  refine c_reg ?_ -- region 42 compm.go:555
  refine wl (ro_cmp rfl rfl rfl) ?_
  refine wl (ro_assign rfl) ?_
  refine wl_nil (x_then (hK18 _ _ ?_))
  clear hK18 K18
  refine wc_condF rfl ?_
  refine c_seq (fun K19 hK19 => ?_)
  refine c_reg ?_ -- region 47 compm.go:562
  refine wl (ro_cmp rfl rfl rfl) ?_
  refine wl (ro_assign rfl) ?_
  refine wl_nil (x_then (hK19 _ _ ?_))
  clear hK19 K19
  refine wc_condF rfl ?_
  refine c_seq (fun K20 hK20 => ?_)
  refine c_reg ?_ -- region 50 compm.go:565
  refine wl (ro_cmp rfl rfl rfl) ?_
  refine wl (ro_assign rfl) ?_
  refine wl_nil (x_then (hK20 _ _ ?_))
  clear hK20 K20
  refine wc_condF rfl ?_
  refine c_seq (fun K21 hK21 => ?_)
  refine c_reg ?_ -- region 55 compm.go:571
  refine wl (ro_cmp rfl rfl rfl) ?_
  refine wl (ro_assign rfl) ?_
  refine wl_nil (x_then (hK21 _ _ ?_))
  clear hK21 K21
  refine wc_condF rfl ?_
  refine c_seq (fun K22 hK22 => ?_)
  refine c_reg ?_ -- region 58 compm.go:575
  refine wl (ro_cmp rfl rfl rfl) ?_
  refine wl (ro_assign rfl) ?_
  refine wl_nil (x_then (hK22 _ _ ?_))
  clear hK22 K22
  refine wc_condF rfl ?_
  refine c_seq (fun K23 hK23 => ?_)
  refine c_reg ?_ -- region 67 compm.go:588
  refine wl (ro_cmp rfl rfl rfl) ?_
  refine wl (ro_assign rfl) ?_
  refine wl_nil (x_then (hK23 _ _ ?_))
  clear hK23 K23
  refine wc_condF rfl ?_
  refine c_seq (fun K24 hK24 => ?_)
  refine c_reg ?_ -- region 78 compm.go:603
  refine wl (ro_cmp rfl rfl rfl) ?_
  refine wl (ro_assign rfl) ?_
  refine wl_nil (x_then (hK24 _ _ ?_))
  clear hK24 K24
  refine wc_condF rfl ?_
  refine c_seq (fun K25 hK25 => ?_)
  refine c_reg ?_ -- region 83 compm.go:609
  refine wl (ro_cmp rfl rfl rfl) ?_
  refine wl (ro_assign rfl) ?_
  refine wl_nil (x_then (hK25 _ _ ?_))
  clear hK25 K25
  refine wc_condF rfl ?_
  refine c_seq (fun K26 hK26 => ?_)
  refine c_reg ?_ -- region 89 compm.go:617
  refine wl (ro_cmp rfl rfl rfl) ?_
  refine wl (ro_assign rfl) ?_
  refine wl_nil (x_then (hK26 _ _ ?_))
  clear hK26 K26
  refine wc_condF rfl ?_
  refine c_seq (fun K27 hK27 => ?_)
  refine c_reg ?_ -- region 100 compm.go:630
  refine wl (ro_cmp rfl rfl rfl) ?_
  refine wl (ro_assign rfl) ?_
  refine wl_nil (x_then (hK27 _ _ ?_))
  clear hK27 K27
  refine wc_condF rfl ?_
  refine c_seq (fun K28 hK28 => ?_)
  refine c_reg ?_ -- region 103 compm.go:634
  refine wl (ro_cmp rfl rfl rfl) ?_
  refine wl (ro_assign rfl) ?_
  refine wl_nil (x_then (hK28 _ _ ?_))
  clear hK28 K28
  refine wc_condF rfl ?_
  refine c_seq (fun K29 hK29 => ?_)
  refine c_reg ?_ -- region 107 compm.go:638
  refine wl (ro_cmp rfl rfl rfl) ?_
  refine wl (ro_assign rfl) ?_
  refine wl_nil (x_then (hK29 _ _ ?_))
  clear hK29 K29
  refine wc_condF rfl ?_
  refine c_seq (fun K30 hK30 => ?_)
  refine c_reg ?_ -- region 109 compm.go:640
  refine wl (ro_cmp rfl rfl rfl) ?_
  refine wl (ro_assign rfl) ?_
  refine wl_nil (x_then (hK30 _ _ ?_))
  clear hK30 K30
  refine wc_condF rfl ?_
  refine c_seq (fun K31 hK31 => ?_)
  refine c_reg ?_ -- region 115 compm.go:647
  refine wl (ro_cmp rfl rfl rfl) ?_
  refine wl (ro_assign rfl) ?_
  refine wl_nil (x_then (hK31 _ _ ?_))
  clear hK31 K31
  refine wc_condF rfl ?_
  refine c_seq (fun K32 hK32 => ?_)
  refine c_reg ?_ -- region 119 compm.go:651
  refine wl (ro_cmp rfl rfl rfl) ?_
  refine wl (ro_assign rfl) ?_
  refine wl_nil (x_then (hK32 _ _ ?_))
  clear hK32 K32
  refine wc_condF rfl ?_
  refine c_seq (fun K33 hK33 => ?_)
  refine c_reg ?_ -- region 122 compm.go:654
  refine wl (ro_cmp rfl rfl rfl) ?_
  refine wl (ro_assign rfl) ?_
  refine wl_nil (x_then (hK33 _ _ ?_))
  clear hK33 K33
  refine wc_condF rfl ?_
  refine c_seq (fun K34 hK34 => ?_)
  refine c_reg ?_ -- region 126 compm.go:659
  refine wl (ro_cmp rfl rfl rfl) ?_
  refine wl (ro_assign rfl) ?_
  refine wl_nil (x_then (hK34 _ _ ?_))
  clear hK34 K34
  refine wc_condT rfl ?_
  refine c_seq (fun K35 hK35 => ?_)
  have hf : flT r + 1 ≤ h := hf
  obtain ⟨cv, a0, a1, a2, a3, a4, gT, capT, lT, bT, tvT, vvT, hXr, hO, hlT, hcapT, hbT, hTh, hgT⟩ := hR.open
  have hB := hTh.k
  have hkb := hTh.t
  have hclT := hR.cl
  unfold rnc at hXr
  have hk70 := hR.t70
  have hbe : bT = b0 := Option.some.inj (hbT.symm.trans hb0)
  subst hbe
  obtain ⟨gv, capv, lv, e1, hV, hcapv, hkv, hlv, hrv⟩ := hTh.vals (by omega)
  subst e1
  have hV0 := hV
  have hrv : ∀ j, j < sP.th.vals.length → (lv.drop (0 + (sP.th.vals.length - 1 - j) * 3)).take 3 = pvc (sP.top j) := hrv
  have hr0 := hrv 0 (by omega)
  refine c_pi [(0, false), (1, false), (2, false), (3, false), (4, false), (5, false), (6, false), (7, false), (8, false), (9, false), (10, false), (11, false), (12, true), (13, false)] (La bT _ _ (La gv _ _ (fun _ => True))) mixed (by kernel_rfl) rfl (by kernel_rfl) (po_then (po_blk (po_bp))) (⟨hB, hV, trivial⟩) ?_ -- region 127 compm.go:660
  refine pi_ro rfl (fun w hS => ro_move rfl) ?_
  refine pi_ro rfl (fun w hS => ro_nilCheck rfl) ?_
  refine pi_ro rfl (fun w hS => ro_fieldAddr (k := 4) rfl fo_126_4) ?_
  refine pi_ro rfl (fun w hS => ro_loadB rfl sc_83 (hS.1) rfl) ?_
  refine pi_ro rfl (fun w hS => ro_move rfl) ?_
  refine pi_ro rfl (fun w hS => ro_nilCheck rfl) ?_
  refine pi_ro rfl (fun w hS => ro_fieldAddr (k := 4) rfl fo_126_4) ?_
  refine pi_ro rfl (fun w hS => ro_loadB rfl sc_83 (hS.1) rfl) ?_
  refine pi_ro rfl (fun w hS => ro_lenL rfl se_83) ?_
  refine pi_ro rfl (fun w hS => ro_arith rfl rfl rfl (Go.IntWalk.i64_in _ (by omega))) ?_
  refine pi_ro rfl (fun w hS => ro_indexAddr (et := 119) (k := 3) rfl rfl se_83 ((show ((sP.th.vals.length : Int) - 1) = ((sP.th.vals.length - 1 - 0 : Nat) : Int) by omega)) ((by omega))) ?_
  refine pi_ro rfl (fun w hS => ro_loadAggB rfl ag_119 (hS.2.1) (rfl) (hr0)) ?_
  refine pi_call rfl rfl en_62 (Truthy62 (v := sP.top 0) (wf_f (hokt 0).wf (hokt 0).w)) ?_
  rintro _ w9 ⟨rfl, F9⟩
  refine ⟨⟨F9.blkN hB, F9.blkN hV, trivial⟩, ?_⟩
  replace hF := hF.thenDrew.thenN F9
  replace hN := F9.blkN hN
  replace h3 := F9.blkN h3
  replace hR := hR.thruN ((Fram.refl none' _).thenDrew.thenN F9)
  replace h4 := F9.blkN h4
  replace hXr := F9.blkN hXr
  replace hO := F9.blkN hO
  replace hB := F9.blkN hB
  replace hV := F9.blkN hV
  refine pi_ro rfl (fun w hS => ro_not rfl) ?_
  refine pi_nil (x_then (hK35 _ _ ?_))
  clear hK35 K35
  refine wc_cond rfl (fun hc785 => ?_) (fun hc785 => ?_)
  · try simp only [decide_eq_true_eq, decide_eq_false_iff_not, Bool.not_eq_true', Bool.not_eq_false', Bool.not_eq_eq_eq_not, Bool.not_true, Bool.not_false, beq_iff_eq, bne_iff_ne, ne_eq, beq_eq_false_iff_ne, bne_eq_false_iff_eq, gt_iff_lt, ge_iff_le, Int.not_lt, Int.not_le] at hc785
    have hq : ¬ trV (sP.top 0) = true := by simpa using hc785
    refine c_seq (fun K36 hK36 => ?_)
    refine c_reg ?_ -- region 128 compm.go:661
    refine wl (ro_move rfl) ?_
    refine wl_call rfl en_59 (pop59 hR.dr (by omega) (by omega)) ?_
    rintro _ u6 ⟨rfl, ow6, x6, f6, r6⟩
    obtain ⟨hN, khN⟩ := cm_loc x6 f6 hN khN
    obtain ⟨h3, kh3⟩ := cm_loc x6 f6 h3 kh3
    obtain ⟨h4, kh4⟩ := cm_loc x6 f6 h4 kh4
    have hs6 := hF.size
    replace hF := cm_trans hX hF f6
    replace hX := hX.trans hs6 x6
    replace hR := r6
    refine wl_nil (x_then (hK36 _ _ ?_))
    clear hK36 K36
    refine c_reg ?_ -- region 129 compm.go:662
    refine wl (ro_move rfl) ?_
    refine wl (ro_fieldAddr (k := 2) rfl fo_148_2) ?_
    refine wl (ro_loadB rfl sc_3 (by assumption) rfl) ?_
    refine wl (ro_fieldAddr (k := 3) rfl fo_161_3) ?_
    refine wl (ro_loadB rfl sc_120 (by assumption) rfl) ?_
    refine wl_call rfl en_55 (do55 (k := 2) (n := (nd G tn).B) (x := 0) hR.dr heP (by omega)) ?_
    rintro _ u7 ⟨rfl, ow7, x7, f7, r7⟩
    obtain ⟨hN, khN⟩ := cm_loc x7 f7 hN khN
    obtain ⟨h3, kh3⟩ := cm_loc x7 f7 h3 kh3
    obtain ⟨h4, kh4⟩ := cm_loc x7 f7 h4 kh4
    have hs7 := hF.size
    replace hF := cm_trans hX hF f7
    replace hX := hX.trans hs7 x7
    replace hR := r7
    refine wl_nil (x_blk ?_)
    refine bp_end Tryz.results33 rfl ?_
    refine ⟨rfl, ?_⟩
    rw [hgoal]
    unfold istep1
    simp only [Nat.reduceEqDiff, reduceIte]
    try rw [hmod]
    try simp only [hnx]
    try rw [hlen7]
    try rw [hlen8]
    try (rw [burn_if (by exact P.b.dn)]; first | rw [if_pos (by exact hfu)] | rw [if_neg (by exact hfu)])
    repeat (first | rw [if_pos (by first | assumption | omega)] | rw [if_neg (by first | assumption | omega)])
    first
    | exact hf0 hX hF hR (by omega)
    | exact hf1 hX hF hR (by omega)
    | exact hf2 hX hF hR (by omega)
    | exact hf9 hX hF hR (by omega)
  · try simp only [decide_eq_true_eq, decide_eq_false_iff_not, Bool.not_eq_true', Bool.not_eq_false', Bool.not_eq_eq_eq_not, Bool.not_true, Bool.not_false, beq_iff_eq, bne_iff_ne, ne_eq, beq_eq_false_iff_ne, bne_eq_false_iff_eq, gt_iff_lt, ge_iff_le, Int.not_lt, Int.not_le] at hc785
    have hq : trV (sP.top 0) = true := by simpa using hc785
    refine c_skip (x_blk ?_)
    refine bp_end Tryz.results33 rfl ?_
    refine ⟨rfl, ?_⟩
    rw [hgoal]
    unfold istep1
    simp only [Nat.reduceEqDiff, reduceIte]
    try rw [hmod]
    try simp only [hnx]
    try rw [hlen7]
    try rw [hlen8]
    try (rw [burn_if (by exact P.b.dn)]; first | rw [if_pos (by exact hfu)] | rw [if_neg (by exact hfu)])
    repeat (first | rw [if_pos (by first | assumption | omega)] | rw [if_neg (by first | assumption | omega)])
    first
    | exact hf0 hX hF hR (by omega)
    | exact hf1 hX hF hR (by omega)
    | exact hf2 hX hF hR (by omega)
    | exact hf9 hX hF hR (by omega)

set_option maxHeartbeats 8000000 in
theorem step33_28 {G : Arena} {root : Nat} {np : Value} {tb rb : Nat} {nv : Value} {w : World} {ow : Nat → Nat} {β τ : List Nat} {m : Nat} {s : IS} (hR : RM G root np tb rb nv w ow β τ m s) (hG : 0 < G.length) (hAG : AOK G) (h0K : (nd G 0).K = 0) (hI : IA G root s) (ht0 : 0 < s.tabs.length) (hm : m ≤ 19900) {tn tx te : Nat} {r : List Tk} (htk : s.th.tasks = ⟨28, tn, tx, te⟩ :: r) :
    Ret Tryz.prog 33 [ptr rb] w (fun r w' => r = .tuple #[] ∧ ∃ bs τ', RP G root np tb rb nv w ow (β ++ bs) (τ ++ τ') (m + 12) (istep G root s) w') := by
  obtain ⟨hok, hnu, htb, T, h, P0, hT0⟩ := hI
  have hTe := P0.t.symm.trans htk
  subst hTe
  have hF : Fram (tg ow cmT) w w := Fram.refl _ _
  have hX : Xt w ow ow := Xt.refl _ _
  have hmr := hR.mem_r
  have hgoal : istep G root s = istep1 G root ⟨28, tn, tx, te⟩ s (s.setT { s.th with tasks := r }) := by unfold istep; rw [htk]
  have het : te ≤ s.envs.length := by have q := hT0; unfold TkI at q; exact q.1
  have hel : te ≤ β.length := by rw [hR.el]; exact het
  have heP : EP β te (epo β te) := EP.mk' hel
  have htl : s.th.tasks.length = r.length + 1 := by rw [htk]; rfl
  have hcl0 := P0.cl
  have hokP : IOK (s.setT { s.th with tasks := r }) := hok.setT hok.th
  have hP0 : 0 < (s.setT { s.th with tasks := r }).tabs.length := ht0
  have htop : ∀ i, (s.setT { s.th with tasks := r }).top i = s.top i := fun i => by unfold IS.top; rw [th_setT hcl0]
  have hclP : (s.setT { s.th with tasks := r }).cur < (s.setT { s.th with tasks := r }).ths.length := by simpa [IS.setT] using hcl0
  have hetP : te ≤ (s.setT { s.th with tasks := r }).envs.length := het
  have P : PW G root (s.setT { s.th with tasks := r }) r h := P0.pop (t := ⟨28, tn, tx, te⟩) (show (28 : Nat) ≠ 3 by decide)
  obtain ⟨-, hn, -, hf, hk, hT⟩ := hT0.inv (t := ⟨28, tn, tx, te⟩) (show (28 : Nat) ≠ 3 by decide)
  have hn : tn < G.length := hn
  have hvl : (s.setT { s.th with tasks := r }).th.vals.length = h := P.v
  have hokt : ∀ i, ok (s.setT { s.th with tasks := r }) ((s.setT { s.th with tasks := r }).top i) := fun i => IOK.getD hokP.th i
  have hnh := hokP.nh
  have hnc := hokP.nc
  have hnn := (hAG tn).1
  obtain ⟨gn, capn, ln, rfl, hN, khN, hcapn, hrow⟩ := hR.nodes hG
  obtain ⟨pn, hpn⟩ := hrow tn hn
  have hf9 : ∀ {u : World} {ow' : Nat → Nat} {m' : Nat} {s' : IS} {bs τ' : List Nat}, Xt w ow ow' → Fram (tg ow cmT) w u → RM G root np tb rb (.slice (some ⟨gn, 0, none⟩) G.length capn) u ow' (β ++ bs) (τ ++ τ') m' s' → m' ≤ m + 12 → ∃ bs τ', RP G root np tb rb (.slice (some ⟨gn, 0, none⟩) G.length capn) w ow (β ++ bs) (τ ++ τ') (m + 12) s' u := fun {_ _ _ _ bs τ'} h1 h2 h3 h4 => ⟨bs, τ', _, h1, h2, h3.le h4⟩
  have hf0 : ∀ {u : World} {ow' : Nat → Nat} {m' : Nat} {s' : IS}, Xt w ow ow' → Fram (tg ow cmT) w u → RM G root np tb rb (.slice (some ⟨gn, 0, none⟩) G.length capn) u ow' β τ m' s' → m' ≤ m + 12 → ∃ bs τ', RP G root np tb rb (.slice (some ⟨gn, 0, none⟩) G.length capn) w ow (β ++ bs) (τ ++ τ') (m + 12) s' u := fun h1 h2 h3 h4 => hf9 (bs := []) (τ' := []) h1 h2 (by rw [List.append_nil, List.append_nil]; exact h3) h4
  have hf1 : ∀ {u : World} {ow' : Nat → Nat} {m' : Nat} {s' : IS} {bs : List Nat}, Xt w ow ow' → Fram (tg ow cmT) w u → RM G root np tb rb (.slice (some ⟨gn, 0, none⟩) G.length capn) u ow' (β ++ bs) τ m' s' → m' ≤ m + 12 → ∃ bs τ', RP G root np tb rb (.slice (some ⟨gn, 0, none⟩) G.length capn) w ow (β ++ bs) (τ ++ τ') (m + 12) s' u := fun {_ _ _ _ bs} h1 h2 h3 h4 => hf9 (bs := bs) (τ' := []) h1 h2 (by rw [List.append_nil]; exact h3) h4
  have hf2 : ∀ {u : World} {ow' : Nat → Nat} {m' : Nat} {s' : IS} {b1 b2 : Nat}, Xt w ow ow' → Fram (tg ow cmT) w u → RM G root np tb rb (.slice (some ⟨gn, 0, none⟩) G.length capn) u ow' (β ++ [b1] ++ [b2]) τ m' s' → m' ≤ m + 12 → ∃ bs τ', RP G root np tb rb (.slice (some ⟨gn, 0, none⟩) G.length capn) w ow (β ++ bs) (τ ++ τ') (m + 12) s' u := fun {_ _ _ _ b1 b2} h1 h2 h3 h4 => hf9 (bs := [b1, b2]) (τ' := []) h1 h2 (by rw [List.append_nil]; rw [List.append_assoc] at h3; exact h3) h4
  refine ret_of Tryz.func33 rfl Tryz.ntmps33 rfl ?_
  refine c_seq (fun K1 hK1 => ?_)
  obtain ⟨cv, a0, a1, a2, a3, a4, gT, capT, lT, bT, tvT, vvT, hXr, hO, hlT, hcapT, hbT, hTh, hgT⟩ := hR.open
  have hB := hTh.k
  have hkb := hTh.t
  have hclT := hR.cl
  unfold rnc at hXr
  have hk70 := hR.t70
  have hbdd := hR.bdm
  refine c_pi [(0, false), (1, false), (2, false), (3, false), (4, false), (5, false), (6, false), (7, false), (8, false), (9, false), (10, false)] (SameH _) mixed (by kernel_rfl) rfl (by kernel_rfl) (po_then (po_bp)) (sameH_now _ _) ?_ -- region 0 compm.go:509
  refine pi_ro rfl (fun w hS => ro_move rfl) ?_
  refine pi_ro rfl (fun w hS => ro_nilCheck rfl) ?_
  refine pi_ro rfl (fun w hS => ro_fieldAddr (k := 5) rfl fo_112_5) ?_
  refine pi_ro rfl (fun w hS => ro_loadB rfl sc_109 (Blk.of_heap (by assumption) hS) rfl) ?_
  refine pi_ro rfl (fun w hS => ro_move rfl) ?_
  refine pi_ro rfl (fun w hS => ro_nilCheck rfl) ?_
  refine pi_ro rfl (fun w hS => ro_fieldAddr (k := 12) rfl fo_112_8) ?_
  refine pi_ro rfl (fun w hS => ro_loadB rfl sc_3 (Blk.of_heap (by assumption) hS) rfl) ?_
  refine pi_ro rfl (fun w hS => ro_indexAddr (et := 123) (k := 1) rfl rfl se_109 rfl (by omega)) ?_
  refine pi_ro rfl (fun w hS => ro_loadB rfl sc_123 (Blk.of_heap hO hS) (hlT)) ?_
  refine pi_ro rfl (fun w hS => ro_assign rfl) ?_
  refine pi_nil (x_then (hK1 _ _ ?_))
  clear hK1 K1
  refine forget [(0, _), (2, _)] ⟨rfl, rfl, trivial⟩ (fun e => ?_)
  refine c_seq (fun K2 hK2 => ?_)
  have hts0 := hTh.ts
  rw [htk] at hts0
  obtain ⟨gt, capt, lt, e1, hV, q1, q2, q3, q4⟩ := hts0.atR (tsc_len β) (j := 0) rfl
  subst e1
  obtain ⟨va, vc, rfl⟩ := hTh.vs.form
  have hrl : ((⟨28, tn, tx, te⟩ : Tk) :: r).length = r.length + 1 := rfl
  refine c_piL 13 [(0, false), (1, false), (2, false), (3, false), (4, false), (5, false), (6, false), (7, false), (8, false), (9, false), (10, false), (11, false), (12, true)] (La bT _ _ (La gt _ _ (fun _ => True))) mixed (by kernel_rfl) rfl (by kernel_rfl) (po_then (po_bp)) (⟨hB, hV, trivial⟩) ?_ -- region 1 compm.go:510
  refine ql_ro rfl (fun w hS => ro_move rfl) ?_
  refine ql_ro rfl (fun w hS => ro_nilCheck rfl) ?_
  refine ql_ro rfl (fun w hS => ro_fieldAddr (k := 3) rfl fo_126_3) ?_
  refine ql_ro rfl (fun w hS => ro_loadB rfl sc_124 (hS.1) rfl) ?_
  refine ql_ro rfl (fun w hS => ro_move rfl) ?_
  refine ql_ro rfl (fun w hS => ro_nilCheck rfl) ?_
  refine ql_ro rfl (fun w hS => ro_fieldAddr (k := 3) rfl fo_126_3) ?_
  refine ql_ro rfl (fun w hS => ro_loadB rfl sc_124 (hS.1) rfl) ?_
  refine ql_ro rfl (fun w hS => ro_lenL rfl se_124) ?_
  refine ql_ro rfl (fun w hS => ro_arith rfl rfl rfl (Go.IntWalk.i64_in _ (by omega))) ?_
  refine ql_ro rfl (fun w hS => ro_indexAddr (et := 161) (k := 4) rfl rfl se_124 ((show ((((⟨28, tn, tx, te⟩ : Tk) :: r).length : Int) - 1) = ((((⟨28, tn, tx, te⟩ : Tk) :: r).length - 1 - 0 : Nat) : Int) by omega)) ((by omega))) ?_
  refine ql_ro rfl (fun w hS => ro_loadAggB rfl ag_161 (hS.2.1) (rfl) (q4)) ?_
  refine ql_new rfl ze_161 (fun w1 F ↦ ⟨F.blkN hB, F.blkN hV, trivial⟩) ?_
  intro b3 w1 hbb3 h3 F1
  have hbsb3 := Nat.le_trans hF.size hbb3
  have hnegnb3 : gn < b3 := Nat.lt_of_lt_of_le hN.lt hbb3
  have hnegTb3 : gT < b3 := Nat.lt_of_lt_of_le hO.lt hbb3
  have hnebTb3 : bT < b3 := Nat.lt_of_lt_of_le hB.lt hbb3
  have hnerbb3 : rb < b3 := Nat.lt_of_lt_of_le hXr.lt hbb3
  have hnegtb3 : gt < b3 := Nat.lt_of_lt_of_le hV.lt hbb3
  have kh3 := hR.df b3 hbb3
  replace hF := hF.thenDrew.thenN F1
  replace hR := hR.thruN ((Fram.refl none' _).thenDrew.thenN F1)
  replace hN := F1.blkN hN
  replace hO := F1.blkN hO
  replace hB := F1.blkN hB
  replace hXr := F1.blkN hXr
  replace hV := F1.blkN hV
  refine ql_puta rfl rfl rfl ((tsc_one _ _)) sz_161 (rfl) h3 ((by simp)) ((show _ = [i64c 28, i64c tn, i64c tx, .pointer (epo β te)] from rfl)) (fun w2 h3 F2 => ?_)
  replace hF := hF.thenDrew.thenO F2 (by first | exact .inr (by omega) | exact .inl rfl | exact .inl (by assumption) | assumption)
  replace hR := hR.hbput ((Fram.refl (one b3) _).thenDrew.thenO F2 (.inl rfl))
  replace hN := F2.blkO hN (by first | omega | exact ow_ne (by assumption) (by assumption) (by omega))
  replace hO := F2.blkO hO (by first | omega | exact ow_ne (by assumption) (by assumption) (by omega))
  replace hB := F2.blkO hB (by first | omega | exact ow_ne (by assumption) (by assumption) (by omega))
  replace hXr := F2.blkO hXr (by first | omega | exact ow_ne (by assumption) (by assumption) (by omega))
  replace hV := F2.blkO hV (by first | omega | exact ow_ne (by assumption) (by assumption) (by omega))
  refine x_then (hK2 _ _ ?_)
  clear hK2 K2
  refine forget [(0, _), (2, _), (3, _)] ⟨rfl, rfl, rfl, trivial⟩ (fun e => ?_)
  refine c_seq (fun K3 hK3 => ?_)
  obtain ⟨b0, hb0⟩ : ∃ b0, b0 = bT := ⟨_, rfl⟩
  subst hb0
  have hb0 := hbT
  clear hTh hkb hlT hbT hcapT hgT hclT hk70 hB hO hXr hV q4 q3 q2 q1 hts0
  obtain ⟨cv, a0, a1, a2, a3, a4, gT, capT, lT, bT, tvT, vvT, hXr, hO, hlT, hcapT, hbT, hTh, hgT⟩ := hR.open
  have hB := hTh.k
  have hkb := hTh.t
  have hclT := hR.cl
  unfold rnc at hXr
  have hk70 := hR.t70
  have hbe : bT = b0 := Option.some.inj (hbT.symm.trans hb0)
  subst hbe
  obtain ⟨ta, tc, rfl⟩ := hTh.ts.form
  obtain ⟨va2, vc2, rfl⟩ := hTh.vs.form
  have hcapt := hTh.ts.capge
  have htr := hTh.ts.dropR (tsc_len β) 1
  rw [htl, htk] at htr
  have hmb := hX.memC (hR.mem_b hR.cl hTh.t)
  refine c_piL 14 [(0, false), (1, false), (2, false), (3, false), (4, false), (5, false), (6, false), (7, false), (8, false), (9, false), (10, false), (11, false), (12, false), (13, false)] (SameH _) mixed (by kernel_rfl) rfl (by kernel_rfl) (po_then (po_bp)) (sameH_now _ _) ?_ -- region 2 compm.go:511
  refine ql_ro rfl (fun w hS => ro_move rfl) ?_
  refine ql_ro rfl (fun w hS => ro_move rfl) ?_
  refine ql_ro rfl (fun w hS => ro_nilCheck rfl) ?_
  refine ql_ro rfl (fun w hS => ro_fieldAddr (k := 3) rfl fo_126_3) ?_
  refine ql_ro rfl (fun w hS => ro_loadB rfl sc_124 (Blk.of_heap (by assumption) hS) rfl) ?_
  refine ql_ro rfl (fun w hS => ro_move rfl) ?_
  refine ql_ro rfl (fun w hS => ro_nilCheck rfl) ?_
  refine ql_ro rfl (fun w hS => ro_fieldAddr (k := 3) rfl fo_126_3) ?_
  refine ql_ro rfl (fun w hS => ro_loadB rfl sc_124 (Blk.of_heap (by assumption) hS) rfl) ?_
  refine ql_ro rfl (fun w hS => ro_lenL rfl se_124) ?_
  refine ql_ro rfl (fun w hS => ro_arith rfl rfl rfl (Go.IntWalk.i64_in _ (by omega))) ?_
  refine ql_ro rfl (fun w hS => ro_sliceH (h := r.length) rfl rfl se_124 (by omega) (by omega)) ?_
  refine ql_ro rfl (fun w hS => ro_nilCheck rfl) ?_
  refine ql_ro rfl (fun w hS => ro_fieldAddr (k := 3) rfl fo_126_3) ?_
  refine ql_put rfl rfl rfl rfl sz_124 hB ((by simp)) (rfl) (fun w3 hB F3 => ?_)
  replace hF := hF.thenDrew.thenO F3 (by first | exact .inr (by omega) | exact .inl rfl | exact .inl (by assumption) | assumption)
  replace hN := F3.blkO hN (by first | omega | exact ow_ne (by assumption) (by assumption) (by omega))
  replace h3 := F3.blkO h3 (by first | omega | exact ow_ne (by assumption) (by assumption) (by omega))
  replace hO := F3.blkO hO (by first | omega | exact ow_ne (by assumption) (by assumption) (by omega))
  replace hXr := F3.blkO hXr (by first | omega | exact ow_ne (by assumption) (by assumption) (by omega))
  have hR2 := hR.thr' (y := { s.th with tasks := r }) hbT hTh.t htr hTh.vs ((Fram.refl (one bT) _).thenDrew.thenO F3 (.inl rfl)) hB (fun z hz => hR.tem z (by rw [htk]; exact List.mem_cons_of_mem _ hz)) (by have := hR.bdm; rw [htl] at this; exact ⟨by show r.length ≤ m; omega, this.2⟩)
  replace hR := hR2
  obtain ⟨b0, hb1⟩ : ∃ b0, b0 = bT := ⟨_, rfl⟩
  subst hb1
  have hb0 : τ[(s.setT { s.th with tasks := r }).cur]? = some b0 := hbT
  clear hTh hkb hlT hbT hcapT hgT hclT hk70 hB hO hXr htr hmb hcapt hbdd
  generalize hsP : s.setT { s.th with tasks := r } = sP at *
  have hbdP := hR.bdm
  refine x_then (hK3 _ _ ?_)
  clear hK3 K3
  refine forget [(0, _), (2, _), (3, _)] ⟨rfl, rfl, rfl, trivial⟩ (fun e => ?_)
  refine c_seq (fun K4 hK4 => ?_)
  refine c_reg ?_ -- region 3 compm.go:512
  refine wl_new (ze_148) (fun b4 w4 hbb4 h4 F4 => ?_)
  have hbsb4 := Nat.le_trans hF.size hbb4
  have hnegnb4 : gn < b4 := Nat.lt_of_lt_of_le hN.lt hbb4
  have hneb3b4 : b3 < b4 := Nat.lt_of_lt_of_le h3.lt hbb4
  have kh4 := hR.df b4 hbb4
  replace hF := hF.thenDrew.thenN F4
  replace hN := F4.blkN hN
  replace h3 := F4.blkN h3
  replace hR := hR.thruN ((Fram.refl none' _).thenDrew.thenN F4)
  refine wl_nil (x_then (hK4 _ _ ?_))
  clear hK4 K4
  refine c_seq (fun K5 hK5 => ?_)
  refine c_seq (fun K6 hK6 => ?_)
  refine c_reg ?_ -- region 4 compm.go:513
  refine wl (ro_fieldAddr (k := 0) rfl fo_161_0) ?_
  refine wl (ro_loadB rfl sc_3 (by assumption) rfl) ?_
  refine wl (ro_cmp rfl rfl rfl) ?_
  refine wl_nil (x_then (hK6 _ _ ?_))
  clear hK6 K6
  refine wc_condT rfl ?_
  obtain ⟨cv, hv_, a0, a1, a2, a3, a4, hXr, hq2, hq3, hq4⟩ := hR.r
  unfold rnc at hXr
  have hk70 := hR.t70
  refine c_piL 8 [(0, false), (1, false), (2, false), (3, false), (4, false), (5, false), (6, false), (7, false)] (SameH _) mixed (by kernel_rfl) rfl (by kernel_rfl) (po_then (po_bp)) (sameH_now _ _) ?_ -- region 5 compm.go:514
  refine ql_ro rfl (fun w hS => ro_move rfl) ?_
  refine ql_ro rfl (fun w hS => ro_nilCheck rfl) ?_
  refine ql_ro rfl (fun w hS => ro_fieldAddr (k := 2) rfl fo_112_2) ?_
  refine ql_ro rfl (fun w hS => ro_loadB rfl sc_77 (Blk.of_heap (by assumption) hS) rfl) ?_
  refine ql_ro rfl (fun w hS => ro_fieldAddr (k := 1) rfl fo_161_1) ?_
  refine ql_ro rfl (fun w hS => ro_loadB rfl sc_3 (Blk.of_heap (by assumption) hS) rfl) ?_
  refine ql_ro rfl (fun w hS => ro_indexAddr (et := 148) (k := 8) rfl rfl se_77 (rfl) (hn)) ?_
  refine ql_ro rfl (fun w hS => ro_loadAggB rfl ag_148 (Blk.of_heap hN hS) (rfl) (hpn)) ?_
  refine ql_puta rfl rfl rfl ((ndc_one _)) sz_148 (rfl) h4 ((by simp)) ((show _ = ndc (nd G tn, pn) from rfl)) (fun w5 h4 F5 => ?_)
  replace hF := hF.thenDrew.thenO F5 (by first | exact .inr (by omega) | exact .inl rfl | exact .inl (by assumption) | assumption)
  replace hN := F5.blkO hN (by first | omega | exact ow_ne (by assumption) (by assumption) (by omega))
  replace h3 := F5.blkO h3 (by first | omega | exact ow_ne (by assumption) (by assumption) (by omega))
  replace hR := hR.hbput ((Fram.refl (one b4) _).thenDrew.thenO F5 (.inl rfl))
  replace hXr := F5.blkO hXr (by first | omega | exact ow_ne (by assumption) (by assumption) (by omega))
  refine x_then (hK5 _ _ ?_)
  clear hK5 K5
  refine forget [(0, _), (2, _), (3, _), (4, _)] ⟨rfl, rfl, rfl, rfl, trivial⟩ (fun e => ?_)
  refine c_seq (fun K7 hK7 => ?_)
  have hf : flT r + 2 ≤ h := hf
  refine c_reg ?_ -- region 6 compm.go:516
  refine wl (ro_fieldAddr (k := 0) rfl fo_161_0) ?_
  refine wl (ro_loadB rfl sc_3 (by assumption) rfl) ?_
  refine wl_nil (x_then (hK7 _ _ ?_))
  clear hK7 K7
  refine c_block ?_
  refine forget [(0, _), (2, _), (3, _), (4, _), (92, _)] ⟨rfl, rfl, rfl, rfl, rfl, trivial⟩ (fun e => ?_)
  refine c_seq (fun K8 hK8 => ?_)
  refine c_reg ?_ -- region 7 compm.go:517
  refine wl (ro_cmp rfl rfl rfl) ?_
  refine wl (ro_assign rfl) ?_
  refine wl_nil (x_then (hK8 _ _ ?_))
  clear hK8 K8
  refine wc_condF rfl ?_
  refine c_seq (fun K9 hK9 => ?_)
  refine c_reg ?_ -- region 10 compm.go:521
  refine wl (ro_cmp rfl rfl rfl) ?_
  refine wl (ro_assign rfl) ?_
  refine wl_nil (x_then (hK9 _ _ ?_))
  clear hK9 K9
  refine wc_condF rfl ?_
  refine c_seq (fun K10 hK10 => ?_)
  refine c_reg ?_ -- region 12 compm.go:523
  refine wl (ro_cmp rfl rfl rfl) ?_
  refine wl (ro_assign rfl) ?_
  refine wl_nil (x_then (hK10 _ _ ?_))
  clear hK10 K10
  refine wc_condF rfl ?_
  refine c_seq (fun K11 hK11 => ?_)
  refine c_reg ?_ -- region 15 compm.go:526
  refine wl (ro_cmp rfl rfl rfl) ?_
  refine wl (ro_assign rfl) ?_
  refine wl_nil (x_then (hK11 _ _ ?_))
  clear hK11 K11
  refine wc_condF rfl ?_
  refine c_seq (fun K12 hK12 => ?_)
  refine c_reg ?_ -- region 16 compm.go:527
  refine wl (ro_cmp rfl rfl rfl) ?_
  refine wl (ro_assign rfl) ?_
  refine wl_nil (x_then (hK12 _ _ ?_))
  clear hK12 K12
  refine wc_condF rfl ?_
  refine c_seq (fun K13 hK13 => ?_)
  refine c_reg ?_ -- region 18 compm.go:529
  refine wl (ro_cmp rfl rfl rfl) ?_
  refine wl (ro_assign rfl) ?_
  refine wl_nil (x_then (hK13 _ _ ?_))
  clear hK13 K13
  refine wc_condF rfl ?_
  refine c_seq (fun K14 hK14 => ?_)
  refine c_reg ?_ -- region 21 compm.go:532
  refine wl (ro_cmp rfl rfl rfl) ?_
  refine wl (ro_assign rfl) ?_
  refine wl_nil (x_then (hK14 _ _ ?_))
  clear hK14 K14
  refine wc_condF rfl ?_
  refine c_seq (fun K15 hK15 => ?_)
  refine c_reg ?_ -- region 28 compm.go:539
  refine wl (ro_cmp rfl rfl rfl) ?_
  refine wl (ro_assign rfl) ?_
  refine wl_nil (x_then (hK15 _ _ ?_))
  clear hK15 K15
  refine wc_condF rfl ?_
  refine c_seq (fun K16 hK16 => ?_)
  refine c_reg ?_ -- region 31 compm.go:542
  refine wl (ro_cmp rfl rfl rfl) ?_
  refine wl (ro_assign rfl) ?_
  refine wl_nil (x_then (hK16 _ _ ?_))
  clear hK16 K16
  refine wc_condF rfl ?_
  refine c_seq (fun K17 hK17 => ?_)
  refine c_reg ?_ -- region 37 compm.go:550
  refine wl (ro_cmp rfl rfl rfl) ?_
  refine wl (ro_assign rfl) ?_
  refine wl_nil (x_then (hK17 _ _ ?_))
  clear hK17 K17
  refine wc_condF rfl ?_
  refine c_seq (fun K18 hK18 => ?_)
  refine c_reg ?_ -- region 42 compm.go:555
  refine wl (ro_cmp rfl rfl rfl) ?_
  refine wl (ro_assign rfl) ?_
  refine wl_nil (x_then (hK18 _ _ ?_))
  clear hK18 K18
  refine wc_condF rfl ?_
  refine c_seq (fun K19 hK19 => ?_)
  refine c_reg ?_ -- region 47 compm.go:562
  refine wl (ro_cmp rfl rfl rfl) ?_
  refine wl (ro_assign rfl) ?_
  refine wl_nil (x_then (hK19 _ _ ?_))
  clear hK19 K19
  refine wc_condF rfl ?_
  refine c_seq (fun K20 hK20 => ?_)
  refine c_reg ?_ -- region 50 compm.go:565
  refine wl (ro_cmp rfl rfl rfl) ?_
  refine wl (ro_assign rfl) ?_
  refine wl_nil (x_then (hK20 _ _ ?_))
  clear hK20 K20
  refine wc_condF rfl ?_
  refine c_seq (fun K21 hK21 => ?_)
  refine c_reg ?_ -- region 55 compm.go:571
  refine wl (ro_cmp rfl rfl rfl) ?_
  refine wl (ro_assign rfl) ?_
  refine wl_nil (x_then (hK21 _ _ ?_))
  clear hK21 K21
  refine wc_condF rfl ?_
  refine c_seq (fun K22 hK22 => ?_)
  refine c_reg ?_ -- region 58 compm.go:575
  refine wl (ro_cmp rfl rfl rfl) ?_
  refine wl (ro_assign rfl) ?_
  refine wl_nil (x_then (hK22 _ _ ?_))
  clear hK22 K22
  refine wc_condF rfl ?_
  refine c_seq (fun K23 hK23 => ?_)
  refine c_reg ?_ -- region 67 compm.go:588
  refine wl (ro_cmp rfl rfl rfl) ?_
  refine wl (ro_assign rfl) ?_
  refine wl_nil (x_then (hK23 _ _ ?_))
  clear hK23 K23
  refine wc_condF rfl ?_
  refine c_seq (fun K24 hK24 => ?_)
  refine c_reg ?_ -- region 78 compm.go:603
  refine wl (ro_cmp rfl rfl rfl) ?_
  refine wl (ro_assign rfl) ?_
  refine wl_nil (x_then (hK24 _ _ ?_))
  clear hK24 K24
  refine wc_condF rfl ?_
  refine c_seq (fun K25 hK25 => ?_)
  refine c_reg ?_ -- region 83 compm.go:609
  refine wl (ro_cmp rfl rfl rfl) ?_
  refine wl (ro_assign rfl) ?_
  refine wl_nil (x_then (hK25 _ _ ?_))
  clear hK25 K25
  refine wc_condF rfl ?_
  refine c_seq (fun K26 hK26 => ?_)
  refine c_reg ?_ -- region 89 compm.go:617
  refine wl (ro_cmp rfl rfl rfl) ?_
  refine wl (ro_assign rfl) ?_
  refine wl_nil (x_then (hK26 _ _ ?_))
  clear hK26 K26
  refine wc_condF rfl ?_
  refine c_seq (fun K27 hK27 => ?_)
  refine c_reg ?_ -- region 100 compm.go:630
  refine wl (ro_cmp rfl rfl rfl) ?_
  refine wl (ro_assign rfl) ?_
  refine wl_nil (x_then (hK27 _ _ ?_))
  clear hK27 K27
  refine wc_condF rfl ?_
  refine c_seq (fun K28 hK28 => ?_)
  refine c_reg ?_ -- region 103 compm.go:634
  refine wl (ro_cmp rfl rfl rfl) ?_
  refine wl (ro_assign rfl) ?_
  refine wl_nil (x_then (hK28 _ _ ?_))
  clear hK28 K28
  refine wc_condF rfl ?_
  refine c_seq (fun K29 hK29 => ?_)
  refine c_reg ?_ -- region 107 compm.go:638
  refine wl (ro_cmp rfl rfl rfl) ?_
  refine wl (ro_assign rfl) ?_
  refine wl_nil (x_then (hK29 _ _ ?_))
  clear hK29 K29
  refine wc_condF rfl ?_
  refine c_seq (fun K30 hK30 => ?_)
  refine c_reg ?_ -- region 109 compm.go:640
  refine wl (ro_cmp rfl rfl rfl) ?_
  refine wl (ro_assign rfl) ?_
  refine wl_nil (x_then (hK30 _ _ ?_))
  clear hK30 K30
  refine wc_condF rfl ?_
  refine c_seq (fun K31 hK31 => ?_)
  refine c_reg ?_ -- region 115 compm.go:647
  refine wl (ro_cmp rfl rfl rfl) ?_
  refine wl (ro_assign rfl) ?_
  refine wl_nil (x_then (hK31 _ _ ?_))
  clear hK31 K31
  refine wc_condF rfl ?_
  refine c_seq (fun K32 hK32 => ?_)
  refine c_reg ?_ -- region 119 compm.go:651
  refine wl (ro_cmp rfl rfl rfl) ?_
  refine wl (ro_assign rfl) ?_
  refine wl_nil (x_then (hK32 _ _ ?_))
  clear hK32 K32
  refine wc_condF rfl ?_
  refine c_seq (fun K33 hK33 => ?_)
  refine c_reg ?_ -- region 122 compm.go:654
  refine wl (ro_cmp rfl rfl rfl) ?_
  refine wl (ro_assign rfl) ?_
  refine wl_nil (x_then (hK33 _ _ ?_))
  clear hK33 K33
  refine wc_condF rfl ?_
  refine c_seq (fun K34 hK34 => ?_)
  refine c_reg ?_ -- region 126 compm.go:659
  refine wl (ro_cmp rfl rfl rfl) ?_
  refine wl (ro_assign rfl) ?_
  refine wl_nil (x_then (hK34 _ _ ?_))
  clear hK34 K34
  refine wc_condF rfl ?_
  refine c_seq (fun K35 hK35 => ?_)
  refine c_reg ?_ -- region 130 compm.go:664
  refine wl (ro_cmp rfl rfl rfl) ?_
  refine wl (ro_assign rfl) ?_
  refine wl_nil (x_then (hK35 _ _ ?_))
  clear hK35 K35
  refine wc_condT rfl ?_
  refine c_seq (fun K36 hK36 => ?_)
  refine c_reg ?_ -- region 131 compm.go:665
  refine wl (ro_move rfl) ?_
  refine wl_call rfl en_59 (pop59 hR.dr (by omega) (by omega)) ?_
  rintro _ u6 ⟨rfl, ow6, x6, f6, r6⟩
  obtain ⟨hN, khN⟩ := cm_loc x6 f6 hN khN
  obtain ⟨h3, kh3⟩ := cm_loc x6 f6 h3 kh3
  obtain ⟨h4, kh4⟩ := cm_loc x6 f6 h4 kh4
  have hs6 := hF.size
  replace hF := cm_trans hX hF f6
  replace hX := hX.trans hs6 x6
  replace hR := r6
  refine wl_new (ze_119) (fun b40 w7 hbb40 h40 F7 => ?_)
  have hbsb40 := Nat.le_trans hF.size hbb40
  have hnegnb40 : gn < b40 := Nat.lt_of_lt_of_le hN.lt hbb40
  have hneb3b40 : b3 < b40 := Nat.lt_of_lt_of_le h3.lt hbb40
  have hneb4b40 : b4 < b40 := Nat.lt_of_lt_of_le h4.lt hbb40
  have kh40 := hR.df b40 hbb40
  replace hF := hF.thenDrew.thenN F7
  replace hN := F7.blkN hN
  replace h3 := F7.blkN h3
  replace hR := hR.thruN ((Fram.refl none' _).thenDrew.thenN F7)
  replace h4 := F7.blkN h4
  refine wl_puta rfl rfl ((pvc_one _)) sz_119 (rfl) h40 ((by simp)) ((show _ = pvc (sP.top 0) from rfl)) (fun w8 h40 F8 => ?_)
  replace hF := hF.thenDrew.thenO F8 (by first | exact .inr (by omega) | exact .inl rfl | exact .inl (by assumption) | assumption)
  replace hN := F8.blkO hN (by first | omega | exact ow_ne (by assumption) (by assumption) (by omega))
  replace h3 := F8.blkO h3 (by first | omega | exact ow_ne (by assumption) (by assumption) (by omega))
  replace hR := hR.hbput ((Fram.refl (one b40) _).thenDrew.thenO F8 (.inl rfl))
  replace h4 := F8.blkO h4 (by first | omega | exact ow_ne (by assumption) (by assumption) (by omega))
  refine wl_nil (x_then (hK36 _ _ ?_))
  clear hK36 K36
  refine forget [(0, _), (40, _)] ⟨rfl, rfl, trivial⟩ (fun e => ?_)
  refine c_seq (fun K37 hK37 => ?_)
  refine c_reg ?_ -- region 132 compm.go:666
  refine wl (ro_move rfl) ?_
  refine wl_call rfl en_59 (pop59 hR.dr (by rw [drop_vals hclP, List.length_drop]; omega) (by omega)) ?_
  rintro _ u9 ⟨rfl, ow9, x9, f9, r9⟩
  obtain ⟨hN, khN⟩ := cm_loc x9 f9 hN khN
  obtain ⟨h3, kh3⟩ := cm_loc x9 f9 h3 kh3
  obtain ⟨h4, kh4⟩ := cm_loc x9 f9 h4 kh4
  obtain ⟨h40, kh40⟩ := cm_loc x9 f9 h40 kh40
  have hs9 := hF.size
  replace hF := cm_trans hX hF f9
  replace hX := hX.trans hs9 x9
  replace hR := r9
  rw [drop_drop hclP] at hR
  rw [top_drop hclP]
  refine wl_new (ze_119) (fun b41 w10 hbb41 h41 F10 => ?_)
  have hbsb41 := Nat.le_trans hF.size hbb41
  have hnegnb41 : gn < b41 := Nat.lt_of_lt_of_le hN.lt hbb41
  have hneb3b41 : b3 < b41 := Nat.lt_of_lt_of_le h3.lt hbb41
  have hneb4b41 : b4 < b41 := Nat.lt_of_lt_of_le h4.lt hbb41
  have hneb40b41 : b40 < b41 := Nat.lt_of_lt_of_le h40.lt hbb41
  have kh41 := hR.df b41 hbb41
  replace hF := hF.thenDrew.thenN F10
  replace hN := F10.blkN hN
  replace h3 := F10.blkN h3
  replace hR := hR.thruN ((Fram.refl none' _).thenDrew.thenN F10)
  replace h4 := F10.blkN h4
  replace h40 := F10.blkN h40
  refine wl_puta rfl rfl ((pvc_one _)) sz_119 (rfl) h41 ((by simp)) ((show _ = pvc (sP.top 1) from rfl)) (fun w11 h41 F11 => ?_)
  replace hF := hF.thenDrew.thenO F11 (by first | exact .inr (by omega) | exact .inl rfl | exact .inl (by assumption) | assumption)
  replace hN := F11.blkO hN (by first | omega | exact ow_ne (by assumption) (by assumption) (by omega))
  replace h3 := F11.blkO h3 (by first | omega | exact ow_ne (by assumption) (by assumption) (by omega))
  replace hR := hR.hbput ((Fram.refl (one b41) _).thenDrew.thenO F11 (.inl rfl))
  replace h4 := F11.blkO h4 (by first | omega | exact ow_ne (by assumption) (by assumption) (by omega))
  replace h40 := F11.blkO h40 (by first | omega | exact ow_ne (by assumption) (by assumption) (by omega))
  refine wl_nil (x_then (hK37 _ _ ?_))
  clear hK37 K37
  refine c_seq (fun K38 hK38 => ?_)
  refine c_seq (fun K39 hK39 => ?_)
  refine c_reg ?_ -- region 133 compm.go:667
  refine wl (ro_fieldAddr (k := 0) rfl fo_119_0) ?_
  refine wl (ro_loadB rfl sc_3 (by assumption) rfl) ?_
  refine wl (ro_cmp rfl rfl rfl) ?_
  refine wl_nil (x_then (hK39 _ _ ?_))
  clear hK39 K39
  refine wc_cond rfl (fun hc802 => ?_) (fun hc802 => ?_)
  · try simp only [decide_eq_true_eq, decide_eq_false_iff_not, Bool.not_eq_true', Bool.not_eq_false', Bool.not_eq_eq_eq_not, Bool.not_true, Bool.not_false, beq_iff_eq, bne_iff_ne, ne_eq, beq_eq_false_iff_ne, bne_eq_false_iff_eq, gt_iff_lt, ge_iff_le, Int.not_lt, Int.not_le] at hc802
    refine c_seq (fun K40 hK40 => ?_)
    refine c_reg ?_ -- region 134 compm.go:668
    refine wl (ro_move rfl) ?_
    refine wl_call rfl en_64 (raise64 (z := mIndex) hR.dr (by decide) ((P.drop 2).rt hT (by omega)) (by omega)) ?_
    rintro _ u12 ⟨rfl, ow12, x12, f12, r12⟩
    obtain ⟨hN, khN⟩ := cm_loc x12 f12 hN khN
    obtain ⟨h3, kh3⟩ := cm_loc x12 f12 h3 kh3
    obtain ⟨h4, kh4⟩ := cm_loc x12 f12 h4 kh4
    obtain ⟨h40, kh40⟩ := cm_loc x12 f12 h40 kh40
    obtain ⟨h41, kh41⟩ := cm_loc x12 f12 h41 kh41
    have hs12 := hF.size
    replace hF := cm_trans hX hF f12
    replace hX := hX.trans hs12 x12
    replace hR := r12
    refine wl_nil (x_then (hK40 _ _ ?_))
    clear hK40 K40
    refine c_ret (x_thenR (x_blkR ?_))
    refine bp_ret Tryz.results33 rfl ?_
    refine ⟨rfl, ?_⟩
    rw [hgoal]
    unfold istep1
    simp only [Nat.reduceEqDiff, reduceIte]
    try rw [hmod]
    try simp only [hnx]
    try rw [hlen7]
    try rw [hlen8]
    try (rw [burn_if (by exact P.b.dn)]; first | rw [if_pos (by exact hfu)] | rw [if_neg (by exact hfu)])
    repeat (first | rw [if_pos (by first | assumption | omega)] | rw [if_neg (by first | assumption | omega)])
    first
    | exact hf0 hX hF hR (by omega)
    | exact hf1 hX hF hR (by omega)
    | exact hf2 hX hF hR (by omega)
    | exact hf9 hX hF hR (by omega)
  · try simp only [decide_eq_true_eq, decide_eq_false_iff_not, Bool.not_eq_true', Bool.not_eq_false', Bool.not_eq_eq_eq_not, Bool.not_true, Bool.not_false, beq_iff_eq, bne_iff_ne, ne_eq, beq_eq_false_iff_ne, bne_eq_false_iff_eq, gt_iff_lt, ge_iff_le, Int.not_lt, Int.not_le] at hc802
    refine c_skip (x_then (hK38 _ _ ?_))
    clear hK38 K38
    refine forget [(0, _), (40, _), (41, _)] ⟨rfl, rfl, rfl, trivial⟩ (fun e => ?_)
    refine c_seq (fun K41 hK41 => ?_)
    have htb1 := (hokt 1).tb (by omega)
    refine c_piF 14 8 12 [0, 1, 2, 3, 4, 5, 6, 7] [(9, false), (10, false), (11, false), (12, true), (13, true)] [(8, true), (9, false), (10, false), (11, false), (13, true)] (La gn _ _ (La b3 _ _ (La b4 _ _ (La b40 _ _ (La b41 _ _ (Lz rb _ _ _)))))) mixed (by kernel_rfl) rfl rfl (by kernel_rfl) (po_then (po_blk (po_bp))) (⟨hN, h3, h4, h40, h41, hR.rz⟩) ?_ -- region 135 compm.go:671
    refine wf_ro rfl (fun w hS => ro_move rfl) ?_
    refine wf_ro rfl (fun w hS => ro_nilCheck rfl) ?_
    refine wf_ro rfl (fun w hS => ro_fieldAddr (k := 1) rfl fo_112_1) ?_
    refine wf_ro rfl (fun w hS => let ⟨_, hc⟩ := hS.2.2.2.2.2; ro_loadB rfl sc_48 hc rfl) ?_
    refine wf_ro rfl (fun w hS => ro_fieldAddr (k := 1) rfl fo_119_1) ?_
    refine wf_ro rfl (fun w hS => ro_loadB rfl sc_117 (hS.2.2.2.2.1) rfl) ?_
    refine wf_ro rfl (fun w hS => ro_conv rfl sc_117 in_3 (Go.IntWalk.i64_in _ (by omega))) ?_
    refine wf_ro rfl (fun w hS => ro_loadAggB rfl ag_119 (hS.2.2.2.1) rfl rfl) ?_
    refine wf_cx (R := fun v u => v = .tuple #[pv (tGet (sP.tabs.getD (sP.top 1).N []) (sP.top 0)), icv 0] ∧ Fram none' _ u) (G := none') rfl rfl rfl rfl rfl rfl rfl (by decide) (by decide) rfl (fun _ => rfl) en_74 ze_119 sz_119 rfl (fun w1 F => ((hR.dr.thruN F).get74 (n := (sP.top 1).N) (k := sP.top 0) htb1 (hokt 0).wf (hokt 0).w).mono (fun v u h => ⟨⟨h.1, F.trans h.2⟩, h.2⟩)) (fun v u u9 h F => ⟨h.1, h.2.trans F⟩) (fun b h => h.elim) (fun v u h => ⟨pvc (tGet (sP.tabs.getD (sP.top 1).N []) (sP.top 0)), h.1, rfl, pvc_one _⟩) (fun u F => ⟨F.blkN hN, F.blkN h3, F.blkN h4, F.blkN h40, F.blkN h41, (hR.dr.thruN F).rz⟩) (fun v u h => ⟨h.2.blkN hN, h.2.blkN h3, h.2.blkN h4, h.2.blkN h40, h.2.blkN h41, (hR.dr.thruN h.2).rz⟩) (fun v u b u9 h hb F => ⟨F.blkO (h.2.blkN hN) (fun q => by have h1 := hN.lt; subst q; exact absurd hb (by exact Nat.not_le.2 h1)), F.blkO (h.2.blkN h3) (fun q => by have h1 := h3.lt; subst q; exact absurd hb (by exact Nat.not_le.2 h1)), F.blkO (h.2.blkN h4) (fun q => by have h1 := h4.lt; subst q; exact absurd hb (by exact Nat.not_le.2 h1)), F.blkO (h.2.blkN h40) (fun q => by have h1 := h40.lt; subst q; exact absurd hb (by exact Nat.not_le.2 h1)), F.blkO (h.2.blkN h41) (fun q => by have h1 := h41.lt; subst q; exact absurd hb (by exact Nat.not_le.2 h1)), ((hR.dr.thruN h.2).hbput F (hR.df _ hb)).rz⟩) (fun v u h => h.2.size) ?_
    intro cs w13 b42 w14 hR9 hcl hbb42 h0_ h42 F14
    have hcs := pair_cs hR9.1
    subst hcs
    have F13 := hR9.2
    have hbsb42 := Nat.le_trans hF.size hbb42
    have hnegnb42 : gn < b42 := Nat.lt_of_lt_of_le hN.lt hbb42
    have hneb3b42 : b3 < b42 := Nat.lt_of_lt_of_le h3.lt hbb42
    have hneb4b42 : b4 < b42 := Nat.lt_of_lt_of_le h4.lt hbb42
    have hneb40b42 : b40 < b42 := Nat.lt_of_lt_of_le h40.lt hbb42
    have hneb41b42 : b41 < b42 := Nat.lt_of_lt_of_le h41.lt hbb42
    have kh42 := hR.df b42 hbb42
    replace hF := hF.thenDrew.thenN F13
    replace hN := F13.blkN hN
    replace h3 := F13.blkN h3
    replace hR := hR.thruN ((Fram.refl none' _).thenDrew.thenN F13)
    replace h4 := F13.blkN h4
    replace h40 := F13.blkN h40
    replace h41 := F13.blkN h41
    replace hF := hF.thenDrew.thenO F14 (by first | exact .inr (by omega) | exact .inl rfl | exact .inl (by assumption) | assumption)
    replace hN := F14.blkO hN (by first | omega | exact ow_ne (by assumption) (by assumption) (by omega))
    replace h3 := F14.blkO h3 (by first | omega | exact ow_ne (by assumption) (by assumption) (by omega))
    replace hR := hR.hbput ((Fram.refl (one b42) _).thenDrew.thenO F14 (.inl rfl))
    replace h4 := F14.blkO h4 (by first | omega | exact ow_ne (by assumption) (by assumption) (by omega))
    replace h40 := F14.blkO h40 (by first | omega | exact ow_ne (by assumption) (by assumption) (by omega))
    replace h41 := F14.blkO h41 (by first | omega | exact ow_ne (by assumption) (by assumption) (by omega))
    refine x_then (hK41 _ _ ?_)
    clear hK41 K41
    refine c_reg ?_ -- region 136 compm.go:672
    refine wl (ro_move rfl) ?_
    refine wl (ro_loadAggB rfl ag_119 (by assumption) rfl rfl) ?_
    refine wl_call rfl en_67 (push67 (v := tGet (sP.tabs.getD (sP.top 1).N []) (sP.top 0)) hR.dr (by omega)) ?_
    rintro _ u15 ⟨rfl, ow15, x15, f15, r15⟩
    obtain ⟨hN, khN⟩ := cm_loc x15 f15 hN khN
    obtain ⟨h3, kh3⟩ := cm_loc x15 f15 h3 kh3
    obtain ⟨h4, kh4⟩ := cm_loc x15 f15 h4 kh4
    obtain ⟨h40, kh40⟩ := cm_loc x15 f15 h40 kh40
    obtain ⟨h41, kh41⟩ := cm_loc x15 f15 h41 kh41
    obtain ⟨h42, kh42⟩ := cm_loc x15 f15 h42 kh42
    have hs15 := hF.size
    replace hF := cm_trans hX hF f15
    replace hX := hX.trans hs15 x15
    replace hR := r15
    refine wl_nil (x_blk ?_)
    refine bp_end Tryz.results33 rfl ?_
    refine ⟨rfl, ?_⟩
    rw [hgoal]
    unfold istep1
    simp only [Nat.reduceEqDiff, reduceIte]
    try rw [hmod]
    try simp only [hnx]
    try rw [hlen7]
    try rw [hlen8]
    try (rw [burn_if (by exact P.b.dn)]; first | rw [if_pos (by exact hfu)] | rw [if_neg (by exact hfu)])
    repeat (first | rw [if_pos (by first | assumption | omega)] | rw [if_neg (by first | assumption | omega)])
    first
    | exact hf0 hX hF hR (by omega)
    | exact hf1 hX hF hR (by omega)
    | exact hf2 hX hF hR (by omega)
    | exact hf9 hX hF hR (by omega)

end Go.Proofs.Qxb6500568aGreatDoor
