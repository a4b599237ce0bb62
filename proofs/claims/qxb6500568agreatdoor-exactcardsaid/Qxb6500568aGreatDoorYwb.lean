import Derived.Test.Qxb6500568aGreatDoorYv
/- The interpreter: step, tasks of the kinds 5 to 7. -/
namespace Go.Proofs.Qxb6500568aGreatDoor
open Ieee
set_option linter.unusedVariables false
set_option linter.unusedSimpArgs false
set_option linter.unusedSectionVars false

set_option maxHeartbeats 8000000 in
theorem step33_5 {G : Arena} {root : Nat} {np : Value} {tb rb : Nat} {nv : Value} {w : World} {ow : Nat → Nat} {β τ : List Nat} {m : Nat} {s : IS} (hR : RM G root np tb rb nv w ow β τ m s) (hG : 0 < G.length) (hAG : AOK G) (h0K : (nd G 0).K = 0) (hI : IA G root s) (ht0 : 0 < s.tabs.length) (hm : m ≤ 19900) {tn tx te : Nat} {r : List Tk} (htk : s.th.tasks = ⟨5, tn, tx, te⟩ :: r) :
    Ret Tryz.prog 33 [ptr rb] w (fun r w' => r = .tuple #[] ∧ ∃ bs τ', RP G root np tb rb nv w ow (β ++ bs) (τ ++ τ') (m + 12) (istep G root s) w') := by
  obtain ⟨hok, hnu, htb, T, h, P0, hT0⟩ := hI
  have hTe := P0.t.symm.trans htk
  subst hTe
  have hF : Fram (tg ow cmT) w w := Fram.refl _ _
  have hX : Xt w ow ow := Xt.refl _ _
  have hmr := hR.mem_r
  have hgoal : istep G root s = istep1 G root ⟨5, tn, tx, te⟩ s (s.setT { s.th with tasks := r }) := by unfold istep; rw [htk]
  have het : te ≤ s.envs.length := by have q := hT0; unfold TkI at q; exact q.1
  have hel : te ≤ β.length := by rw [hR.el]; exact het
  have heP : EP β te (epo β te) := EP.mk' hel
  have htl : s.th.tasks.length = r.length + 1 := by rw [htk]; rfl
  have hcl0 := P0.cl
  have hokP : IOK (s.setT { s.th with tasks := r }) := hok.setT hok.th
  have hP0 : 0 < (s.setT { s.th with tasks := r }).tabs.length := ht0
  have htop : ∀ i, (s.setT { s.th with tasks := r }).top i = s.top i := fun i => by unfold IS.top; rw [th_setT hcl0]
  have hclP : (s.setT { s.th with tasks := r }).cur < (s.setT { s.th with tasks := r }).ths.length := by simpa [IS.setT] using hcl0
  have hetP : te ≤ (s.setT { s.th with tasks := r }).envs.length := het
  have P : PW G root (s.setT { s.th with tasks := r }) r h := P0.pop (t := ⟨5, tn, tx, te⟩) (show (5 : Nat) ≠ 3 by decide)
  obtain ⟨-, hn, -, hf, hk, hT⟩ := hT0.inv (t := ⟨5, tn, tx, te⟩) (show (5 : Nat) ≠ 3 by decide)
  have hn : tn < G.length := hn
  have hvl : (s.setT { s.th with tasks := r }).th.vals.length = h := P.v
  have hokt : ∀ i, ok (s.setT { s.th with tasks := r }) ((s.setT { s.th with tasks := r }).top i) := fun i => IOK.getD hokP.th i
  have hnh := hokP.nh
  have hnc := hokP.nc
  have hnn := (hAG tn).1
  obtain ⟨gn, capn, ln, rfl, hN, khN, hcapn, hrow⟩ := hR.nodes hG
  obtain ⟨pn, hpn⟩ := hrow tn hn
  have hf9 : ∀ {u : World} {ow' : Nat → Nat} {m' : Nat} {s' : IS} {bs τ' : List Nat}, Xt w ow ow' → Fram (tg ow cmT) w u → RM G root np tb rb (.slice (some ⟨gn, 0, none⟩) G.length capn) u ow' (β ++ bs) (τ ++ τ') m' s' → m' ≤ m + 12 → ∃ bs τ', RP G root np tb rb (.slice (some ⟨gn, 0, none⟩) G.length capn) w ow (β ++ bs) (τ ++ τ') (m + 12) s' u := fun {_ _ _ _ bs τ'} h1 h2 h3 h4 => ⟨bs, τ', _, h1, h2, h3.le h4⟩
  have hf0 : ∀ {u : World} {ow' : Nat → Nat} {m' : Nat} {s' : IS}, Xt w ow ow' → Fram (tg ow cmT) w u → RM G root np tb rb (.slice (some ⟨gn, 0, none⟩) G.length capn) u ow' β τ m' s' → m' ≤ m + 12 → ∃ bs τ', RP G root np tb rb (.slice (some ⟨gn, 0, none⟩) G.length capn) w ow (β ++ bs) (τ ++ τ') (m + 12) s' u := fun h1 h2 h3 h4 => hf9 (bs := []) (τ' := []) h1 h2 (by rw [List.append_nil, List.append_nil]; exact h3) h4
  have hf1 : ∀ {u : World} {ow' : Nat → Nat} {m' : Nat} {s' : IS} {bs : List Nat}, Xt w ow ow' → Fram (tg ow cmT) w u → RM G root np tb rb (.slice (some ⟨gn, 0, none⟩) G.length capn) u ow' (β ++ bs) τ m' s' → m' ≤ m + 12 → ∃ bs τ', RP G root np tb rb (.slice (some ⟨gn, 0, none⟩) G.length capn) w ow (β ++ bs) (τ ++ τ') (m + 12) s' u := fun {_ _ _ _ bs} h1 h2 h3 h4 => hf9 (bs := bs) (τ' := []) h1 h2 (by rw [List.append_nil]; exact h3) h4
  have hf2 : ∀ {u : World} {ow' : Nat → Nat} {m' : Nat} {s' : IS} {b1 b2 : Nat}, Xt w ow ow' → Fram (tg ow cmT) w u → RM G root np tb rb (.slice (some ⟨gn, 0, none⟩) G.length capn) u ow' (β ++ [b1] ++ [b2]) τ m' s' → m' ≤ m + 12 → ∃ bs τ', RP G root np tb rb (.slice (some ⟨gn, 0, none⟩) G.length capn) w ow (β ++ bs) (τ ++ τ') (m + 12) s' u := fun {_ _ _ _ b1 b2} h1 h2 h3 h4 => hf9 (bs := [b1, b2]) (τ' := []) h1 h2 (by rw [List.append_nil]; rw [List.append_assoc] at h3; exact h3) h4
  refine ret_of Tryz.func33 rfl Tryz.ntmps33 rfl ?_
  refine c_seq (fun K1 hK1 => ?_)
  obtain ⟨cv, a0, a1, a2, a3, a4, gT, capT, lT, bT, tvT, vvT, hXr, hO, hlT, hcapT, hbT, hTh, hgT⟩ := hR.open
  have hB := hTh.k
  have hkb := hTh.t
  have hclT := hR.cl
  unfold rnc at hXr
  have hk70 := hR.t70
  have hbdd := hR.bdm
  refine c_pi [(0, false), (1, false), (2, false), (3, false), (4, false), (5, false), (6, false), (7, false), (8, false), (9, false), (10, false)] (SameH _) mixed (by kernel_rfl) rfl (by kernel_rfl) (po_then (po_bp)) (sameH_now _ _) ?_ -- region 0 compm.go:509
  refine pi_ro rfl (fun w hS => ro_move rfl) ?_
  refine pi_ro rfl (fun w hS => ro_nilCheck rfl) ?_
  refine pi_ro rfl (fun w hS => ro_fieldAddr (k := 5) rfl fo_112_5) ?_
  refine pi_ro rfl (fun w hS => ro_loadB rfl sc_109 (Blk.of_heap (by assumption) hS) rfl) ?_
  refine pi_ro rfl (fun w hS => ro_move rfl) ?_
  refine pi_ro rfl (fun w hS => ro_nilCheck rfl) ?_
  refine pi_ro rfl (fun w hS => ro_fieldAddr (k := 12) rfl fo_112_8) ?_
  refine pi_ro rfl (fun w hS => ro_loadB rfl sc_3 (Blk.of_heap (by assumption) hS) rfl) ?_
  refine pi_ro rfl (fun w hS => ro_indexAddr (et := 123) (k := 1) rfl rfl se_109 rfl (by omega)) ?_
  refine pi_ro rfl (fun w hS => ro_loadB rfl sc_123 (Blk.of_heap hO hS) (hlT)) ?_
  refine pi_ro rfl (fun w hS => ro_assign rfl) ?_
  refine pi_nil (x_then (hK1 _ _ ?_))
  clear hK1 K1
  refine forget [(0, _), (2, _)] ⟨rfl, rfl, trivial⟩ (fun e => ?_)
  refine c_seq (fun K2 hK2 => ?_)
  have hts0 := hTh.ts
  rw [htk] at hts0
  obtain ⟨gt, capt, lt, e1, hV, q1, q2, q3, q4⟩ := hts0.atR (tsc_len β) (j := 0) rfl
  subst e1
  obtain ⟨va, vc, rfl⟩ := hTh.vs.form
  have hrl : ((⟨5, tn, tx, te⟩ : Tk) :: r).length = r.length + 1 := rfl
  refine c_piL 13 [(0, false), (1, false), (2, false), (3, false), (4, false), (5, false), (6, false), (7, false), (8, false), (9, false), (10, false), (11, false), (12, true)] (La bT _ _ (La gt _ _ (fun _ => True))) mixed (by kernel_rfl) rfl (by kernel_rfl) (po_then (po_bp)) (⟨hB, hV, trivial⟩) ?_ -- region 1 compm.go:510
  refine ql_ro rfl (fun w hS => ro_move rfl) ?_
  refine ql_ro rfl (fun w hS => ro_nilCheck rfl) ?_
  refine ql_ro rfl (fun w hS => ro_fieldAddr (k := 3) rfl fo_126_3) ?_
  refine ql_ro rfl (fun w hS => ro_loadB rfl sc_124 (hS.1) rfl) ?_
  refine ql_ro rfl (fun w hS => ro_move rfl) ?_
  refine ql_ro rfl (fun w hS => ro_nilCheck rfl) ?_
  refine ql_ro rfl (fun w hS => ro_fieldAddr (k := 3) rfl fo_126_3) ?_
  refine ql_ro rfl (fun w hS => ro_loadB rfl sc_124 (hS.1) rfl) ?_
  refine ql_ro rfl (fun w hS => ro_lenL rfl se_124) ?_
  refine ql_ro rfl (fun w hS => ro_arith rfl rfl rfl (Go.IntWalk.i64_in _ (by omega))) ?_
  refine ql_ro rfl (fun w hS => ro_indexAddr (et := 161) (k := 4) rfl rfl se_124 ((show ((((⟨5, tn, tx, te⟩ : Tk) :: r).length : Int) - 1) = ((((⟨5, tn, tx, te⟩ : Tk) :: r).length - 1 - 0 : Nat) : Int) by omega)) ((by omega))) ?_
  refine ql_ro rfl (fun w hS => ro_loadAggB rfl ag_161 (hS.2.1) (rfl) (q4)) ?_
  refine ql_new rfl ze_161 (fun w1 F ↦ ⟨F.blkN hB, F.blkN hV, trivial⟩) ?_
  intro b3 w1 hbb3 h3 F1
  have hbsb3 := Nat.le_trans hF.size hbb3
  have hnegnb3 : gn < b3 := Nat.lt_of_lt_of_le hN.lt hbb3
  have hnegTb3 : gT < b3 := Nat.lt_of_lt_of_le hO.lt hbb3
  have hnebTb3 : bT < b3 := Nat.lt_of_lt_of_le hB.lt hbb3
  have hnerbb3 : rb < b3 := Nat.lt_of_lt_of_le hXr.lt hbb3
  have hnegtb3 : gt < b3 := Nat.lt_of_lt_of_le hV.lt hbb3
  have kh3 := hR.df b3 hbb3
  replace hF := hF.thenDrew.thenN F1
  replace hR := hR.thruN ((Fram.refl none' _).thenDrew.thenN F1)
  replace hN := F1.blkN hN
  replace hO := F1.blkN hO
  replace hB := F1.blkN hB
  replace hXr := F1.blkN hXr
  replace hV := F1.blkN hV
  refine ql_puta rfl rfl rfl ((tsc_one _ _)) sz_161 (rfl) h3 ((by simp)) ((show _ = [i64c 5, i64c tn, i64c tx, .pointer (epo β te)] from rfl)) (fun w2 h3 F2 => ?_)
  replace hF := hF.thenDrew.thenO F2 (by first | exact .inr (by omega) | exact .inl rfl | exact .inl (by assumption) | assumption)
  replace hR := hR.hbput ((Fram.refl (one b3) _).thenDrew.thenO F2 (.inl rfl))
  replace hN := F2.blkO hN (by first | omega | exact ow_ne (by assumption) (by assumption) (by omega))
  replace hO := F2.blkO hO (by first | omega | exact ow_ne (by assumption) (by assumption) (by omega))
  replace hB := F2.blkO hB (by first | omega | exact ow_ne (by assumption) (by assumption) (by omega))
  replace hXr := F2.blkO hXr (by first | omega | exact ow_ne (by assumption) (by assumption) (by omega))
  replace hV := F2.blkO hV (by first | omega | exact ow_ne (by assumption) (by assumption) (by omega))
  refine x_then (hK2 _ _ ?_)
  clear hK2 K2
  refine forget [(0, _), (2, _), (3, _)] ⟨rfl, rfl, rfl, trivial⟩ (fun e => ?_)
  refine c_seq (fun K3 hK3 => ?_)
  obtain ⟨b0, hb0⟩ : ∃ b0, b0 = bT := ⟨_, rfl⟩
  subst hb0
  have hb0 := hbT
  clear hTh hkb hlT hbT hcapT hgT hclT hk70 hB hO hXr hV q4 q3 q2 q1 hts0
  obtain ⟨cv, a0, a1, a2, a3, a4, gT, capT, lT, bT, tvT, vvT, hXr, hO, hlT, hcapT, hbT, hTh, hgT⟩ := hR.open
  have hB := hTh.k
  have hkb := hTh.t
  have hclT := hR.cl
  unfold rnc at hXr
  have hk70 := hR.t70
  have hbe : bT = b0 := Option.some.inj (hbT.symm.trans hb0)
  subst hbe
  obtain ⟨ta, tc, rfl⟩ := hTh.ts.form
  obtain ⟨va2, vc2, rfl⟩ := hTh.vs.form
  have hcapt := hTh.ts.capge
  have htr := hTh.ts.dropR (tsc_len β) 1
  rw [htl, htk] at htr
  have hmb := hX.memC (hR.mem_b hR.cl hTh.t)
  refine c_piL 14 [(0, false), (1, false), (2, false), (3, false), (4, false), (5, false), (6, false), (7, false), (8, false), (9, false), (10, false), (11, false), (12, false), (13, false)] (SameH _) mixed (by kernel_rfl) rfl (by kernel_rfl) (po_then (po_bp)) (sameH_now _ _) ?_ -- region 2 compm.go:511
  refine ql_ro rfl (fun w hS => ro_move rfl) ?_
  refine ql_ro rfl (fun w hS => ro_move rfl) ?_
  refine ql_ro rfl (fun w hS => ro_nilCheck rfl) ?_
  refine ql_ro rfl (fun w hS => ro_fieldAddr (k := 3) rfl fo_126_3) ?_
  refine ql_ro rfl (fun w hS => ro_loadB rfl sc_124 (Blk.of_heap (by assumption) hS) rfl) ?_
  refine ql_ro rfl (fun w hS => ro_move rfl) ?_
  refine ql_ro rfl (fun w hS => ro_nilCheck rfl) ?_
  refine ql_ro rfl (fun w hS => ro_fieldAddr (k := 3) rfl fo_126_3) ?_
  refine ql_ro rfl (fun w hS => ro_loadB rfl sc_124 (Blk.of_heap (by assumption) hS) rfl) ?_
  refine ql_ro rfl (fun w hS => ro_lenL rfl se_124) ?_
  refine ql_ro rfl (fun w hS => ro_arith rfl rfl rfl (Go.IntWalk.i64_in _ (by omega))) ?_
  refine ql_ro rfl (fun w hS => ro_sliceH (h := r.length) rfl rfl se_124 (by omega) (by omega)) ?_
  refine ql_ro rfl (fun w hS => ro_nilCheck rfl) ?_
  refine ql_ro rfl (fun w hS => ro_fieldAddr (k := 3) rfl fo_126_3) ?_
  refine ql_put rfl rfl rfl rfl sz_124 hB ((by simp)) (rfl) (fun w3 hB F3 => ?_)
  replace hF := hF.thenDrew.thenO F3 (by first | exact .inr (by omega) | exact .inl rfl | exact .inl (by assumption) | assumption)
  replace hN := F3.blkO hN (by first | omega | exact ow_ne (by assumption) (by assumption) (by omega))
  replace h3 := F3.blkO h3 (by first | omega | exact ow_ne (by assumption) (by assumption) (by omega))
  replace hO := F3.blkO hO (by first | omega | exact ow_ne (by assumption) (by assumption) (by omega))
  replace hXr := F3.blkO hXr (by first | omega | exact ow_ne (by assumption) (by assumption) (by omega))
  have hR2 := hR.thr' (y := { s.th with tasks := r }) hbT hTh.t htr hTh.vs ((Fram.refl (one bT) _).thenDrew.thenO F3 (.inl rfl)) hB (fun z hz => hR.tem z (by rw [htk]; exact List.mem_cons_of_mem _ hz)) (by have := hR.bdm; rw [htl] at this; exact ⟨by show r.length ≤ m; omega, this.2⟩)
  replace hR := hR2
  obtain ⟨b0, hb1⟩ : ∃ b0, b0 = bT := ⟨_, rfl⟩
  subst hb1
  have hb0 : τ[(s.setT { s.th with tasks := r }).cur]? = some b0 := hbT
  clear hTh hkb hlT hbT hcapT hgT hclT hk70 hB hO hXr htr hmb hcapt hbdd
  generalize hsP : s.setT { s.th with tasks := r } = sP at *
  have hbdP := hR.bdm
  refine x_then (hK3 _ _ ?_)
  clear hK3 K3
  refine forget [(0, _), (2, _), (3, _)] ⟨rfl, rfl, rfl, trivial⟩ (fun e => ?_)
  refine c_seq (fun K4 hK4 => ?_)
  refine c_reg ?_ -- region 3 compm.go:512
  refine wl_new (ze_148) (fun b4 w4 hbb4 h4 F4 => ?_)
  have hbsb4 := Nat.le_trans hF.size hbb4
  have hnegnb4 : gn < b4 := Nat.lt_of_lt_of_le hN.lt hbb4
  have hneb3b4 : b3 < b4 := Nat.lt_of_lt_of_le h3.lt hbb4
  have kh4 := hR.df b4 hbb4
  replace hF := hF.thenDrew.thenN F4
  replace hN := F4.blkN hN
  replace h3 := F4.blkN h3
  replace hR := hR.thruN ((Fram.refl none' _).thenDrew.thenN F4)
  refine wl_nil (x_then (hK4 _ _ ?_))
  clear hK4 K4
  refine c_seq (fun K5 hK5 => ?_)
  refine c_seq (fun K6 hK6 => ?_)
  refine c_reg ?_ -- region 4 compm.go:513
  refine wl (ro_fieldAddr (k := 0) rfl fo_161_0) ?_
  refine wl (ro_loadB rfl sc_3 (by assumption) rfl) ?_
  refine wl (ro_cmp rfl rfl rfl) ?_
  refine wl_nil (x_then (hK6 _ _ ?_))
  clear hK6 K6
  refine wc_condT rfl ?_
  obtain ⟨cv, hv_, a0, a1, a2, a3, a4, hXr, hq2, hq3, hq4⟩ := hR.r
  unfold rnc at hXr
  have hk70 := hR.t70
  refine c_piL 8 [(0, false), (1, false), (2, false), (3, false), (4, false), (5, false), (6, false), (7, false)] (SameH _) mixed (by kernel_rfl) rfl (by kernel_rfl) (po_then (po_bp)) (sameH_now _ _) ?_ -- region 5 compm.go:514
  refine ql_ro rfl (fun w hS => ro_move rfl) ?_
  refine ql_ro rfl (fun w hS => ro_nilCheck rfl) ?_
  refine ql_ro rfl (fun w hS => ro_fieldAddr (k := 2) rfl fo_112_2) ?_
  refine ql_ro rfl (fun w hS => ro_loadB rfl sc_77 (Blk.of_heap (by assumption) hS) rfl) ?_
  refine ql_ro rfl (fun w hS => ro_fieldAddr (k := 1) rfl fo_161_1) ?_
  refine ql_ro rfl (fun w hS => ro_loadB rfl sc_3 (Blk.of_heap (by assumption) hS) rfl) ?_
  refine ql_ro rfl (fun w hS => ro_indexAddr (et := 148) (k := 8) rfl rfl se_77 (rfl) (hn)) ?_
  refine ql_ro rfl (fun w hS => ro_loadAggB rfl ag_148 (Blk.of_heap hN hS) (rfl) (hpn)) ?_
  refine ql_puta rfl rfl rfl ((ndc_one _)) sz_148 (rfl) h4 ((by simp)) ((show _ = ndc (nd G tn, pn) from rfl)) (fun w5 h4 F5 => ?_)
  replace hF := hF.thenDrew.thenO F5 (by first | exact .inr (by omega) | exact .inl rfl | exact .inl (by assumption) | assumption)
  replace hN := F5.blkO hN (by first | omega | exact ow_ne (by assumption) (by assumption) (by omega))
  replace h3 := F5.blkO h3 (by first | omega | exact ow_ne (by assumption) (by assumption) (by omega))
  replace hR := hR.hbput ((Fram.refl (one b4) _).thenDrew.thenO F5 (.inl rfl))
  replace hXr := F5.blkO hXr (by first | omega | exact ow_ne (by assumption) (by assumption) (by omega))
  refine x_then (hK5 _ _ ?_)
  clear hK5 K5
  refine forget [(0, _), (2, _), (3, _), (4, _)] ⟨rfl, rfl, rfl, rfl, trivial⟩ (fun e => ?_)
  refine c_seq (fun K7 hK7 => ?_)
  have hf : flT r + 1 ≤ h := hf
  refine c_reg ?_ -- region 6 compm.go:516
  refine wl (ro_fieldAddr (k := 0) rfl fo_161_0) ?_
  refine wl (ro_loadB rfl sc_3 (by assumption) rfl) ?_
  refine wl_nil (x_then (hK7 _ _ ?_))
  clear hK7 K7
  refine c_block ?_
  refine forget [(0, _), (2, _), (3, _), (4, _), (92, _)] ⟨rfl, rfl, rfl, rfl, rfl, trivial⟩ (fun e => ?_)
  refine c_seq (fun K8 hK8 => ?_)
  refine c_reg ?_ -- region 7 compm.go:517
  refine wl (ro_cmp rfl rfl rfl) ?_
  refine wl (ro_assign rfl) ?_
  refine wl_nil (x_then (hK8 _ _ ?_))
  clear hK8 K8
  refine wc_condF rfl ?_
  refine c_seq (fun K9 hK9 => ?_)
  refine c_reg ?_ -- region 10 compm.go:521
  refine wl (ro_cmp rfl rfl rfl) ?_
  refine wl (ro_assign rfl) ?_
  refine wl_nil (x_then (hK9 _ _ ?_))
  clear hK9 K9
  refine wc_condF rfl ?_
  refine c_seq (fun K10 hK10 => ?_)
  refine c_reg ?_ -- region 12 compm.go:523
  refine wl (ro_cmp rfl rfl rfl) ?_
  refine wl (ro_assign rfl) ?_
  refine wl_nil (x_then (hK10 _ _ ?_))
  clear hK10 K10
  refine wc_condF rfl ?_
  refine c_seq (fun K11 hK11 => ?_)
  refine c_reg ?_ -- region 15 compm.go:526
  refine wl (ro_cmp rfl rfl rfl) ?_
  refine wl (ro_assign rfl) ?_
  refine wl_nil (x_then (hK11 _ _ ?_))
  clear hK11 K11
  refine wc_condF rfl ?_
  refine c_seq (fun K12 hK12 => ?_)
  refine c_reg ?_ -- region 16 compm.go:527
  refine wl (ro_cmp rfl rfl rfl) ?_
  refine wl (ro_assign rfl) ?_
  refine wl_nil (x_then (hK12 _ _ ?_))
  clear hK12 K12
  refine wc_condT rfl ?_
  refine c_reg ?_ -- region 17 compm.go:528
  refine wl (ro_move rfl) ?_
  refine wl_call rfl en_59 (pop59 hR.dr (by omega) (by omega)) ?_
  rintro _ u6 ⟨rfl, ow6, x6, f6, r6⟩
  obtain ⟨hN, khN⟩ := cm_loc x6 f6 hN khN
  obtain ⟨h3, kh3⟩ := cm_loc x6 f6 h3 kh3
  obtain ⟨h4, kh4⟩ := cm_loc x6 f6 h4 kh4
  have hs6 := hF.size
  replace hF := cm_trans hX hF f6
  replace hX := hX.trans hs6 x6
  replace hR := r6
  refine wl_nil (x_blk ?_)
  refine bp_end Tryz.results33 rfl ?_
  refine ⟨rfl, ?_⟩
  rw [hgoal]
  unfold istep1
  simp only [Nat.reduceEqDiff, reduceIte]
  try rw [hmod]
  try simp only [hnx]
  try rw [hlen7]
  try rw [hlen8]
  try (rw [burn_if (by exact P.b.dn)]; first | rw [if_pos (by exact hfu)] | rw [if_neg (by exact hfu)])
  repeat (first | rw [if_pos (by first | assumption | omega)] | rw [if_neg (by first | assumption | omega)])
  first
  | exact hf0 hX hF hR (by omega)
  | exact hf1 hX hF hR (by omega)
  | exact hf2 hX hF hR (by omega)
  | exact hf9 hX hF hR (by omega)

set_option maxHeartbeats 8000000 in
theorem step33_6 {G : Arena} {root : Nat} {np : Value} {tb rb : Nat} {nv : Value} {w : World} {ow : Nat → Nat} {β τ : List Nat} {m : Nat} {s : IS} (hR : RM G root np tb rb nv w ow β τ m s) (hG : 0 < G.length) (hAG : AOK G) (h0K : (nd G 0).K = 0) (hI : IA G root s) (ht0 : 0 < s.tabs.length) (hm : m ≤ 19900) {tn tx te : Nat} {r : List Tk} (htk : s.th.tasks = ⟨6, tn, tx, te⟩ :: r) :
    Ret Tryz.prog 33 [ptr rb] w (fun r w' => r = .tuple #[] ∧ ∃ bs τ', RP G root np tb rb nv w ow (β ++ bs) (τ ++ τ') (m + 12) (istep G root s) w') := by
  obtain ⟨hok, hnu, htb, T, h, P0, hT0⟩ := hI
  have hTe := P0.t.symm.trans htk
  subst hTe
  have hF : Fram (tg ow cmT) w w := Fram.refl _ _
  have hX : Xt w ow ow := Xt.refl _ _
  have hmr := hR.mem_r
  have hgoal : istep G root s = istep1 G root ⟨6, tn, tx, te⟩ s (s.setT { s.th with tasks := r }) := by unfold istep; rw [htk]
  have het : te ≤ s.envs.length := by have q := hT0; unfold TkI at q; exact q.1
  have hel : te ≤ β.length := by rw [hR.el]; exact het
  have heP : EP β te (epo β te) := EP.mk' hel
  have htl : s.th.tasks.length = r.length + 1 := by rw [htk]; rfl
  have hcl0 := P0.cl
  have hokP : IOK (s.setT { s.th with tasks := r }) := hok.setT hok.th
  have hP0 : 0 < (s.setT { s.th with tasks := r }).tabs.length := ht0
  have htop : ∀ i, (s.setT { s.th with tasks := r }).top i = s.top i := fun i => by unfold IS.top; rw [th_setT hcl0]
  have hclP : (s.setT { s.th with tasks := r }).cur < (s.setT { s.th with tasks := r }).ths.length := by simpa [IS.setT] using hcl0
  have hetP : te ≤ (s.setT { s.th with tasks := r }).envs.length := het
  have P : PW G root (s.setT { s.th with tasks := r }) r h := P0.pop (t := ⟨6, tn, tx, te⟩) (show (6 : Nat) ≠ 3 by decide)
  obtain ⟨-, hn, -, hf, hk, hT⟩ := hT0.inv (t := ⟨6, tn, tx, te⟩) (show (6 : Nat) ≠ 3 by decide)
  have hn : tn < G.length := hn
  have hvl : (s.setT { s.th with tasks := r }).th.vals.length = h := P.v
  have hokt : ∀ i, ok (s.setT { s.th with tasks := r }) ((s.setT { s.th with tasks := r }).top i) := fun i => IOK.getD hokP.th i
  have hnh := hokP.nh
  have hnc := hokP.nc
  have hnn := (hAG tn).1
  obtain ⟨gn, capn, ln, rfl, hN, khN, hcapn, hrow⟩ := hR.nodes hG
  obtain ⟨pn, hpn⟩ := hrow tn hn
  have hf9 : ∀ {u : World} {ow' : Nat → Nat} {m' : Nat} {s' : IS} {bs τ' : List Nat}, Xt w ow ow' → Fram (tg ow cmT) w u → RM G root np tb rb (.slice (some ⟨gn, 0, none⟩) G.length capn) u ow' (β ++ bs) (τ ++ τ') m' s' → m' ≤ m + 12 → ∃ bs τ', RP G root np tb rb (.slice (some ⟨gn, 0, none⟩) G.length capn) w ow (β ++ bs) (τ ++ τ') (m + 12) s' u := fun {_ _ _ _ bs τ'} h1 h2 h3 h4 => ⟨bs, τ', _, h1, h2, h3.le h4⟩
  have hf0 : ∀ {u : World} {ow' : Nat → Nat} {m' : Nat} {s' : IS}, Xt w ow ow' → Fram (tg ow cmT) w u → RM G root np tb rb (.slice (some ⟨gn, 0, none⟩) G.length capn) u ow' β τ m' s' → m' ≤ m + 12 → ∃ bs τ', RP G root np tb rb (.slice (some ⟨gn, 0, none⟩) G.length capn) w ow (β ++ bs) (τ ++ τ') (m + 12) s' u := fun h1 h2 h3 h4 => hf9 (bs := []) (τ' := []) h1 h2 (by rw [List.append_nil, List.append_nil]; exact h3) h4
  have hf1 : ∀ {u : World} {ow' : Nat → Nat} {m' : Nat} {s' : IS} {bs : List Nat}, Xt w ow ow' → Fram (tg ow cmT) w u → RM G root np tb rb (.slice (some ⟨gn, 0, none⟩) G.length capn) u ow' (β ++ bs) τ m' s' → m' ≤ m + 12 → ∃ bs τ', RP G root np tb rb (.slice (some ⟨gn, 0, none⟩) G.length capn) w ow (β ++ bs) (τ ++ τ') (m + 12) s' u := fun {_ _ _ _ bs} h1 h2 h3 h4 => hf9 (bs := bs) (τ' := []) h1 h2 (by rw [List.append_nil]; exact h3) h4
  have hf2 : ∀ {u : World} {ow' : Nat → Nat} {m' : Nat} {s' : IS} {b1 b2 : Nat}, Xt w ow ow' → Fram (tg ow cmT) w u → RM G root np tb rb (.slice (some ⟨gn, 0, none⟩) G.length capn) u ow' (β ++ [b1] ++ [b2]) τ m' s' → m' ≤ m + 12 → ∃ bs τ', RP G root np tb rb (.slice (some ⟨gn, 0, none⟩) G.length capn) w ow (β ++ bs) (τ ++ τ') (m + 12) s' u := fun {_ _ _ _ b1 b2} h1 h2 h3 h4 => hf9 (bs := [b1, b2]) (τ' := []) h1 h2 (by rw [List.append_nil]; rw [List.append_assoc] at h3; exact h3) h4
  refine ret_of Tryz.func33 rfl Tryz.ntmps33 rfl ?_
  refine c_seq (fun K1 hK1 => ?_)
  obtain ⟨cv, a0, a1, a2, a3, a4, gT, capT, lT, bT, tvT, vvT, hXr, hO, hlT, hcapT, hbT, hTh, hgT⟩ := hR.open
  have hB := hTh.k
  have hkb := hTh.t
  have hclT := hR.cl
  unfold rnc at hXr
  have hk70 := hR.t70
  have hbdd := hR.bdm
  refine c_pi [(0, false), (1, false), (2, false), (3, false), (4, false), (5, false), (6, false), (7, false), (8, false), (9, false), (10, false)] (SameH _) mixed (by kernel_rfl) rfl (by kernel_rfl) (po_then (po_bp)) (sameH_now _ _) ?_ -- region 0 compm.go:509
  refine pi_ro rfl (fun w hS => ro_move rfl) ?_
  refine pi_ro rfl (fun w hS => ro_nilCheck rfl) ?_
  refine pi_ro rfl (fun w hS => ro_fieldAddr (k := 5) rfl fo_112_5) ?_
  refine pi_ro rfl (fun w hS => ro_loadB rfl sc_109 (Blk.of_heap (by assumption) hS) rfl) ?_
  refine pi_ro rfl (fun w hS => ro_move rfl) ?_
  refine pi_ro rfl (fun w hS => ro_nilCheck rfl) ?_
  refine pi_ro rfl (fun w hS => ro_fieldAddr (k := 12) rfl fo_112_8) ?_
  refine pi_ro rfl (fun w hS => ro_loadB rfl sc_3 (Blk.of_heap (by assumption) hS) rfl) ?_
  refine pi_ro rfl (fun w hS => ro_indexAddr (et := 123) (k := 1) rfl rfl se_109 rfl (by omega)) ?_
  refine pi_ro rfl (fun w hS => ro_loadB rfl sc_123 (Blk.of_heap hO hS) (hlT)) ?_
  refine pi_ro rfl (fun w hS => ro_assign rfl) ?_
  refine pi_nil (x_then (hK1 _ _ ?_))
  clear hK1 K1
  refine forget [(0, _), (2, _)] ⟨rfl, rfl, trivial⟩ (fun e => ?_)
  refine c_seq (fun K2 hK2 => ?_)
  have hts0 := hTh.ts
  rw [htk] at hts0
  obtain ⟨gt, capt, lt, e1, hV, q1, q2, q3, q4⟩ := hts0.atR (tsc_len β) (j := 0) rfl
  subst e1
  obtain ⟨va, vc, rfl⟩ := hTh.vs.form
  have hrl : ((⟨6, tn, tx, te⟩ : Tk) :: r).length = r.length + 1 := rfl
  refine c_piL 13 [(0, false), (1, false), (2, false), (3, false), (4, false), (5, false), (6, false), (7, false), (8, false), (9, false), (10, false), (11, false), (12, true)] (La bT _ _ (La gt _ _ (fun _ => True))) mixed (by kernel_rfl) rfl (by kernel_rfl) (po_then (po_bp)) (⟨hB, hV, trivial⟩) ?_ -- region 1 compm.go:510
  refine ql_ro rfl (fun w hS => ro_move rfl) ?_
  refine ql_ro rfl (fun w hS => ro_nilCheck rfl) ?_
  refine ql_ro rfl (fun w hS => ro_fieldAddr (k := 3) rfl fo_126_3) ?_
  refine ql_ro rfl (fun w hS => ro_loadB rfl sc_124 (hS.1) rfl) ?_
  refine ql_ro rfl (fun w hS => ro_move rfl) ?_
  refine ql_ro rfl (fun w hS => ro_nilCheck rfl) ?_
  refine ql_ro rfl (fun w hS => ro_fieldAddr (k := 3) rfl fo_126_3) ?_
  refine ql_ro rfl (fun w hS => ro_loadB rfl sc_124 (hS.1) rfl) ?_
  refine ql_ro rfl (fun w hS => ro_lenL rfl se_124) ?_
  refine ql_ro rfl (fun w hS => ro_arith rfl rfl rfl (Go.IntWalk.i64_in _ (by omega))) ?_
  refine ql_ro rfl (fun w hS => ro_indexAddr (et := 161) (k := 4) rfl rfl se_124 ((show ((((⟨6, tn, tx, te⟩ : Tk) :: r).length : Int) - 1) = ((((⟨6, tn, tx, te⟩ : Tk) :: r).length - 1 - 0 : Nat) : Int) by omega)) ((by omega))) ?_
  refine ql_ro rfl (fun w hS => ro_loadAggB rfl ag_161 (hS.2.1) (rfl) (q4)) ?_
  refine ql_new rfl ze_161 (fun w1 F ↦ ⟨F.blkN hB, F.blkN hV, trivial⟩) ?_
  intro b3 w1 hbb3 h3 F1
  have hbsb3 := Nat.le_trans hF.size hbb3
  have hnegnb3 : gn < b3 := Nat.lt_of_lt_of_le hN.lt hbb3
  have hnegTb3 : gT < b3 := Nat.lt_of_lt_of_le hO.lt hbb3
  have hnebTb3 : bT < b3 := Nat.lt_of_lt_of_le hB.lt hbb3
  have hnerbb3 : rb < b3 := Nat.lt_of_lt_of_le hXr.lt hbb3
  have hnegtb3 : gt < b3 := Nat.lt_of_lt_of_le hV.lt hbb3
  have kh3 := hR.df b3 hbb3
  replace hF := hF.thenDrew.thenN F1
  replace hR := hR.thruN ((Fram.refl none' _).thenDrew.thenN F1)
  replace hN := F1.blkN hN
  replace hO := F1.blkN hO
  replace hB := F1.blkN hB
  replace hXr := F1.blkN hXr
  replace hV := F1.blkN hV
  refine ql_puta rfl rfl rfl ((tsc_one _ _)) sz_161 (rfl) h3 ((by simp)) ((show _ = [i64c 6, i64c tn, i64c tx, .pointer (epo β te)] from rfl)) (fun w2 h3 F2 => ?_)
  replace hF := hF.thenDrew.thenO F2 (by first | exact .inr (by omega) | exact .inl rfl | exact .inl (by assumption) | assumption)
  replace hR := hR.hbput ((Fram.refl (one b3) _).thenDrew.thenO F2 (.inl rfl))
  replace hN := F2.blkO hN (by first | omega | exact ow_ne (by assumption) (by assumption) (by omega))
  replace hO := F2.blkO hO (by first | omega | exact ow_ne (by assumption) (by assumption) (by omega))
  replace hB := F2.blkO hB (by first | omega | exact ow_ne (by assumption) (by assumption) (by omega))
  replace hXr := F2.blkO hXr (by first | omega | exact ow_ne (by assumption) (by assumption) (by omega))
  replace hV := F2.blkO hV (by first | omega | exact ow_ne (by assumption) (by assumption) (by omega))
  refine x_then (hK2 _ _ ?_)
  clear hK2 K2
  refine forget [(0, _), (2, _), (3, _)] ⟨rfl, rfl, rfl, trivial⟩ (fun e => ?_)
  refine c_seq (fun K3 hK3 => ?_)
  obtain ⟨b0, hb0⟩ : ∃ b0, b0 = bT := ⟨_, rfl⟩
  subst hb0
  have hb0 := hbT
  clear hTh hkb hlT hbT hcapT hgT hclT hk70 hB hO hXr hV q4 q3 q2 q1 hts0
  obtain ⟨cv, a0, a1, a2, a3, a4, gT, capT, lT, bT, tvT, vvT, hXr, hO, hlT, hcapT, hbT, hTh, hgT⟩ := hR.open
  have hB := hTh.k
  have hkb := hTh.t
  have hclT := hR.cl
  unfold rnc at hXr
  have hk70 := hR.t70
  have hbe : bT = b0 := Option.some.inj (hbT.symm.trans hb0)
  subst hbe
  obtain ⟨ta, tc, rfl⟩ := hTh.ts.form
  obtain ⟨va2, vc2, rfl⟩ := hTh.vs.form
  have hcapt := hTh.ts.capge
  have htr := hTh.ts.dropR (tsc_len β) 1
  rw [htl, htk] at htr
  have hmb := hX.memC (hR.mem_b hR.cl hTh.t)
  refine c_piL 14 [(0, false), (1, false), (2, false), (3, false), (4, false), (5, false), (6, false), (7, false), (8, false), (9, false), (10, false), (11, false), (12, false), (13, false)] (SameH _) mixed (by kernel_rfl) rfl (by kernel_rfl) (po_then (po_bp)) (sameH_now _ _) ?_ -- region 2 compm.go:511
  refine ql_ro rfl (fun w hS => ro_move rfl) ?_
  refine ql_ro rfl (fun w hS => ro_move rfl) ?_
  refine ql_ro rfl (fun w hS => ro_nilCheck rfl) ?_
  refine ql_ro rfl (fun w hS => ro_fieldAddr (k := 3) rfl fo_126_3) ?_
  refine ql_ro rfl (fun w hS => ro_loadB rfl sc_124 (Blk.of_heap (by assumption) hS) rfl) ?_
  refine ql_ro rfl (fun w hS => ro_move rfl) ?_
  refine ql_ro rfl (fun w hS => ro_nilCheck rfl) ?_
  refine ql_ro rfl (fun w hS => ro_fieldAddr (k := 3) rfl fo_126_3) ?_
  refine ql_ro rfl (fun w hS => ro_loadB rfl sc_124 (Blk.of_heap (by assumption) hS) rfl) ?_
  refine ql_ro rfl (fun w hS => ro_lenL rfl se_124) ?_
  refine ql_ro rfl (fun w hS => ro_arith rfl rfl rfl (Go.IntWalk.i64_in _ (by omega))) ?_
  refine ql_ro rfl (fun w hS => ro_sliceH (h := r.length) rfl rfl se_124 (by omega) (by omega)) ?_
  refine ql_ro rfl (fun w hS => ro_nilCheck rfl) ?_
  refine ql_ro rfl (fun w hS => ro_fieldAddr (k := 3) rfl fo_126_3) ?_
  refine ql_put rfl rfl rfl rfl sz_124 hB ((by simp)) (rfl) (fun w3 hB F3 => ?_)
  replace hF := hF.thenDrew.thenO F3 (by first | exact .inr (by omega) | exact .inl rfl | exact .inl (by assumption) | assumption)
  replace hN := F3.blkO hN (by first | omega | exact ow_ne (by assumption) (by assumption) (by omega))
  replace h3 := F3.blkO h3 (by first | omega | exact ow_ne (by assumption) (by assumption) (by omega))
  replace hO := F3.blkO hO (by first | omega | exact ow_ne (by assumption) (by assumption) (by omega))
  replace hXr := F3.blkO hXr (by first | omega | exact ow_ne (by assumption) (by assumption) (by omega))
  have hR2 := hR.thr' (y := { s.th with tasks := r }) hbT hTh.t htr hTh.vs ((Fram.refl (one bT) _).thenDrew.thenO F3 (.inl rfl)) hB (fun z hz => hR.tem z (by rw [htk]; exact List.mem_cons_of_mem _ hz)) (by have := hR.bdm; rw [htl] at this; exact ⟨by show r.length ≤ m; omega, this.2⟩)
  replace hR := hR2
  obtain ⟨b0, hb1⟩ : ∃ b0, b0 = bT := ⟨_, rfl⟩
  subst hb1
  have hb0 : τ[(s.setT { s.th with tasks := r }).cur]? = some b0 := hbT
  clear hTh hkb hlT hbT hcapT hgT hclT hk70 hB hO hXr htr hmb hcapt hbdd
  generalize hsP : s.setT { s.th with tasks := r } = sP at *
  have hbdP := hR.bdm
  refine x_then (hK3 _ _ ?_)
  clear hK3 K3
  refine forget [(0, _), (2, _), (3, _)] ⟨rfl, rfl, rfl, trivial⟩ (fun e => ?_)
  refine c_seq (fun K4 hK4 => ?_)
  refine c_reg ?_ -- region 3 compm.go:512
  refine wl_new (ze_148) (fun b4 w4 hbb4 h4 F4 => ?_)
  have hbsb4 := Nat.le_trans hF.size hbb4
  have hnegnb4 : gn < b4 := Nat.lt_of_lt_of_le hN.lt hbb4
  have hneb3b4 : b3 < b4 := Nat.lt_of_lt_of_le h3.lt hbb4
  have kh4 := hR.df b4 hbb4
  replace hF := hF.thenDrew.thenN F4
  replace hN := F4.blkN hN
  replace h3 := F4.blkN h3
  replace hR := hR.thruN ((Fram.refl none' _).thenDrew.thenN F4)
  refine wl_nil (x_then (hK4 _ _ ?_))
  clear hK4 K4
  refine c_seq (fun K5 hK5 => ?_)
  refine c_seq (fun K6 hK6 => ?_)
  refine c_reg ?_ -- region 4 compm.go:513
  refine wl (ro_fieldAddr (k := 0) rfl fo_161_0) ?_
  refine wl (ro_loadB rfl sc_3 (by assumption) rfl) ?_
  refine wl (ro_cmp rfl rfl rfl) ?_
  refine wl_nil (x_then (hK6 _ _ ?_))
  clear hK6 K6
  refine wc_condT rfl ?_
  obtain ⟨cv, hv_, a0, a1, a2, a3, a4, hXr, hq2, hq3, hq4⟩ := hR.r
  unfold rnc at hXr
  have hk70 := hR.t70
  refine c_piL 8 [(0, false), (1, false), (2, false), (3, false), (4, false), (5, false), (6, false), (7, false)] (SameH _) mixed (by kernel_rfl) rfl (by kernel_rfl) (po_then (po_bp)) (sameH_now _ _) ?_ -- region 5 compm.go:514
  refine ql_ro rfl (fun w hS => ro_move rfl) ?_
  refine ql_ro rfl (fun w hS => ro_nilCheck rfl) ?_
  refine ql_ro rfl (fun w hS => ro_fieldAddr (k := 2) rfl fo_112_2) ?_
  refine ql_ro rfl (fun w hS => ro_loadB rfl sc_77 (Blk.of_heap (by assumption) hS) rfl) ?_
  refine ql_ro rfl (fun w hS => ro_fieldAddr (k := 1) rfl fo_161_1) ?_
  refine ql_ro rfl (fun w hS => ro_loadB rfl sc_3 (Blk.of_heap (by assumption) hS) rfl) ?_
  refine ql_ro rfl (fun w hS => ro_indexAddr (et := 148) (k := 8) rfl rfl se_77 (rfl) (hn)) ?_
  refine ql_ro rfl (fun w hS => ro_loadAggB rfl ag_148 (Blk.of_heap hN hS) (rfl) (hpn)) ?_
  refine ql_puta rfl rfl rfl ((ndc_one _)) sz_148 (rfl) h4 ((by simp)) ((show _ = ndc (nd G tn, pn) from rfl)) (fun w5 h4 F5 => ?_)
  replace hF := hF.thenDrew.thenO F5 (by first | exact .inr (by omega) | exact .inl rfl | exact .inl (by assumption) | assumption)
  replace hN := F5.blkO hN (by first | omega | exact ow_ne (by assumption) (by assumption) (by omega))
  replace h3 := F5.blkO h3 (by first | omega | exact ow_ne (by assumption) (by assumption) (by omega))
  replace hR := hR.hbput ((Fram.refl (one b4) _).thenDrew.thenO F5 (.inl rfl))
  replace hXr := F5.blkO hXr (by first | omega | exact ow_ne (by assumption) (by assumption) (by omega))
  refine x_then (hK5 _ _ ?_)
  clear hK5 K5
  refine forget [(0, _), (2, _), (3, _), (4, _)] ⟨rfl, rfl, rfl, rfl, trivial⟩ (fun e => ?_)
  refine c_seq (fun K7 hK7 => ?_)
  have helP : β.length = sP.envs.length := hR.el
  have hlen7 : (inew (nd G tn).S (sP.top 0) te (idrop 1 sP)).last = β.length + 1 := by show (inew (nd G tn).S (sP.top 0) te (idrop 1 sP)).envs.length = _; rw [new_len, helP]; rfl
  have hf : flT r + 1 ≤ h := hf
  refine c_reg ?_ -- region 6 compm.go:516
  refine wl (ro_fieldAddr (k := 0) rfl fo_161_0) ?_
  refine wl (ro_loadB rfl sc_3 (by assumption) rfl) ?_
  refine wl_nil (x_then (hK7 _ _ ?_))
  clear hK7 K7
  refine c_block ?_
  refine forget [(0, _), (2, _), (3, _), (4, _), (92, _)] ⟨rfl, rfl, rfl, rfl, rfl, trivial⟩ (fun e => ?_)
  refine c_seq (fun K8 hK8 => ?_)
  refine c_reg ?_ -- region 7 compm.go:517
  refine wl (ro_cmp rfl rfl rfl) ?_
  refine wl (ro_assign rfl) ?_
  refine wl_nil (x_then (hK8 _ _ ?_))
  clear hK8 K8
  refine wc_condF rfl ?_
  refine c_seq (fun K9 hK9 => ?_)
  refine c_reg ?_ -- region 10 compm.go:521
  refine wl (ro_cmp rfl rfl rfl) ?_
  refine wl (ro_assign rfl) ?_
  refine wl_nil (x_then (hK9 _ _ ?_))
  clear hK9 K9
  refine wc_condF rfl ?_
  refine c_seq (fun K10 hK10 => ?_)
  refine c_reg ?_ -- region 12 compm.go:523
  refine wl (ro_cmp rfl rfl rfl) ?_
  refine wl (ro_assign rfl) ?_
  refine wl_nil (x_then (hK10 _ _ ?_))
  clear hK10 K10
  refine wc_condF rfl ?_
  refine c_seq (fun K11 hK11 => ?_)
  refine c_reg ?_ -- region 15 compm.go:526
  refine wl (ro_cmp rfl rfl rfl) ?_
  refine wl (ro_assign rfl) ?_
  refine wl_nil (x_then (hK11 _ _ ?_))
  clear hK11 K11
  refine wc_condF rfl ?_
  refine c_seq (fun K12 hK12 => ?_)
  refine c_reg ?_ -- region 16 compm.go:527
  refine wl (ro_cmp rfl rfl rfl) ?_
  refine wl (ro_assign rfl) ?_
  refine wl_nil (x_then (hK12 _ _ ?_))
  clear hK12 K12
  refine wc_condF rfl ?_
  refine c_seq (fun K13 hK13 => ?_)
  refine c_reg ?_ -- region 18 compm.go:529
  refine wl (ro_cmp rfl rfl rfl) ?_
  refine wl (ro_assign rfl) ?_
  refine wl_nil (x_then (hK13 _ _ ?_))
  clear hK13 K13
  refine wc_condT rfl ?_
  refine c_seq (fun K14 hK14 => ?_)
  refine c_reg ?_ -- region 19 compm.go:530
  refine wl (ro_move rfl) ?_
  refine wl_call rfl en_59 (pop59 hR.dr (by omega) (by omega)) ?_
  rintro _ u6 ⟨rfl, ow6, x6, f6, r6⟩
  obtain ⟨hN, khN⟩ := cm_loc x6 f6 hN khN
  obtain ⟨h3, kh3⟩ := cm_loc x6 f6 h3 kh3
  obtain ⟨h4, kh4⟩ := cm_loc x6 f6 h4 kh4
  have hs6 := hF.size
  replace hF := cm_trans hX hF f6
  replace hX := hX.trans hs6 x6
  replace hR := r6
  refine wl_new (ze_119) (fun b5 w7 hbb5 h5 F7 => ?_)
  have hbsb5 := Nat.le_trans hF.size hbb5
  have hnegnb5 : gn < b5 := Nat.lt_of_lt_of_le hN.lt hbb5
  have hneb3b5 : b3 < b5 := Nat.lt_of_lt_of_le h3.lt hbb5
  have hneb4b5 : b4 < b5 := Nat.lt_of_lt_of_le h4.lt hbb5
  have kh5 := hR.df b5 hbb5
  replace hF := hF.thenDrew.thenN F7
  replace hN := F7.blkN hN
  replace h3 := F7.blkN h3
  replace hR := hR.thruN ((Fram.refl none' _).thenDrew.thenN F7)
  replace h4 := F7.blkN h4
  refine wl_puta rfl rfl ((pvc_one _)) sz_119 (rfl) h5 ((by simp)) ((show _ = pvc (sP.top 0) from rfl)) (fun w8 h5 F8 => ?_)
  replace hF := hF.thenDrew.thenO F8 (by first | exact .inr (by omega) | exact .inl rfl | exact .inl (by assumption) | assumption)
  replace hN := F8.blkO hN (by first | omega | exact ow_ne (by assumption) (by assumption) (by omega))
  replace h3 := F8.blkO h3 (by first | omega | exact ow_ne (by assumption) (by assumption) (by omega))
  replace hR := hR.hbput ((Fram.refl (one b5) _).thenDrew.thenO F8 (.inl rfl))
  replace h4 := F8.blkO h4 (by first | omega | exact ow_ne (by assumption) (by assumption) (by omega))
  refine wl_nil (x_then (hK14 _ _ ?_))
  clear hK14 K14
  refine c_reg ?_ -- region 20 compm.go:531
  refine wl (ro_move rfl) ?_
  refine wl (ro_fieldAddr (k := 4) rfl fo_148_4) ?_
  refine wl (ro_loadB rfl sc_3 (by assumption) rfl) ?_
  refine wl (ro_fieldAddr (k := 6) rfl fo_148_6) ?_
  refine wl (ro_loadB rfl sc_9 (by assumption) rfl) ?_
  refine wl (ro_loadAggB rfl ag_119 (by assumption) rfl rfl) ?_
  refine wl (ro_fieldAddr (k := 3) rfl fo_161_3) ?_
  refine wl (ro_loadB rfl sc_120 (by assumption) rfl) ?_
  refine wl (ro_build rfl bld_159_0_1_2) ?_
  refine wl_box (cs := (evc β ⟨(nd G tn).S, sP.top 0, te⟩)) rfl rfl (fun b149 w9 hbb149 h149 F9 => ?_)
  have hbsb149 := Nat.le_trans hF.size hbb149
  have hnegnb149 : gn < b149 := Nat.lt_of_lt_of_le hN.lt hbb149
  have hneb3b149 : b3 < b149 := Nat.lt_of_lt_of_le h3.lt hbb149
  have hneb4b149 : b4 < b149 := Nat.lt_of_lt_of_le h4.lt hbb149
  have hneb5b149 : b5 < b149 := Nat.lt_of_lt_of_le h5.lt hbb149
  have kh149 := hR.df b149 hbb149
  replace hF := hF.thenDrew.thenN F9
  replace hN := F9.blkN hN
  replace h3 := F9.blkN h3
  replace hR := hR.thruN ((Fram.refl none' _).thenDrew.thenN F9)
  replace h4 := F9.blkN h4
  replace h5 := F9.blkN h5
  have hRn := hR.newE (z := ⟨(nd G tn).S, sP.top 0, te⟩) h149 (hetP)
  replace khN := ot_kR hRn khN (by first | omega | exact ow_ne (by assumption) (by assumption) (by omega))
  replace kh3 := ot_kR hRn kh3 (by first | omega | exact ow_ne (by assumption) (by assumption) (by omega))
  replace kh4 := ot_kR hRn kh4 (by first | omega | exact ow_ne (by assumption) (by assumption) (by omega))
  replace kh5 := ot_kR hRn kh5 (by first | omega | exact ow_ne (by assumption) (by assumption) (by omega))
  replace hX := ot_xR hRn hX (by omega)
  replace hR := hRn
  refine wl_call rfl en_55 (do55 (k := 1) (n := (nd G tn).Nx) (x := 0) hR.dr (EP.new _ _) (by omega)) ?_
  rintro _ u10 ⟨rfl, ow10, x10, f10, r10⟩
  obtain ⟨hN, khN⟩ := cm_loc x10 f10 hN khN
  obtain ⟨h3, kh3⟩ := cm_loc x10 f10 h3 kh3
  obtain ⟨h4, kh4⟩ := cm_loc x10 f10 h4 kh4
  obtain ⟨h5, kh5⟩ := cm_loc x10 f10 h5 kh5
  have hs10 := hF.size
  replace hF := cm_trans hX hF f10
  replace hX := hX.trans hs10 x10
  replace hR := r10
  refine wl_nil (x_blk ?_)
  refine bp_end Tryz.results33 rfl ?_
  refine ⟨rfl, ?_⟩
  rw [hgoal]
  unfold istep1
  simp only [Nat.reduceEqDiff, reduceIte]
  try rw [hmod]
  try simp only [hnx]
  try rw [hlen7]
  try rw [hlen8]
  try (rw [burn_if (by exact P.b.dn)]; first | rw [if_pos (by exact hfu)] | rw [if_neg (by exact hfu)])
  repeat (first | rw [if_pos (by first | assumption | omega)] | rw [if_neg (by first | assumption | omega)])
  first
  | exact hf0 hX hF hR (by omega)
  | exact hf1 hX hF hR (by omega)
  | exact hf2 hX hF hR (by omega)
  | exact hf9 hX hF hR (by omega)

set_option maxHeartbeats 8000000 in
theorem step33_7 {G : Arena} {root : Nat} {np : Value} {tb rb : Nat} {nv : Value} {w : World} {ow : Nat → Nat} {β τ : List Nat} {m : Nat} {s : IS} (hR : RM G root np tb rb nv w ow β τ m s) (hG : 0 < G.length) (hAG : AOK G) (h0K : (nd G 0).K = 0) (hI : IA G root s) (ht0 : 0 < s.tabs.length) (hm : m ≤ 19900) {tn tx te : Nat} {r : List Tk} (htk : s.th.tasks = ⟨7, tn, tx, te⟩ :: r) :
    Ret Tryz.prog 33 [ptr rb] w (fun r w' => r = .tuple #[] ∧ ∃ bs τ', RP G root np tb rb nv w ow (β ++ bs) (τ ++ τ') (m + 12) (istep G root s) w') := by
  obtain ⟨hok, hnu, htb, T, h, P0, hT0⟩ := hI
  have hTe := P0.t.symm.trans htk
  subst hTe
  have hF : Fram (tg ow cmT) w w := Fram.refl _ _
  have hX : Xt w ow ow := Xt.refl _ _
  have hmr := hR.mem_r
  have hgoal : istep G root s = istep1 G root ⟨7, tn, tx, te⟩ s (s.setT { s.th with tasks := r }) := by unfold istep; rw [htk]
  have het : te ≤ s.envs.length := by have q := hT0; unfold TkI at q; exact q.1
  have hel : te ≤ β.length := by rw [hR.el]; exact het
  have heP : EP β te (epo β te) := EP.mk' hel
  have htl : s.th.tasks.length = r.length + 1 := by rw [htk]; rfl
  have hcl0 := P0.cl
  have hokP : IOK (s.setT { s.th with tasks := r }) := hok.setT hok.th
  have hP0 : 0 < (s.setT { s.th with tasks := r }).tabs.length := ht0
  have htop : ∀ i, (s.setT { s.th with tasks := r }).top i = s.top i := fun i => by unfold IS.top; rw [th_setT hcl0]
  have hclP : (s.setT { s.th with tasks := r }).cur < (s.setT { s.th with tasks := r }).ths.length := by simpa [IS.setT] using hcl0
  have hetP : te ≤ (s.setT { s.th with tasks := r }).envs.length := het
  have P : PW G root (s.setT { s.th with tasks := r }) r h := P0.pop (t := ⟨7, tn, tx, te⟩) (show (7 : Nat) ≠ 3 by decide)
  obtain ⟨-, hn, -, hf, hk, hT⟩ := hT0.inv (t := ⟨7, tn, tx, te⟩) (show (7 : Nat) ≠ 3 by decide)
  have hn : tn < G.length := hn
  have hvl : (s.setT { s.th with tasks := r }).th.vals.length = h := P.v
  have hokt : ∀ i, ok (s.setT { s.th with tasks := r }) ((s.setT { s.th with tasks := r }).top i) := fun i => IOK.getD hokP.th i
  have hnh := hokP.nh
  have hnc := hokP.nc
  have hnn := (hAG tn).1
  obtain ⟨gn, capn, ln, rfl, hN, khN, hcapn, hrow⟩ := hR.nodes hG
  obtain ⟨pn, hpn⟩ := hrow tn hn
  have hf9 : ∀ {u : World} {ow' : Nat → Nat} {m' : Nat} {s' : IS} {bs τ' : List Nat}, Xt w ow ow' → Fram (tg ow cmT) w u → RM G root np tb rb (.slice (some ⟨gn, 0, none⟩) G.length capn) u ow' (β ++ bs) (τ ++ τ') m' s' → m' ≤ m + 12 → ∃ bs τ', RP G root np tb rb (.slice (some ⟨gn, 0, none⟩) G.length capn) w ow (β ++ bs) (τ ++ τ') (m + 12) s' u := fun {_ _ _ _ bs τ'} h1 h2 h3 h4 => ⟨bs, τ', _, h1, h2, h3.le h4⟩
  have hf0 : ∀ {u : World} {ow' : Nat → Nat} {m' : Nat} {s' : IS}, Xt w ow ow' → Fram (tg ow cmT) w u → RM G root np tb rb (.slice (some ⟨gn, 0, none⟩) G.length capn) u ow' β τ m' s' → m' ≤ m + 12 → ∃ bs τ', RP G root np tb rb (.slice (some ⟨gn, 0, none⟩) G.length capn) w ow (β ++ bs) (τ ++ τ') (m + 12) s' u := fun h1 h2 h3 h4 => hf9 (bs := []) (τ' := []) h1 h2 (by rw [List.append_nil, List.append_nil]; exact h3) h4
  have hf1 : ∀ {u : World} {ow' : Nat → Nat} {m' : Nat} {s' : IS} {bs : List Nat}, Xt w ow ow' → Fram (tg ow cmT) w u → RM G root np tb rb (.slice (some ⟨gn, 0, none⟩) G.length capn) u ow' (β ++ bs) τ m' s' → m' ≤ m + 12 → ∃ bs τ', RP G root np tb rb (.slice (some ⟨gn, 0, none⟩) G.length capn) w ow (β ++ bs) (τ ++ τ') (m + 12) s' u := fun {_ _ _ _ bs} h1 h2 h3 h4 => hf9 (bs := bs) (τ' := []) h1 h2 (by rw [List.append_nil]; exact h3) h4
  have hf2 : ∀ {u : World} {ow' : Nat → Nat} {m' : Nat} {s' : IS} {b1 b2 : Nat}, Xt w ow ow' → Fram (tg ow cmT) w u → RM G root np tb rb (.slice (some ⟨gn, 0, none⟩) G.length capn) u ow' (β ++ [b1] ++ [b2]) τ m' s' → m' ≤ m + 12 → ∃ bs τ', RP G root np tb rb (.slice (some ⟨gn, 0, none⟩) G.length capn) w ow (β ++ bs) (τ ++ τ') (m + 12) s' u := fun {_ _ _ _ b1 b2} h1 h2 h3 h4 => hf9 (bs := [b1, b2]) (τ' := []) h1 h2 (by rw [List.append_nil]; rw [List.append_assoc] at h3; exact h3) h4
  refine ret_of Tryz.func33 rfl Tryz.ntmps33 rfl ?_
  refine c_seq (fun K1 hK1 => ?_)
  obtain ⟨cv, a0, a1, a2, a3, a4, gT, capT, lT, bT, tvT, vvT, hXr, hO, hlT, hcapT, hbT, hTh, hgT⟩ := hR.open
  have hB := hTh.k
  have hkb := hTh.t
  have hclT := hR.cl
  unfold rnc at hXr
  have hk70 := hR.t70
  have hbdd := hR.bdm
  refine c_pi [(0, false), (1, false), (2, false), (3, false), (4, false), (5, false), (6, false), (7, false), (8, false), (9, false), (10, false)] (SameH _) mixed (by kernel_rfl) rfl (by kernel_rfl) (po_then (po_bp)) (sameH_now _ _) ?_ -- region 0 compm.go:509
  refine pi_ro rfl (fun w hS => ro_move rfl) ?_
  refine pi_ro rfl (fun w hS => ro_nilCheck rfl) ?_
  refine pi_ro rfl (fun w hS => ro_fieldAddr (k := 5) rfl fo_112_5) ?_
  refine pi_ro rfl (fun w hS => ro_loadB rfl sc_109 (Blk.of_heap (by assumption) hS) rfl) ?_
  refine pi_ro rfl (fun w hS => ro_move rfl) ?_
  refine pi_ro rfl (fun w hS => ro_nilCheck rfl) ?_
  refine pi_ro rfl (fun w hS => ro_fieldAddr (k := 12) rfl fo_112_8) ?_
  refine pi_ro rfl (fun w hS => ro_loadB rfl sc_3 (Blk.of_heap (by assumption) hS) rfl) ?_
  refine pi_ro rfl (fun w hS => ro_indexAddr (et := 123) (k := 1) rfl rfl se_109 rfl (by omega)) ?_
  refine pi_ro rfl (fun w hS => ro_loadB rfl sc_123 (Blk.of_heap hO hS) (hlT)) ?_
  refine pi_ro rfl (fun w hS => ro_assign rfl) ?_
  refine pi_nil (x_then (hK1 _ _ ?_))
  clear hK1 K1
  refine forget [(0, _), (2, _)] ⟨rfl, rfl, trivial⟩ (fun e => ?_)
  refine c_seq (fun K2 hK2 => ?_)
  have hts0 := hTh.ts
  rw [htk] at hts0
  obtain ⟨gt, capt, lt, e1, hV, q1, q2, q3, q4⟩ := hts0.atR (tsc_len β) (j := 0) rfl
  subst e1
  obtain ⟨va, vc, rfl⟩ := hTh.vs.form
  have hrl : ((⟨7, tn, tx, te⟩ : Tk) :: r).length = r.length + 1 := rfl
  refine c_piL 13 [(0, false), (1, false), (2, false), (3, false), (4, false), (5, false), (6, false), (7, false), (8, false), (9, false), (10, false), (11, false), (12, true)] (La bT _ _ (La gt _ _ (fun _ => True))) mixed (by kernel_rfl) rfl (by kernel_rfl) (po_then (po_bp)) (⟨hB, hV, trivial⟩) ?_ -- region 1 compm.go:510
  refine ql_ro rfl (fun w hS => ro_move rfl) ?_
  refine ql_ro rfl (fun w hS => ro_nilCheck rfl) ?_
  refine ql_ro rfl (fun w hS => ro_fieldAddr (k := 3) rfl fo_126_3) ?_
  refine ql_ro rfl (fun w hS => ro_loadB rfl sc_124 (hS.1) rfl) ?_
  refine ql_ro rfl (fun w hS => ro_move rfl) ?_
  refine ql_ro rfl (fun w hS => ro_nilCheck rfl) ?_
  refine ql_ro rfl (fun w hS => ro_fieldAddr (k := 3) rfl fo_126_3) ?_
  refine ql_ro rfl (fun w hS => ro_loadB rfl sc_124 (hS.1) rfl) ?_
  refine ql_ro rfl (fun w hS => ro_lenL rfl se_124) ?_
  refine ql_ro rfl (fun w hS => ro_arith rfl rfl rfl (Go.IntWalk.i64_in _ (by omega))) ?_
  refine ql_ro rfl (fun w hS => ro_indexAddr (et := 161) (k := 4) rfl rfl se_124 ((show ((((⟨7, tn, tx, te⟩ : Tk) :: r).length : Int) - 1) = ((((⟨7, tn, tx, te⟩ : Tk) :: r).length - 1 - 0 : Nat) : Int) by omega)) ((by omega))) ?_
  refine ql_ro rfl (fun w hS => ro_loadAggB rfl ag_161 (hS.2.1) (rfl) (q4)) ?_
  refine ql_new rfl ze_161 (fun w1 F ↦ ⟨F.blkN hB, F.blkN hV, trivial⟩) ?_
  intro b3 w1 hbb3 h3 F1
  have hbsb3 := Nat.le_trans hF.size hbb3
  have hnegnb3 : gn < b3 := Nat.lt_of_lt_of_le hN.lt hbb3
  have hnegTb3 : gT < b3 := Nat.lt_of_lt_of_le hO.lt hbb3
  have hnebTb3 : bT < b3 := Nat.lt_of_lt_of_le hB.lt hbb3
  have hnerbb3 : rb < b3 := Nat.lt_of_lt_of_le hXr.lt hbb3
  have hnegtb3 : gt < b3 := Nat.lt_of_lt_of_le hV.lt hbb3
  have kh3 := hR.df b3 hbb3
  replace hF := hF.thenDrew.thenN F1
  replace hR := hR.thruN ((Fram.refl none' _).thenDrew.thenN F1)
  replace hN := F1.blkN hN
  replace hO := F1.blkN hO
  replace hB := F1.blkN hB
  replace hXr := F1.blkN hXr
  replace hV := F1.blkN hV
  refine ql_puta rfl rfl rfl ((tsc_one _ _)) sz_161 (rfl) h3 ((by simp)) ((show _ = [i64c 7, i64c tn, i64c tx, .pointer (epo β te)] from rfl)) (fun w2 h3 F2 => ?_)
  replace hF := hF.thenDrew.thenO F2 (by first | exact .inr (by omega) | exact .inl rfl | exact .inl (by assumption) | assumption)
  replace hR := hR.hbput ((Fram.refl (one b3) _).thenDrew.thenO F2 (.inl rfl))
  replace hN := F2.blkO hN (by first | omega | exact ow_ne (by assumption) (by assumption) (by omega))
  replace hO := F2.blkO hO (by first | omega | exact ow_ne (by assumption) (by assumption) (by omega))
  replace hB := F2.blkO hB (by first | omega | exact ow_ne (by assumption) (by assumption) (by omega))
  replace hXr := F2.blkO hXr (by first | omega | exact ow_ne (by assumption) (by assumption) (by omega))
  replace hV := F2.blkO hV (by first | omega | exact ow_ne (by assumption) (by assumption) (by omega))
  refine x_then (hK2 _ _ ?_)
  clear hK2 K2
  refine forget [(0, _), (2, _), (3, _)] ⟨rfl, rfl, rfl, trivial⟩ (fun e => ?_)
  refine c_seq (fun K3 hK3 => ?_)
  obtain ⟨b0, hb0⟩ : ∃ b0, b0 = bT := ⟨_, rfl⟩
  subst hb0
  have hb0 := hbT
  clear hTh hkb hlT hbT hcapT hgT hclT hk70 hB hO hXr hV q4 q3 q2 q1 hts0
  obtain ⟨cv, a0, a1, a2, a3, a4, gT, capT, lT, bT, tvT, vvT, hXr, hO, hlT, hcapT, hbT, hTh, hgT⟩ := hR.open
  have hB := hTh.k
  have hkb := hTh.t
  have hclT := hR.cl
  unfold rnc at hXr
  have hk70 := hR.t70
  have hbe : bT = b0 := Option.some.inj (hbT.symm.trans hb0)
  subst hbe
  obtain ⟨ta, tc, rfl⟩ := hTh.ts.form
  obtain ⟨va2, vc2, rfl⟩ := hTh.vs.form
  have hcapt := hTh.ts.capge
  have htr := hTh.ts.dropR (tsc_len β) 1
  rw [htl, htk] at htr
  have hmb := hX.memC (hR.mem_b hR.cl hTh.t)
  refine c_piL 14 [(0, false), (1, false), (2, false), (3, false), (4, false), (5, false), (6, false), (7, false), (8, false), (9, false), (10, false), (11, false), (12, false), (13, false)] (SameH _) mixed (by kernel_rfl) rfl (by kernel_rfl) (po_then (po_bp)) (sameH_now _ _) ?_ -- region 2 compm.go:511
  refine ql_ro rfl (fun w hS => ro_move rfl) ?_
  refine ql_ro rfl (fun w hS => ro_move rfl) ?_
  refine ql_ro rfl (fun w hS => ro_nilCheck rfl) ?_
  refine ql_ro rfl (fun w hS => ro_fieldAddr (k := 3) rfl fo_126_3) ?_
  refine ql_ro rfl (fun w hS => ro_loadB rfl sc_124 (Blk.of_heap (by assumption) hS) rfl) ?_
  refine ql_ro rfl (fun w hS => ro_move rfl) ?_
  refine ql_ro rfl (fun w hS => ro_nilCheck rfl) ?_
  refine ql_ro rfl (fun w hS => ro_fieldAddr (k := 3) rfl fo_126_3) ?_
  refine ql_ro rfl (fun w hS => ro_loadB rfl sc_124 (Blk.of_heap (by assumption) hS) rfl) ?_
  refine ql_ro rfl (fun w hS => ro_lenL rfl se_124) ?_
  refine ql_ro rfl (fun w hS => ro_arith rfl rfl rfl (Go.IntWalk.i64_in _ (by omega))) ?_
  refine ql_ro rfl (fun w hS => ro_sliceH (h := r.length) rfl rfl se_124 (by omega) (by omega)) ?_
  refine ql_ro rfl (fun w hS => ro_nilCheck rfl) ?_
  refine ql_ro rfl (fun w hS => ro_fieldAddr (k := 3) rfl fo_126_3) ?_
  refine ql_put rfl rfl rfl rfl sz_124 hB ((by simp)) (rfl) (fun w3 hB F3 => ?_)
  replace hF := hF.thenDrew.thenO F3 (by first | exact .inr (by omega) | exact .inl rfl | exact .inl (by assumption) | assumption)
  replace hN := F3.blkO hN (by first | omega | exact ow_ne (by assumption) (by assumption) (by omega))
  replace h3 := F3.blkO h3 (by first | omega | exact ow_ne (by assumption) (by assumption) (by omega))
  replace hO := F3.blkO hO (by first | omega | exact ow_ne (by assumption) (by assumption) (by omega))
  replace hXr := F3.blkO hXr (by first | omega | exact ow_ne (by assumption) (by assumption) (by omega))
  have hR2 := hR.thr' (y := { s.th with tasks := r }) hbT hTh.t htr hTh.vs ((Fram.refl (one bT) _).thenDrew.thenO F3 (.inl rfl)) hB (fun z hz => hR.tem z (by rw [htk]; exact List.mem_cons_of_mem _ hz)) (by have := hR.bdm; rw [htl] at this; exact ⟨by show r.length ≤ m; omega, this.2⟩)
  replace hR := hR2
  obtain ⟨b0, hb1⟩ : ∃ b0, b0 = bT := ⟨_, rfl⟩
  subst hb1
  have hb0 : τ[(s.setT { s.th with tasks := r }).cur]? = some b0 := hbT
  clear hTh hkb hlT hbT hcapT hgT hclT hk70 hB hO hXr htr hmb hcapt hbdd
  generalize hsP : s.setT { s.th with tasks := r } = sP at *
  have hbdP := hR.bdm
  refine x_then (hK3 _ _ ?_)
  clear hK3 K3
  refine forget [(0, _), (2, _), (3, _)] ⟨rfl, rfl, rfl, trivial⟩ (fun e => ?_)
  refine c_seq (fun K4 hK4 => ?_)
  refine c_reg ?_ -- region 3 compm.go:512
  refine wl_new (ze_148) (fun b4 w4 hbb4 h4 F4 => ?_)
  have hbsb4 := Nat.le_trans hF.size hbb4
  have hnegnb4 : gn < b4 := Nat.lt_of_lt_of_le hN.lt hbb4
  have hneb3b4 : b3 < b4 := Nat.lt_of_lt_of_le h3.lt hbb4
  have kh4 := hR.df b4 hbb4
  replace hF := hF.thenDrew.thenN F4
  replace hN := F4.blkN hN
  replace h3 := F4.blkN h3
  replace hR := hR.thruN ((Fram.refl none' _).thenDrew.thenN F4)
  refine wl_nil (x_then (hK4 _ _ ?_))
  clear hK4 K4
  refine c_seq (fun K5 hK5 => ?_)
  refine c_seq (fun K6 hK6 => ?_)
  refine c_reg ?_ -- region 4 compm.go:513
  refine wl (ro_fieldAddr (k := 0) rfl fo_161_0) ?_
  refine wl (ro_loadB rfl sc_3 (by assumption) rfl) ?_
  refine wl (ro_cmp rfl rfl rfl) ?_
  refine wl_nil (x_then (hK6 _ _ ?_))
  clear hK6 K6
  refine wc_condT rfl ?_
  obtain ⟨cv, hv_, a0, a1, a2, a3, a4, hXr, hq2, hq3, hq4⟩ := hR.r
  unfold rnc at hXr
  have hk70 := hR.t70
  refine c_piL 8 [(0, false), (1, false), (2, false), (3, false), (4, false), (5, false), (6, false), (7, false)] (SameH _) mixed (by kernel_rfl) rfl (by kernel_rfl) (po_then (po_bp)) (sameH_now _ _) ?_ -- region 5 compm.go:514
  refine ql_ro rfl (fun w hS => ro_move rfl) ?_
  refine ql_ro rfl (fun w hS => ro_nilCheck rfl) ?_
  refine ql_ro rfl (fun w hS => ro_fieldAddr (k := 2) rfl fo_112_2) ?_
  refine ql_ro rfl (fun w hS => ro_loadB rfl sc_77 (Blk.of_heap (by assumption) hS) rfl) ?_
  refine ql_ro rfl (fun w hS => ro_fieldAddr (k := 1) rfl fo_161_1) ?_
  refine ql_ro rfl (fun w hS => ro_loadB rfl sc_3 (Blk.of_heap (by assumption) hS) rfl) ?_
  refine ql_ro rfl (fun w hS => ro_indexAddr (et := 148) (k := 8) rfl rfl se_77 (rfl) (hn)) ?_
  refine ql_ro rfl (fun w hS => ro_loadAggB rfl ag_148 (Blk.of_heap hN hS) (rfl) (hpn)) ?_
  refine ql_puta rfl rfl rfl ((ndc_one _)) sz_148 (rfl) h4 ((by simp)) ((show _ = ndc (nd G tn, pn) from rfl)) (fun w5 h4 F5 => ?_)
  replace hF := hF.thenDrew.thenO F5 (by first | exact .inr (by omega) | exact .inl rfl | exact .inl (by assumption) | assumption)
  replace hN := F5.blkO hN (by first | omega | exact ow_ne (by assumption) (by assumption) (by omega))
  replace h3 := F5.blkO h3 (by first | omega | exact ow_ne (by assumption) (by assumption) (by omega))
  replace hR := hR.hbput ((Fram.refl (one b4) _).thenDrew.thenO F5 (.inl rfl))
  replace hXr := F5.blkO hXr (by first | omega | exact ow_ne (by assumption) (by assumption) (by omega))
  refine x_then (hK5 _ _ ?_)
  clear hK5 K5
  refine forget [(0, _), (2, _), (3, _), (4, _)] ⟨rfl, rfl, rfl, rfl, trivial⟩ (fun e => ?_)
  refine c_seq (fun K7 hK7 => ?_)
  have helP : β.length = sP.envs.length := hR.el
  have hf : flT r + 2 ≤ h := hf
  have hk : N2 G (nd G tn).A ∧ SB G (nd G tn).Nx r (h - 2) 1 := hk
  obtain ⟨nma, nmb, hnm⟩ := hk.1
  have hAl := hnm.lt hG
  have hnm2 : IsNm G (nd G (nd G tn).A).Nx [nmb] := hnm.2.2.2
  have hAl2 := hnm2.lt hG
  obtain ⟨pA, hpA⟩ := hrow _ hAl
  obtain ⟨pA2, hpA2⟩ := hrow _ hAl2
  refine c_reg ?_ -- region 6 compm.go:516
  refine wl (ro_fieldAddr (k := 0) rfl fo_161_0) ?_
  refine wl (ro_loadB rfl sc_3 (by assumption) rfl) ?_
  refine wl_nil (x_then (hK7 _ _ ?_))
  clear hK7 K7
  refine c_block ?_
  refine forget [(0, _), (2, _), (3, _), (4, _), (92, _)] ⟨rfl, rfl, rfl, rfl, rfl, trivial⟩ (fun e => ?_)
  refine c_seq (fun K8 hK8 => ?_)
  refine c_reg ?_ -- region 7 compm.go:517
  refine wl (ro_cmp rfl rfl rfl) ?_
  refine wl (ro_assign rfl) ?_
  refine wl_nil (x_then (hK8 _ _ ?_))
  clear hK8 K8
  refine wc_condF rfl ?_
  refine c_seq (fun K9 hK9 => ?_)
  refine c_reg ?_ -- region 10 compm.go:521
  refine wl (ro_cmp rfl rfl rfl) ?_
  refine wl (ro_assign rfl) ?_
  refine wl_nil (x_then (hK9 _ _ ?_))
  clear hK9 K9
  refine wc_condF rfl ?_
  refine c_seq (fun K10 hK10 => ?_)
  refine c_reg ?_ -- region 12 compm.go:523
  refine wl (ro_cmp rfl rfl rfl) ?_
  refine wl (ro_assign rfl) ?_
  refine wl_nil (x_then (hK10 _ _ ?_))
  clear hK10 K10
  refine wc_condF rfl ?_
  refine c_seq (fun K11 hK11 => ?_)
  refine c_reg ?_ -- region 15 compm.go:526
  refine wl (ro_cmp rfl rfl rfl) ?_
  refine wl (ro_assign rfl) ?_
  refine wl_nil (x_then (hK11 _ _ ?_))
  clear hK11 K11
  refine wc_condF rfl ?_
  refine c_seq (fun K12 hK12 => ?_)
  refine c_reg ?_ -- region 16 compm.go:527
  refine wl (ro_cmp rfl rfl rfl) ?_
  refine wl (ro_assign rfl) ?_
  refine wl_nil (x_then (hK12 _ _ ?_))
  clear hK12 K12
  refine wc_condF rfl ?_
  refine c_seq (fun K13 hK13 => ?_)
  refine c_reg ?_ -- region 18 compm.go:529
  refine wl (ro_cmp rfl rfl rfl) ?_
  refine wl (ro_assign rfl) ?_
  refine wl_nil (x_then (hK13 _ _ ?_))
  clear hK13 K13
  refine wc_condF rfl ?_
  refine c_seq (fun K14 hK14 => ?_)
  refine c_reg ?_ -- region 21 compm.go:532
  refine wl (ro_cmp rfl rfl rfl) ?_
  refine wl (ro_assign rfl) ?_
  refine wl_nil (x_then (hK14 _ _ ?_))
  clear hK14 K14
  refine wc_condT rfl ?_
  refine c_seq (fun K15 hK15 => ?_)
  refine c_reg ?_ -- region 22 compm.go:533
  refine wl (ro_move rfl) ?_
  refine wl_call rfl en_59 (pop59 hR.dr (by omega) (by omega)) ?_
  rintro _ u6 ⟨rfl, ow6, x6, f6, r6⟩
  obtain ⟨hN, khN⟩ := cm_loc x6 f6 hN khN
  obtain ⟨h3, kh3⟩ := cm_loc x6 f6 h3 kh3
  obtain ⟨h4, kh4⟩ := cm_loc x6 f6 h4 kh4
  have hs6 := hF.size
  replace hF := cm_trans hX hF f6
  replace hX := hX.trans hs6 x6
  replace hR := r6
  refine wl_new (ze_119) (fun b6 w7 hbb6 h6 F7 => ?_)
  have hbsb6 := Nat.le_trans hF.size hbb6
  have hnegnb6 : gn < b6 := Nat.lt_of_lt_of_le hN.lt hbb6
  have hneb3b6 : b3 < b6 := Nat.lt_of_lt_of_le h3.lt hbb6
  have hneb4b6 : b4 < b6 := Nat.lt_of_lt_of_le h4.lt hbb6
  have kh6 := hR.df b6 hbb6
  replace hF := hF.thenDrew.thenN F7
  replace hN := F7.blkN hN
  replace h3 := F7.blkN h3
  replace hR := hR.thruN ((Fram.refl none' _).thenDrew.thenN F7)
  replace h4 := F7.blkN h4
  refine wl_puta rfl rfl ((pvc_one _)) sz_119 (rfl) h6 ((by simp)) ((show _ = pvc (sP.top 0) from rfl)) (fun w8 h6 F8 => ?_)
  replace hF := hF.thenDrew.thenO F8 (by first | exact .inr (by omega) | exact .inl rfl | exact .inl (by assumption) | assumption)
  replace hN := F8.blkO hN (by first | omega | exact ow_ne (by assumption) (by assumption) (by omega))
  replace h3 := F8.blkO h3 (by first | omega | exact ow_ne (by assumption) (by assumption) (by omega))
  replace hR := hR.hbput ((Fram.refl (one b6) _).thenDrew.thenO F8 (.inl rfl))
  replace h4 := F8.blkO h4 (by first | omega | exact ow_ne (by assumption) (by assumption) (by omega))
  refine wl_nil (x_then (hK15 _ _ ?_))
  clear hK15 K15
  refine forget [(0, _), (3, _), (4, _), (6, _)] ⟨rfl, rfl, rfl, rfl, trivial⟩ (fun e => ?_)
  refine c_seq (fun K16 hK16 => ?_)
  refine c_reg ?_ -- region 23 compm.go:534
  refine wl (ro_move rfl) ?_
  refine wl_call rfl en_59 (pop59 hR.dr (by rw [drop_vals hclP, List.length_drop]; omega) (by omega)) ?_
  rintro _ u9 ⟨rfl, ow9, x9, f9, r9⟩
  obtain ⟨hN, khN⟩ := cm_loc x9 f9 hN khN
  obtain ⟨h3, kh3⟩ := cm_loc x9 f9 h3 kh3
  obtain ⟨h4, kh4⟩ := cm_loc x9 f9 h4 kh4
  obtain ⟨h6, kh6⟩ := cm_loc x9 f9 h6 kh6
  have hs9 := hF.size
  replace hF := cm_trans hX hF f9
  replace hX := hX.trans hs9 x9
  replace hR := r9
  rw [drop_drop hclP] at hR
  rw [top_drop hclP]
  refine wl_new (ze_119) (fun b7 w10 hbb7 h7 F10 => ?_)
  have hbsb7 := Nat.le_trans hF.size hbb7
  have hnegnb7 : gn < b7 := Nat.lt_of_lt_of_le hN.lt hbb7
  have hneb3b7 : b3 < b7 := Nat.lt_of_lt_of_le h3.lt hbb7
  have hneb4b7 : b4 < b7 := Nat.lt_of_lt_of_le h4.lt hbb7
  have hneb6b7 : b6 < b7 := Nat.lt_of_lt_of_le h6.lt hbb7
  have kh7 := hR.df b7 hbb7
  replace hF := hF.thenDrew.thenN F10
  replace hN := F10.blkN hN
  replace h3 := F10.blkN h3
  replace hR := hR.thruN ((Fram.refl none' _).thenDrew.thenN F10)
  replace h4 := F10.blkN h4
  replace h6 := F10.blkN h6
  refine wl_puta rfl rfl ((pvc_one _)) sz_119 (rfl) h7 ((by simp)) ((show _ = pvc (sP.top 1) from rfl)) (fun w11 h7 F11 => ?_)
  replace hF := hF.thenDrew.thenO F11 (by first | exact .inr (by omega) | exact .inl rfl | exact .inl (by assumption) | assumption)
  replace hN := F11.blkO hN (by first | omega | exact ow_ne (by assumption) (by assumption) (by omega))
  replace h3 := F11.blkO h3 (by first | omega | exact ow_ne (by assumption) (by assumption) (by omega))
  replace hR := hR.hbput ((Fram.refl (one b7) _).thenDrew.thenO F11 (.inl rfl))
  replace h4 := F11.blkO h4 (by first | omega | exact ow_ne (by assumption) (by assumption) (by omega))
  replace h6 := F11.blkO h6 (by first | omega | exact ow_ne (by assumption) (by assumption) (by omega))
  refine wl_nil (x_then (hK16 _ _ ?_))
  clear hK16 K16
  refine forget [(0, _), (3, _), (4, _), (6, _), (7, _)] ⟨rfl, rfl, rfl, rfl, rfl, trivial⟩ (fun e => ?_)
  refine c_seq (fun K17 hK17 => ?_)
  refine c_piL 9 [(0, false), (1, false), (2, false), (3, false), (4, false), (5, false), (6, false), (7, false), (8, true)] (La gn _ _ (La b3 _ _ (La b4 _ _ (La b6 _ _ (La b7 _ _ (Lz rb _ _ _)))))) mixed (by kernel_rfl) rfl (by kernel_rfl) (po_then (po_blk (po_bp))) (⟨hN, h3, h4, h6, h7, hR.rz⟩) ?_ -- region 24 compm.go:535
  refine ql_ro rfl (fun w hS => ro_move rfl) ?_
  refine ql_ro rfl (fun w hS => ro_nilCheck rfl) ?_
  refine ql_ro rfl (fun w hS => ro_fieldAddr (k := 2) rfl fo_112_2) ?_
  refine ql_ro rfl (fun w hS => let ⟨_, hc⟩ := hS.2.2.2.2.2; ro_loadB rfl sc_77 hc rfl) ?_
  refine ql_ro rfl (fun w hS => ro_fieldAddr (k := 1) rfl fo_148_1) ?_
  refine ql_ro rfl (fun w hS => ro_loadB rfl sc_3 (hS.2.2.1) rfl) ?_
  refine ql_ro rfl (fun w hS => ro_indexAddr (et := 148) (k := 8) rfl rfl se_77 (rfl) (hAl)) ?_
  refine ql_ro rfl (fun w hS => ro_loadAggB rfl ag_148 (hS.1) (rfl) (hpA)) ?_
  refine ql_new rfl ze_148 (fun w1 F ↦ ⟨F.blkN hN, F.blkN h3, F.blkN h4, F.blkN h6, F.blkN h7, (hR.dr.thruN F).rz⟩) ?_
  intro b8 w12 hbb8 h8 F12
  have hbsb8 := Nat.le_trans hF.size hbb8
  have hnegnb8 : gn < b8 := Nat.lt_of_lt_of_le hN.lt hbb8
  have hneb3b8 : b3 < b8 := Nat.lt_of_lt_of_le h3.lt hbb8
  have hneb4b8 : b4 < b8 := Nat.lt_of_lt_of_le h4.lt hbb8
  have hneb6b8 : b6 < b8 := Nat.lt_of_lt_of_le h6.lt hbb8
  have hneb7b8 : b7 < b8 := Nat.lt_of_lt_of_le h7.lt hbb8
  have kh8 := hR.df b8 hbb8
  replace hF := hF.thenDrew.thenN F12
  replace hN := F12.blkN hN
  replace h3 := F12.blkN h3
  replace hR := hR.thruN ((Fram.refl none' _).thenDrew.thenN F12)
  replace h4 := F12.blkN h4
  replace h6 := F12.blkN h6
  replace h7 := F12.blkN h7
  refine ql_puta rfl rfl rfl ((ndc_one _)) sz_148 (rfl) h8 ((by simp)) ((show _ = ndc (nd G (nd G tn).A, pA) from rfl)) (fun w13 h8 F13 => ?_)
  replace hF := hF.thenDrew.thenO F13 (by first | exact .inr (by omega) | exact .inl rfl | exact .inl (by assumption) | assumption)
  replace hN := F13.blkO hN (by first | omega | exact ow_ne (by assumption) (by assumption) (by omega))
  replace h3 := F13.blkO h3 (by first | omega | exact ow_ne (by assumption) (by assumption) (by omega))
  replace hR := hR.hbput ((Fram.refl (one b8) _).thenDrew.thenO F13 (.inl rfl))
  replace h4 := F13.blkO h4 (by first | omega | exact ow_ne (by assumption) (by assumption) (by omega))
  replace h6 := F13.blkO h6 (by first | omega | exact ow_ne (by assumption) (by assumption) (by omega))
  replace h7 := F13.blkO h7 (by first | omega | exact ow_ne (by assumption) (by assumption) (by omega))
  refine x_then (hK17 _ _ ?_)
  clear hK17 K17
  refine forget [(0, _), (3, _), (4, _), (6, _), (7, _), (8, _)] ⟨rfl, rfl, rfl, rfl, rfl, rfl, trivial⟩ (fun e => ?_)
  refine c_seq (fun K18 hK18 => ?_)
  refine c_piL 9 [(0, false), (1, false), (2, false), (3, false), (4, false), (5, false), (6, false), (7, false), (8, true)] (La gn _ _ (La b3 _ _ (La b4 _ _ (La b6 _ _ (La b7 _ _ (La b8 _ _ (Lz rb _ _ _))))))) mixed (by kernel_rfl) rfl (by kernel_rfl) (po_then (po_blk (po_bp))) (⟨hN, h3, h4, h6, h7, h8, hR.rz⟩) ?_ -- region 25 compm.go:536
  refine ql_ro rfl (fun w hS => ro_move rfl) ?_
  refine ql_ro rfl (fun w hS => ro_nilCheck rfl) ?_
  refine ql_ro rfl (fun w hS => ro_fieldAddr (k := 2) rfl fo_112_2) ?_
  refine ql_ro rfl (fun w hS => let ⟨_, hc⟩ := hS.2.2.2.2.2.2; ro_loadB rfl sc_77 hc rfl) ?_
  refine ql_ro rfl (fun w hS => ro_fieldAddr (k := 4) rfl fo_148_4) ?_
  refine ql_ro rfl (fun w hS => ro_loadB rfl sc_3 (hS.2.2.2.2.2.1) rfl) ?_
  refine ql_ro rfl (fun w hS => ro_indexAddr (et := 148) (k := 8) rfl rfl se_77 (rfl) (hAl2)) ?_
  refine ql_ro rfl (fun w hS => ro_loadAggB rfl ag_148 (hS.1) (rfl) (hpA2)) ?_
  refine ql_new rfl ze_148 (fun w1 F ↦ ⟨F.blkN hN, F.blkN h3, F.blkN h4, F.blkN h6, F.blkN h7, F.blkN h8, (hR.dr.thruN F).rz⟩) ?_
  intro b9 w14 hbb9 h9 F14
  have hbsb9 := Nat.le_trans hF.size hbb9
  have hnegnb9 : gn < b9 := Nat.lt_of_lt_of_le hN.lt hbb9
  have hneb3b9 : b3 < b9 := Nat.lt_of_lt_of_le h3.lt hbb9
  have hneb4b9 : b4 < b9 := Nat.lt_of_lt_of_le h4.lt hbb9
  have hneb6b9 : b6 < b9 := Nat.lt_of_lt_of_le h6.lt hbb9
  have hneb7b9 : b7 < b9 := Nat.lt_of_lt_of_le h7.lt hbb9
  have hneb8b9 : b8 < b9 := Nat.lt_of_lt_of_le h8.lt hbb9
  have kh9 := hR.df b9 hbb9
  replace hF := hF.thenDrew.thenN F14
  replace hN := F14.blkN hN
  replace h3 := F14.blkN h3
  replace hR := hR.thruN ((Fram.refl none' _).thenDrew.thenN F14)
  replace h4 := F14.blkN h4
  replace h6 := F14.blkN h6
  replace h7 := F14.blkN h7
  replace h8 := F14.blkN h8
  refine ql_puta rfl rfl rfl ((ndc_one _)) sz_148 (rfl) h9 ((by simp)) ((show _ = ndc (nd G (nd G (nd G tn).A).Nx, pA2) from rfl)) (fun w15 h9 F15 => ?_)
  replace hF := hF.thenDrew.thenO F15 (by first | exact .inr (by omega) | exact .inl rfl | exact .inl (by assumption) | assumption)
  replace hN := F15.blkO hN (by first | omega | exact ow_ne (by assumption) (by assumption) (by omega))
  replace h3 := F15.blkO h3 (by first | omega | exact ow_ne (by assumption) (by assumption) (by omega))
  replace hR := hR.hbput ((Fram.refl (one b9) _).thenDrew.thenO F15 (.inl rfl))
  replace h4 := F15.blkO h4 (by first | omega | exact ow_ne (by assumption) (by assumption) (by omega))
  replace h6 := F15.blkO h6 (by first | omega | exact ow_ne (by assumption) (by assumption) (by omega))
  replace h7 := F15.blkO h7 (by first | omega | exact ow_ne (by assumption) (by assumption) (by omega))
  replace h8 := F15.blkO h8 (by first | omega | exact ow_ne (by assumption) (by assumption) (by omega))
  refine x_then (hK18 _ _ ?_)
  clear hK18 K18
  refine forget [(0, _), (3, _), (4, _), (6, _), (7, _), (8, _), (9, _)] ⟨rfl, rfl, rfl, rfl, rfl, rfl, rfl, trivial⟩ (fun e => ?_)
  refine c_seq (fun K19 hK19 => ?_)
  refine c_reg ?_ -- region 26 compm.go:537
  refine wl (ro_fieldAddr (k := 6) rfl fo_148_6) ?_
  refine wl (ro_loadB rfl sc_9 (by assumption) rfl) ?_
  refine wl (ro_loadAggB rfl ag_119 (by assumption) rfl rfl) ?_
  refine wl (ro_fieldAddr (k := 3) rfl fo_161_3) ?_
  refine wl (ro_loadB rfl sc_120 (by assumption) rfl) ?_
  refine wl (ro_build rfl bld_159_0_1_2) ?_
  refine wl_box (cs := (evc β ⟨(nd G (nd G tn).A).S, sP.top 1, te⟩)) rfl rfl (fun b179 w16 hbb179 h179 F16 => ?_)
  have hbsb179 := Nat.le_trans hF.size hbb179
  have hnegnb179 : gn < b179 := Nat.lt_of_lt_of_le hN.lt hbb179
  have hneb3b179 : b3 < b179 := Nat.lt_of_lt_of_le h3.lt hbb179
  have hneb4b179 : b4 < b179 := Nat.lt_of_lt_of_le h4.lt hbb179
  have hneb6b179 : b6 < b179 := Nat.lt_of_lt_of_le h6.lt hbb179
  have hneb7b179 : b7 < b179 := Nat.lt_of_lt_of_le h7.lt hbb179
  have hneb8b179 : b8 < b179 := Nat.lt_of_lt_of_le h8.lt hbb179
  have hneb9b179 : b9 < b179 := Nat.lt_of_lt_of_le h9.lt hbb179
  have kh179 := hR.df b179 hbb179
  replace hF := hF.thenDrew.thenN F16
  replace hN := F16.blkN hN
  replace h3 := F16.blkN h3
  replace hR := hR.thruN ((Fram.refl none' _).thenDrew.thenN F16)
  replace h4 := F16.blkN h4
  replace h6 := F16.blkN h6
  replace h7 := F16.blkN h7
  replace h8 := F16.blkN h8
  replace h9 := F16.blkN h9
  refine wl (ro_assign rfl) ?_
  refine wl_nil (x_then (hK19 _ _ ?_))
  clear hK19 K19
  have hRn := hR.newE (z := ⟨(nd G (nd G tn).A).S, sP.top 1, te⟩) h179 (hetP)
  replace khN := ot_kR hRn khN (by first | omega | exact ow_ne (by assumption) (by assumption) (by omega))
  replace kh3 := ot_kR hRn kh3 (by first | omega | exact ow_ne (by assumption) (by assumption) (by omega))
  replace kh4 := ot_kR hRn kh4 (by first | omega | exact ow_ne (by assumption) (by assumption) (by omega))
  replace kh6 := ot_kR hRn kh6 (by first | omega | exact ow_ne (by assumption) (by assumption) (by omega))
  replace kh7 := ot_kR hRn kh7 (by first | omega | exact ow_ne (by assumption) (by assumption) (by omega))
  replace kh8 := ot_kR hRn kh8 (by first | omega | exact ow_ne (by assumption) (by assumption) (by omega))
  replace kh9 := ot_kR hRn kh9 (by first | omega | exact ow_ne (by assumption) (by assumption) (by omega))
  replace hX := ot_xR hRn hX (by omega)
  replace hR := hRn
  refine c_reg ?_ -- region 27 compm.go:538
  refine wl (ro_move rfl) ?_
  refine wl (ro_fieldAddr (k := 4) rfl fo_148_4) ?_
  refine wl (ro_loadB rfl sc_3 (by assumption) rfl) ?_
  refine wl (ro_fieldAddr (k := 6) rfl fo_148_6) ?_
  refine wl (ro_loadB rfl sc_9 (by assumption) rfl) ?_
  refine wl (ro_loadAggB rfl ag_119 (by assumption) rfl rfl) ?_
  refine wl (ro_move rfl) ?_
  refine wl (ro_build rfl bld_159_0_1_2) ?_
  refine wl_box rfl rfl (fun b188 w17 hbb188 h188 F17 => ?_)
  have hbsb188 := Nat.le_trans hF.size hbb188
  have hnegnb188 : gn < b188 := Nat.lt_of_lt_of_le hN.lt hbb188
  have hneb3b188 : b3 < b188 := Nat.lt_of_lt_of_le h3.lt hbb188
  have hneb4b188 : b4 < b188 := Nat.lt_of_lt_of_le h4.lt hbb188
  have hneb6b188 : b6 < b188 := Nat.lt_of_lt_of_le h6.lt hbb188
  have hneb7b188 : b7 < b188 := Nat.lt_of_lt_of_le h7.lt hbb188
  have hneb8b188 : b8 < b188 := Nat.lt_of_lt_of_le h8.lt hbb188
  have hneb9b188 : b9 < b188 := Nat.lt_of_lt_of_le h9.lt hbb188
  have kh188 := hR.df b188 hbb188
  replace hF := hF.thenDrew.thenN F17
  replace hN := F17.blkN hN
  replace h3 := F17.blkN h3
  replace hR := hR.thruN ((Fram.refl none' _).thenDrew.thenN F17)
  replace h4 := F17.blkN h4
  replace h6 := F17.blkN h6
  replace h7 := F17.blkN h7
  replace h8 := F17.blkN h8
  replace h9 := F17.blkN h9
  have h188 := evc_app (β := β) (nd G (nd G (nd G tn).A).Nx).S (sP.top 0) h188
  have hRn := hR.newE (z := ⟨(nd G (nd G (nd G tn).A).Nx).S, sP.top 0, β.length + 1⟩) h188 ((by rw [← hR.el]; simp))
  replace khN := ot_kR hRn khN (by first | omega | exact ow_ne (by assumption) (by assumption) (by omega))
  replace kh3 := ot_kR hRn kh3 (by first | omega | exact ow_ne (by assumption) (by assumption) (by omega))
  replace kh4 := ot_kR hRn kh4 (by first | omega | exact ow_ne (by assumption) (by assumption) (by omega))
  replace kh6 := ot_kR hRn kh6 (by first | omega | exact ow_ne (by assumption) (by assumption) (by omega))
  replace kh7 := ot_kR hRn kh7 (by first | omega | exact ow_ne (by assumption) (by assumption) (by omega))
  replace kh8 := ot_kR hRn kh8 (by first | omega | exact ow_ne (by assumption) (by assumption) (by omega))
  replace kh9 := ot_kR hRn kh9 (by first | omega | exact ow_ne (by assumption) (by assumption) (by omega))
  replace hX := ot_xR hRn hX (by omega)
  replace hR := hRn
  have hlen7 : (inew (nd G (nd G tn).A).S (sP.top 1) te (idrop 2 sP)).last = β.length + 1 := by show (inew (nd G (nd G tn).A).S (sP.top 1) te (idrop 2 sP)).envs.length = _; rw [new_len, helP]; rfl
  have hlen8 : ∀ u, (inew (nd G (nd G (nd G tn).A).Nx).S (sP.top 0) u (inew (nd G (nd G tn).A).S (sP.top 1) te (idrop 2 sP))).last = (β ++ [b179]).length + 1 := fun u => by show (inew (nd G (nd G (nd G tn).A).Nx).S (sP.top 0) u (inew (nd G (nd G tn).A).S (sP.top 1) te (idrop 2 sP))).envs.length = _; rw [new_len, new_len, List.length_append, helP]; rfl
  refine wl_call rfl en_55 (do55 (k := 1) (n := (nd G tn).Nx) (x := 0) hR.dr (EP.new _ _) (by omega)) ?_
  rintro _ u18 ⟨rfl, ow18, x18, f18, r18⟩
  obtain ⟨hN, khN⟩ := cm_loc x18 f18 hN khN
  obtain ⟨h3, kh3⟩ := cm_loc x18 f18 h3 kh3
  obtain ⟨h4, kh4⟩ := cm_loc x18 f18 h4 kh4
  obtain ⟨h6, kh6⟩ := cm_loc x18 f18 h6 kh6
  obtain ⟨h7, kh7⟩ := cm_loc x18 f18 h7 kh7
  obtain ⟨h8, kh8⟩ := cm_loc x18 f18 h8 kh8
  obtain ⟨h9, kh9⟩ := cm_loc x18 f18 h9 kh9
  have hs18 := hF.size
  replace hF := cm_trans hX hF f18
  replace hX := hX.trans hs18 x18
  replace hR := r18
  refine wl_nil (x_blk ?_)
  refine bp_end Tryz.results33 rfl ?_
  refine ⟨rfl, ?_⟩
  rw [hgoal]
  unfold istep1
  simp only [Nat.reduceEqDiff, reduceIte]
  try rw [hmod]
  try simp only [hnx]
  try rw [hlen7]
  try rw [hlen8]
  try (rw [burn_if (by exact P.b.dn)]; first | rw [if_pos (by exact hfu)] | rw [if_neg (by exact hfu)])
  repeat (first | rw [if_pos (by first | assumption | omega)] | rw [if_neg (by first | assumption | omega)])
  first
  | exact hf0 hX hF hR (by omega)
  | exact hf1 hX hF hR (by omega)
  | exact hf2 hX hF hR (by omega)
  | exact hf9 hX hF hR (by omega)

end Go.Proofs.Qxb6500568aGreatDoor
