import Derived.Test.Qxb6500568aGreatDoorYv
/- The interpreter: step, tasks of the kinds 8 to 10. -/
namespace Go.Proofs.Qxb6500568aGreatDoor
open Ieee
set_option linter.unusedVariables false
set_option linter.unusedSimpArgs false
set_option linter.unusedSectionVars false

set_option maxHeartbeats 8000000 in
theorem step33_8 {G : Arena} {root : Nat} {np : Value} {tb rb : Nat} {nv : Value} {w : World} {ow : Nat → Nat} {β τ : List Nat} {m : Nat} {s : IS} (hR : RM G root np tb rb nv w ow β τ m s) (hG : 0 < G.length) (hAG : AOK G) (h0K : (nd G 0).K = 0) (hI : IA G root s) (ht0 : 0 < s.tabs.length) (hm : m ≤ 19900) {tn tx te : Nat} {r : List Tk} (htk : s.th.tasks = ⟨8, tn, tx, te⟩ :: r) :
    Ret Tryz.prog 33 [ptr rb] w (fun r w' => r = .tuple #[] ∧ ∃ bs τ', RP G root np tb rb nv w ow (β ++ bs) (τ ++ τ') (m + 12) (istep G root s) w') := by
  obtain ⟨hok, hnu, htb, T, h, P0, hT0⟩ := hI
  have hTe := P0.t.symm.trans htk
  subst hTe
  have hF : Fram (tg ow cmT) w w := Fram.refl _ _
  have hX : Xt w ow ow := Xt.refl _ _
  have hmr := hR.mem_r
  have hgoal : istep G root s = istep1 G root ⟨8, tn, tx, te⟩ s (s.setT { s.th with tasks := r }) := by unfold istep; rw [htk]
  have het : te ≤ s.envs.length := by have q := hT0; unfold TkI at q; exact q.1
  have hel : te ≤ β.length := by rw [hR.el]; exact het
  have heP : EP β te (epo β te) := EP.mk' hel
  have htl : s.th.tasks.length = r.length + 1 := by rw [htk]; rfl
  have hcl0 := P0.cl
  have hokP : IOK (s.setT { s.th with tasks := r }) := hok.setT hok.th
  have hP0 : 0 < (s.setT { s.th with tasks := r }).tabs.length := ht0
  have htop : ∀ i, (s.setT { s.th with tasks := r }).top i = s.top i := fun i => by unfold IS.top; rw [th_setT hcl0]
  have hclP : (s.setT { s.th with tasks := r }).cur < (s.setT { s.th with tasks := r }).ths.length := by simpa [IS.setT] using hcl0
  have hetP : te ≤ (s.setT { s.th with tasks := r }).envs.length := het
  have P : PW G root (s.setT { s.th with tasks := r }) r h := P0.pop (t := ⟨8, tn, tx, te⟩) (show (8 : Nat) ≠ 3 by decide)
  obtain ⟨-, hn, -, hf, hk, hT⟩ := hT0.inv (t := ⟨8, tn, tx, te⟩) (show (8 : Nat) ≠ 3 by decide)
  have hn : tn < G.length := hn
  have hvl : (s.setT { s.th with tasks := r }).th.vals.length = h := P.v
  have hokt : ∀ i, ok (s.setT { s.th with tasks := r }) ((s.setT { s.th with tasks := r }).top i) := fun i => IOK.getD hokP.th i
  have hnh := hokP.nh
  have hnc := hokP.nc
  have hnn := (hAG tn).1
  obtain ⟨gn, capn, ln, rfl, hN, khN, hcapn, hrow⟩ := hR.nodes hG
  obtain ⟨pn, hpn⟩ := hrow tn hn
  have hf9 : ∀ {u : World} {ow' : Nat → Nat} {m' : Nat} {s' : IS} {bs τ' : List Nat}, Xt w ow ow' → Fram (tg ow cmT) w u → RM G root np tb rb (.slice (some ⟨gn, 0, none⟩) G.length capn) u ow' (β ++ bs) (τ ++ τ') m' s' → m' ≤ m + 12 → ∃ bs τ', RP G root np tb rb (.slice (some ⟨gn, 0, none⟩) G.length capn) w ow (β ++ bs) (τ ++ τ') (m + 12) s' u := fun {_ _ _ _ bs τ'} h1 h2 h3 h4 => ⟨bs, τ', _, h1, h2, h3.le h4⟩
  have hf0 : ∀ {u : World} {ow' : Nat → Nat} {m' : Nat} {s' : IS}, Xt w ow ow' → Fram (tg ow cmT) w u → RM G root np tb rb (.slice (some ⟨gn, 0, none⟩) G.length capn) u ow' β τ m' s' → m' ≤ m + 12 → ∃ bs τ', RP G root np tb rb (.slice (some ⟨gn, 0, none⟩) G.length capn) w ow (β ++ bs) (τ ++ τ') (m + 12) s' u := fun h1 h2 h3 h4 => hf9 (bs := []) (τ' := []) h1 h2 (by rw [List.append_nil, List.append_nil]; exact h3) h4
  have hf1 : ∀ {u : World} {ow' : Nat → Nat} {m' : Nat} {s' : IS} {bs : List Nat}, Xt w ow ow' → Fram (tg ow cmT) w u → RM G root np tb rb (.slice (some ⟨gn, 0, none⟩) G.length capn) u ow' (β ++ bs) τ m' s' → m' ≤ m + 12 → ∃ bs τ', RP G root np tb rb (.slice (some ⟨gn, 0, none⟩) G.length capn) w ow (β ++ bs) (τ ++ τ') (m + 12) s' u := fun {_ _ _ _ bs} h1 h2 h3 h4 => hf9 (bs := bs) (τ' := []) h1 h2 (by rw [List.append_nil]; exact h3) h4
  have hf2 : ∀ {u : World} {ow' : Nat → Nat} {m' : Nat} {s' : IS} {b1 b2 : Nat}, Xt w ow ow' → Fram (tg ow cmT) w u → RM G root np tb rb (.slice (some ⟨gn, 0, none⟩) G.length capn) u ow' (β ++ [b1] ++ [b2]) τ m' s' → m' ≤ m + 12 → ∃ bs τ', RP G root np tb rb (.slice (some ⟨gn, 0, none⟩) G.length capn) w ow (β ++ bs) (τ ++ τ') (m + 12) s' u := fun {_ _ _ _ b1 b2} h1 h2 h3 h4 => hf9 (bs := [b1, b2]) (τ' := []) h1 h2 (by rw [List.append_nil]; rw [List.append_assoc] at h3; exact h3) h4
  refine ret_of Tryz.func33 rfl Tryz.ntmps33 rfl ?_
  refine c_seq (fun K1 hK1 => ?_)
  obtain ⟨cv, a0, a1, a2, a3, a4, gT, capT, lT, bT, tvT, vvT, hXr, hO, hlT, hcapT, hbT, hTh, hgT⟩ := hR.open
  have hB := hTh.k
  have hkb := hTh.t
  have hclT := hR.cl
  unfold rnc at hXr
  have hk70 := hR.t70
  have hbdd := hR.bdm
  refine c_pi [(0, false), (1, false), (2, false), (3, false), (4, false), (5, false), (6, false), (7, false), (8, false), (9, false), (10, false)] (SameH _) mixed (by kernel_rfl) rfl (by kernel_rfl) (po_then (po_bp)) (sameH_now _ _) ?_ -- region 0 compm.go:509
  refine pi_ro rfl (fun w hS => ro_move rfl) ?_
  refine pi_ro rfl (fun w hS => ro_nilCheck rfl) ?_
  refine pi_ro rfl (fun w hS => ro_fieldAddr (k := 5) rfl fo_112_5) ?_
  refine pi_ro rfl (fun w hS => ro_loadB rfl sc_109 (Blk.of_heap (by assumption) hS) rfl) ?_
  refine pi_ro rfl (fun w hS => ro_move rfl) ?_
  refine pi_ro rfl (fun w hS => ro_nilCheck rfl) ?_
  refine pi_ro rfl (fun w hS => ro_fieldAddr (k := 12) rfl fo_112_8) ?_
  refine pi_ro rfl (fun w hS => ro_loadB rfl sc_3 (Blk.of_heap (by assumption) hS) rfl) ?_
  refine pi_ro rfl (fun w hS => ro_indexAddr (et := 123) (k := 1) rfl rfl se_109 rfl (by omega)) ?_
  refine pi_ro rfl (fun w hS => ro_loadB rfl sc_123 (Blk.of_heap hO hS) (hlT)) ?_
  refine pi_ro rfl (fun w hS => ro_assign rfl) ?_
  refine pi_nil (x_then (hK1 _ _ ?_))
  clear hK1 K1
  refine forget [(0, _), (2, _)] ⟨rfl, rfl, trivial⟩ (fun e => ?_)
  refine c_seq (fun K2 hK2 => ?_)
  have hts0 := hTh.ts
  rw [htk] at hts0
  obtain ⟨gt, capt, lt, e1, hV, q1, q2, q3, q4⟩ := hts0.atR (tsc_len β) (j := 0) rfl
  subst e1
  obtain ⟨va, vc, rfl⟩ := hTh.vs.form
  have hrl : ((⟨8, tn, tx, te⟩ : Tk) :: r).length = r.length + 1 := rfl
  refine c_piL 13 [(0, false), (1, false), (2, false), (3, false), (4, false), (5, false), (6, false), (7, false), (8, false), (9, false), (10, false), (11, false), (12, true)] (La bT _ _ (La gt _ _ (fun _ => True))) mixed (by kernel_rfl) rfl (by kernel_rfl) (po_then (po_bp)) (⟨hB, hV, trivial⟩) ?_ -- region 1 compm.go:510
  refine ql_ro rfl (fun w hS => ro_move rfl) ?_
  refine ql_ro rfl (fun w hS => ro_nilCheck rfl) ?_
  refine ql_ro rfl (fun w hS => ro_fieldAddr (k := 3) rfl fo_126_3) ?_
  refine ql_ro rfl (fun w hS => ro_loadB rfl sc_124 (hS.1) rfl) ?_
  refine ql_ro rfl (fun w hS => ro_move rfl) ?_
  refine ql_ro rfl (fun w hS => ro_nilCheck rfl) ?_
  refine ql_ro rfl (fun w hS => ro_fieldAddr (k := 3) rfl fo_126_3) ?_
  refine ql_ro rfl (fun w hS => ro_loadB rfl sc_124 (hS.1) rfl) ?_
  refine ql_ro rfl (fun w hS => ro_lenL rfl se_124) ?_
  refine ql_ro rfl (fun w hS => ro_arith rfl rfl rfl (Go.IntWalk.i64_in _ (by omega))) ?_
  refine ql_ro rfl (fun w hS => ro_indexAddr (et := 161) (k := 4) rfl rfl se_124 ((show ((((⟨8, tn, tx, te⟩ : Tk) :: r).length : Int) - 1) = ((((⟨8, tn, tx, te⟩ : Tk) :: r).length - 1 - 0 : Nat) : Int) by omega)) ((by omega))) ?_
  refine ql_ro rfl (fun w hS => ro_loadAggB rfl ag_161 (hS.2.1) (rfl) (q4)) ?_
  refine ql_new rfl ze_161 (fun w1 F ↦ ⟨F.blkN hB, F.blkN hV, trivial⟩) ?_
  intro b3 w1 hbb3 h3 F1
  have hbsb3 := Nat.le_trans hF.size hbb3
  have hnegnb3 : gn < b3 := Nat.lt_of_lt_of_le hN.lt hbb3
  have hnegTb3 : gT < b3 := Nat.lt_of_lt_of_le hO.lt hbb3
  have hnebTb3 : bT < b3 := Nat.lt_of_lt_of_le hB.lt hbb3
  have hnerbb3 : rb < b3 := Nat.lt_of_lt_of_le hXr.lt hbb3
  have hnegtb3 : gt < b3 := Nat.lt_of_lt_of_le hV.lt hbb3
  have kh3 := hR.df b3 hbb3
  replace hF := hF.thenDrew.thenN F1
  replace hR := hR.thruN ((Fram.refl none' _).thenDrew.thenN F1)
  replace hN := F1.blkN hN
  replace hO := F1.blkN hO
  replace hB := F1.blkN hB
  replace hXr := F1.blkN hXr
  replace hV := F1.blkN hV
  refine ql_puta rfl rfl rfl ((tsc_one _ _)) sz_161 (rfl) h3 ((by simp)) ((show _ = [i64c 8, i64c tn, i64c tx, .pointer (epo β te)] from rfl)) (fun w2 h3 F2 => ?_)
  replace hF := hF.thenDrew.thenO F2 (by first | exact .inr (by omega) | exact .inl rfl | exact .inl (by assumption) | assumption)
  replace hR := hR.hbput ((Fram.refl (one b3) _).thenDrew.thenO F2 (.inl rfl))
  replace hN := F2.blkO hN (by first | omega | exact ow_ne (by assumption) (by assumption) (by omega))
  replace hO := F2.blkO hO (by first | omega | exact ow_ne (by assumption) (by assumption) (by omega))
  replace hB := F2.blkO hB (by first | omega | exact ow_ne (by assumption) (by assumption) (by omega))
  replace hXr := F2.blkO hXr (by first | omega | exact ow_ne (by assumption) (by assumption) (by omega))
  replace hV := F2.blkO hV (by first | omega | exact ow_ne (by assumption) (by assumption) (by omega))
  refine x_then (hK2 _ _ ?_)
  clear hK2 K2
  refine forget [(0, _), (2, _), (3, _)] ⟨rfl, rfl, rfl, trivial⟩ (fun e => ?_)
  refine c_seq (fun K3 hK3 => ?_)
  obtain ⟨b0, hb0⟩ : ∃ b0, b0 = bT := ⟨_, rfl⟩
  subst hb0
  have hb0 := hbT
  clear hTh hkb hlT hbT hcapT hgT hclT hk70 hB hO hXr hV q4 q3 q2 q1 hts0
  obtain ⟨cv, a0, a1, a2, a3, a4, gT, capT, lT, bT, tvT, vvT, hXr, hO, hlT, hcapT, hbT, hTh, hgT⟩ := hR.open
  have hB := hTh.k
  have hkb := hTh.t
  have hclT := hR.cl
  unfold rnc at hXr
  have hk70 := hR.t70
  have hbe : bT = b0 := Option.some.inj (hbT.symm.trans hb0)
  subst hbe
  obtain ⟨ta, tc, rfl⟩ := hTh.ts.form
  obtain ⟨va2, vc2, rfl⟩ := hTh.vs.form
  have hcapt := hTh.ts.capge
  have htr := hTh.ts.dropR (tsc_len β) 1
  rw [htl, htk] at htr
  have hmb := hX.memC (hR.mem_b hR.cl hTh.t)
  refine c_piL 14 [(0, false), (1, false), (2, false), (3, false), (4, false), (5, false), (6, false), (7, false), (8, false), (9, false), (10, false), (11, false), (12, false), (13, false)] (SameH _) mixed (by kernel_rfl) rfl (by kernel_rfl) (po_then (po_bp)) (sameH_now _ _) ?_ -- region 2 compm.go:511
  refine ql_ro rfl (fun w hS => ro_move rfl) ?_
  refine ql_ro rfl (fun w hS => ro_move rfl) ?_
  refine ql_ro rfl (fun w hS => ro_nilCheck rfl) ?_
  refine ql_ro rfl (fun w hS => ro_fieldAddr (k := 3) rfl fo_126_3) ?_
  refine ql_ro rfl (fun w hS => ro_loadB rfl sc_124 (Blk.of_heap (by assumption) hS) rfl) ?_
  refine ql_ro rfl (fun w hS => ro_move rfl) ?_
  refine ql_ro rfl (fun w hS => ro_nilCheck rfl) ?_
  refine ql_ro rfl (fun w hS => ro_fieldAddr (k := 3) rfl fo_126_3) ?_
  refine ql_ro rfl (fun w hS => ro_loadB rfl sc_124 (Blk.of_heap (by assumption) hS) rfl) ?_
  refine ql_ro rfl (fun w hS => ro_lenL rfl se_124) ?_
  refine ql_ro rfl (fun w hS => ro_arith rfl rfl rfl (Go.IntWalk.i64_in _ (by omega))) ?_
  refine ql_ro rfl (fun w hS => ro_sliceH (h := r.length) rfl rfl se_124 (by omega) (by omega)) ?_
  refine ql_ro rfl (fun w hS => ro_nilCheck rfl) ?_
  refine ql_ro rfl (fun w hS => ro_fieldAddr (k := 3) rfl fo_126_3) ?_
  refine ql_put rfl rfl rfl rfl sz_124 hB ((by simp)) (rfl) (fun w3 hB F3 => ?_)
  replace hF := hF.thenDrew.thenO F3 (by first | exact .inr (by omega) | exact .inl rfl | exact .inl (by assumption) | assumption)
  replace hN := F3.blkO hN (by first | omega | exact ow_ne (by assumption) (by assumption) (by omega))
  replace h3 := F3.blkO h3 (by first | omega | exact ow_ne (by assumption) (by assumption) (by omega))
  replace hO := F3.blkO hO (by first | omega | exact ow_ne (by assumption) (by assumption) (by omega))
  replace hXr := F3.blkO hXr (by first | omega | exact ow_ne (by assumption) (by assumption) (by omega))
  have hR2 := hR.thr' (y := { s.th with tasks := r }) hbT hTh.t htr hTh.vs ((Fram.refl (one bT) _).thenDrew.thenO F3 (.inl rfl)) hB (fun z hz => hR.tem z (by rw [htk]; exact List.mem_cons_of_mem _ hz)) (by have := hR.bdm; rw [htl] at this; exact ⟨by show r.length ≤ m; omega, this.2⟩)
  replace hR := hR2
  obtain ⟨b0, hb1⟩ : ∃ b0, b0 = bT := ⟨_, rfl⟩
  subst hb1
  have hb0 : τ[(s.setT { s.th with tasks := r }).cur]? = some b0 := hbT
  clear hTh hkb hlT hbT hcapT hgT hclT hk70 hB hO hXr htr hmb hcapt hbdd
  generalize hsP : s.setT { s.th with tasks := r } = sP at *
  have hbdP := hR.bdm
  refine x_then (hK3 _ _ ?_)
  clear hK3 K3
  refine forget [(0, _), (2, _), (3, _)] ⟨rfl, rfl, rfl, trivial⟩ (fun e => ?_)
  refine c_seq (fun K4 hK4 => ?_)
  refine c_reg ?_ -- region 3 compm.go:512
  refine wl_new (ze_148) (fun b4 w4 hbb4 h4 F4 => ?_)
  have hbsb4 := Nat.le_trans hF.size hbb4
  have hnegnb4 : gn < b4 := Nat.lt_of_lt_of_le hN.lt hbb4
  have hneb3b4 : b3 < b4 := Nat.lt_of_lt_of_le h3.lt hbb4
  have kh4 := hR.df b4 hbb4
  replace hF := hF.thenDrew.thenN F4
  replace hN := F4.blkN hN
  replace h3 := F4.blkN h3
  replace hR := hR.thruN ((Fram.refl none' _).thenDrew.thenN F4)
  refine wl_nil (x_then (hK4 _ _ ?_))
  clear hK4 K4
  refine c_seq (fun K5 hK5 => ?_)
  refine c_seq (fun K6 hK6 => ?_)
  refine c_reg ?_ -- region 4 compm.go:513
  refine wl (ro_fieldAddr (k := 0) rfl fo_161_0) ?_
  refine wl (ro_loadB rfl sc_3 (by assumption) rfl) ?_
  refine wl (ro_cmp rfl rfl rfl) ?_
  refine wl_nil (x_then (hK6 _ _ ?_))
  clear hK6 K6
  refine wc_condT rfl ?_
  obtain ⟨cv, hv_, a0, a1, a2, a3, a4, hXr, hq2, hq3, hq4⟩ := hR.r
  unfold rnc at hXr
  have hk70 := hR.t70
  refine c_piL 8 [(0, false), (1, false), (2, false), (3, false), (4, false), (5, false), (6, false), (7, false)] (SameH _) mixed (by kernel_rfl) rfl (by kernel_rfl) (po_then (po_bp)) (sameH_now _ _) ?_ -- region 5 compm.go:514
  refine ql_ro rfl (fun w hS => ro_move rfl) ?_
  refine ql_ro rfl (fun w hS => ro_nilCheck rfl) ?_
  refine ql_ro rfl (fun w hS => ro_fieldAddr (k := 2) rfl fo_112_2) ?_
  refine ql_ro rfl (fun w hS => ro_loadB rfl sc_77 (Blk.of_heap (by assumption) hS) rfl) ?_
  refine ql_ro rfl (fun w hS => ro_fieldAddr (k := 1) rfl fo_161_1) ?_
  refine ql_ro rfl (fun w hS => ro_loadB rfl sc_3 (Blk.of_heap (by assumption) hS) rfl) ?_
  refine ql_ro rfl (fun w hS => ro_indexAddr (et := 148) (k := 8) rfl rfl se_77 (rfl) (hn)) ?_
  refine ql_ro rfl (fun w hS => ro_loadAggB rfl ag_148 (Blk.of_heap hN hS) (rfl) (hpn)) ?_
  refine ql_puta rfl rfl rfl ((ndc_one _)) sz_148 (rfl) h4 ((by simp)) ((show _ = ndc (nd G tn, pn) from rfl)) (fun w5 h4 F5 => ?_)
  replace hF := hF.thenDrew.thenO F5 (by first | exact .inr (by omega) | exact .inl rfl | exact .inl (by assumption) | assumption)
  replace hN := F5.blkO hN (by first | omega | exact ow_ne (by assumption) (by assumption) (by omega))
  replace h3 := F5.blkO h3 (by first | omega | exact ow_ne (by assumption) (by assumption) (by omega))
  replace hR := hR.hbput ((Fram.refl (one b4) _).thenDrew.thenO F5 (.inl rfl))
  replace hXr := F5.blkO hXr (by first | omega | exact ow_ne (by assumption) (by assumption) (by omega))
  refine x_then (hK5 _ _ ?_)
  clear hK5 K5
  refine forget [(0, _), (2, _), (3, _), (4, _)] ⟨rfl, rfl, rfl, rfl, trivial⟩ (fun e => ?_)
  refine c_seq (fun K7 hK7 => ?_)
  have hf : flT r + 1 ≤ h := hf
  have hk : te ≠ 0 ∧ SB G (nd G tn).Nx r (h - 1) 1 := hk
  obtain ⟨bE, zE, hpo, hV0, hEz, hEt⟩ := hR.var (e := te) hk.1 hetP
  have heP2 := heP
  rw [hpo] at heP2
  rw [hpo] at h3
  refine c_reg ?_ -- region 6 compm.go:516
  refine wl (ro_fieldAddr (k := 0) rfl fo_161_0) ?_
  refine wl (ro_loadB rfl sc_3 (by assumption) rfl) ?_
  refine wl_nil (x_then (hK7 _ _ ?_))
  clear hK7 K7
  refine c_block ?_
  refine forget [(0, _), (2, _), (3, _), (4, _), (92, _)] ⟨rfl, rfl, rfl, rfl, rfl, trivial⟩ (fun e => ?_)
  refine c_seq (fun K8 hK8 => ?_)
  refine c_reg ?_ -- region 7 compm.go:517
  refine wl (ro_cmp rfl rfl rfl) ?_
  refine wl (ro_assign rfl) ?_
  refine wl_nil (x_then (hK8 _ _ ?_))
  clear hK8 K8
  refine wc_condF rfl ?_
  refine c_seq (fun K9 hK9 => ?_)
  refine c_reg ?_ -- region 10 compm.go:521
  refine wl (ro_cmp rfl rfl rfl) ?_
  refine wl (ro_assign rfl) ?_
  refine wl_nil (x_then (hK9 _ _ ?_))
  clear hK9 K9
  refine wc_condF rfl ?_
  refine c_seq (fun K10 hK10 => ?_)
  refine c_reg ?_ -- region 12 compm.go:523
  refine wl (ro_cmp rfl rfl rfl) ?_
  refine wl (ro_assign rfl) ?_
  refine wl_nil (x_then (hK10 _ _ ?_))
  clear hK10 K10
  refine wc_condF rfl ?_
  refine c_seq (fun K11 hK11 => ?_)
  refine c_reg ?_ -- region 15 compm.go:526
  refine wl (ro_cmp rfl rfl rfl) ?_
  refine wl (ro_assign rfl) ?_
  refine wl_nil (x_then (hK11 _ _ ?_))
  clear hK11 K11
  refine wc_condF rfl ?_
  refine c_seq (fun K12 hK12 => ?_)
  refine c_reg ?_ -- region 16 compm.go:527
  refine wl (ro_cmp rfl rfl rfl) ?_
  refine wl (ro_assign rfl) ?_
  refine wl_nil (x_then (hK12 _ _ ?_))
  clear hK12 K12
  refine wc_condF rfl ?_
  refine c_seq (fun K13 hK13 => ?_)
  refine c_reg ?_ -- region 18 compm.go:529
  refine wl (ro_cmp rfl rfl rfl) ?_
  refine wl (ro_assign rfl) ?_
  refine wl_nil (x_then (hK13 _ _ ?_))
  clear hK13 K13
  refine wc_condF rfl ?_
  refine c_seq (fun K14 hK14 => ?_)
  refine c_reg ?_ -- region 21 compm.go:532
  refine wl (ro_cmp rfl rfl rfl) ?_
  refine wl (ro_assign rfl) ?_
  refine wl_nil (x_then (hK14 _ _ ?_))
  clear hK14 K14
  refine wc_condF rfl ?_
  refine c_seq (fun K15 hK15 => ?_)
  refine c_reg ?_ -- region 28 compm.go:539
  refine wl (ro_cmp rfl rfl rfl) ?_
  refine wl (ro_assign rfl) ?_
  refine wl_nil (x_then (hK15 _ _ ?_))
  clear hK15 K15
  refine wc_condT rfl ?_
  refine c_seq (fun K16 hK16 => ?_)
  refine c_piL 6 [(0, false), (1, false), (2, false), (3, true), (4, false), (5, false)] (La gn _ _ (La b3 _ _ (La b4 _ _ (Lz rb _ _ _)))) mixed (by kernel_rfl) rfl (by kernel_rfl) (po_then (po_blk (po_bp))) (⟨hN, h3, h4, hR.rz⟩) ?_ -- region 29 compm.go:540
  refine ql_ro rfl (fun w hS => ro_fieldAddr (k := 3) rfl fo_161_3) ?_
  refine ql_ro rfl (fun w hS => ro_loadB rfl sc_120 (hS.2.1) rfl) ?_
  refine ql_ro rfl (fun w hS => ro_move rfl) ?_
  refine ql_call rfl rfl en_59 (pop59 hR.dr (by omega) (by omega)) ?_
  rintro _ u6 ⟨rfl, ow6, x6, f6, r6⟩
  obtain ⟨hN, khN⟩ := cm_loc x6 f6 hN khN
  obtain ⟨h3, kh3⟩ := cm_loc x6 f6 h3 kh3
  obtain ⟨h4, kh4⟩ := cm_loc x6 f6 h4 kh4
  have hs6 := hF.size
  replace hF := cm_trans hX hF f6
  replace hX := hX.trans hs6 x6
  replace hR := r6
  refine ⟨⟨hN, h3, h4, hR.rz⟩, ?_⟩
  obtain ⟨bE2, zE2, hpo2, hV, hEz2, hEt2⟩ := hR.var (e := te) hk.1 hetP
  have hbe : bE2 = bE := by rw [hpo] at hpo2; cases hpo2; rfl
  subst hbe
  have hmE := hX.memC (hR.mem_e hEt2)
  refine ql_ro rfl (fun w hS => ro_nilCheck rfl) ?_
  refine ql_ro rfl (fun w hS => ro_fieldAddr (k := 1) rfl fo_159_1) ?_
  refine ql_puta rfl rfl rfl ((pvc_one _)) sz_119 (rfl) hV ((by simp [evc])) ((show _ = evc β { zE2 with v := sP.top 0 } from rfl)) (fun w7 hV F7 => ?_)
  replace hF := hF.thenDrew.thenO F7 (by first | exact .inr (by omega) | exact .inl rfl | exact .inl (by assumption) | assumption)
  replace hN := F7.blkO hN (by first | omega | exact ow_ne (by assumption) (by assumption) (by omega))
  replace h3 := F7.blkO h3 (by first | omega | exact ow_ne (by assumption) (by assumption) (by omega))
  replace h4 := F7.blkO h4 (by first | omega | exact ow_ne (by assumption) (by assumption) (by omega))
  have hR2 := hR.setE (v := sP.top 0) hk.1 (epo_some hpo2) hEz2 hEt2 (F7) hV
  replace hR := hR2
  refine x_then (hK16 _ _ ?_)
  clear hK16 K16
  refine c_reg ?_ -- region 30 compm.go:541
  refine wl (ro_move rfl) ?_
  refine wl (ro_fieldAddr (k := 4) rfl fo_148_4) ?_
  refine wl (ro_loadB rfl sc_3 (by assumption) rfl) ?_
  refine wl (ro_fieldAddr (k := 3) rfl fo_161_3) ?_
  refine wl (ro_loadB rfl sc_120 (by assumption) rfl) ?_
  refine wl_call rfl en_55 (do55 (k := 1) (n := (nd G tn).Nx) (x := 0) hR.dr heP2 (by omega)) ?_
  rintro _ u8 ⟨rfl, ow8, x8, f8, r8⟩
  obtain ⟨hN, khN⟩ := cm_loc x8 f8 hN khN
  obtain ⟨h3, kh3⟩ := cm_loc x8 f8 h3 kh3
  obtain ⟨h4, kh4⟩ := cm_loc x8 f8 h4 kh4
  have hs8 := hF.size
  replace hF := cm_trans hX hF f8
  replace hX := hX.trans hs8 x8
  replace hR := r8
  refine wl_nil (x_blk ?_)
  refine bp_end Tryz.results33 rfl ?_
  refine ⟨rfl, ?_⟩
  rw [hgoal]
  unfold istep1
  simp only [Nat.reduceEqDiff, reduceIte]
  try rw [hmod]
  try simp only [hnx]
  try rw [hlen7]
  try rw [hlen8]
  try (rw [burn_if (by exact P.b.dn)]; first | rw [if_pos (by exact hfu)] | rw [if_neg (by exact hfu)])
  repeat (first | rw [if_pos (by first | assumption | omega)] | rw [if_neg (by first | assumption | omega)])
  first
  | exact hf0 hX hF hR (by omega)
  | exact hf1 hX hF hR (by omega)
  | exact hf2 hX hF hR (by omega)
  | exact hf9 hX hF hR (by omega)

set_option maxHeartbeats 8000000 in
theorem step33_9 {G : Arena} {root : Nat} {np : Value} {tb rb : Nat} {nv : Value} {w : World} {ow : Nat → Nat} {β τ : List Nat} {m : Nat} {s : IS} (hR : RM G root np tb rb nv w ow β τ m s) (hG : 0 < G.length) (hAG : AOK G) (h0K : (nd G 0).K = 0) (hI : IA G root s) (ht0 : 0 < s.tabs.length) (hm : m ≤ 19900) {tn tx te : Nat} {r : List Tk} (htk : s.th.tasks = ⟨9, tn, tx, te⟩ :: r) :
    Ret Tryz.prog 33 [ptr rb] w (fun r w' => r = .tuple #[] ∧ ∃ bs τ', RP G root np tb rb nv w ow (β ++ bs) (τ ++ τ') (m + 12) (istep G root s) w') := by
  obtain ⟨hok, hnu, htb, T, h, P0, hT0⟩ := hI
  have hTe := P0.t.symm.trans htk
  subst hTe
  have hF : Fram (tg ow cmT) w w := Fram.refl _ _
  have hX : Xt w ow ow := Xt.refl _ _
  have hmr := hR.mem_r
  have hgoal : istep G root s = istep1 G root ⟨9, tn, tx, te⟩ s (s.setT { s.th with tasks := r }) := by unfold istep; rw [htk]
  have het : te ≤ s.envs.length := by have q := hT0; unfold TkI at q; exact q.1
  have hel : te ≤ β.length := by rw [hR.el]; exact het
  have heP : EP β te (epo β te) := EP.mk' hel
  have htl : s.th.tasks.length = r.length + 1 := by rw [htk]; rfl
  have hcl0 := P0.cl
  have hokP : IOK (s.setT { s.th with tasks := r }) := hok.setT hok.th
  have hP0 : 0 < (s.setT { s.th with tasks := r }).tabs.length := ht0
  have htop : ∀ i, (s.setT { s.th with tasks := r }).top i = s.top i := fun i => by unfold IS.top; rw [th_setT hcl0]
  have hclP : (s.setT { s.th with tasks := r }).cur < (s.setT { s.th with tasks := r }).ths.length := by simpa [IS.setT] using hcl0
  have hetP : te ≤ (s.setT { s.th with tasks := r }).envs.length := het
  have P : PW G root (s.setT { s.th with tasks := r }) r h := P0.pop (t := ⟨9, tn, tx, te⟩) (show (9 : Nat) ≠ 3 by decide)
  obtain ⟨-, hn, -, hf, hk, hT⟩ := hT0.inv (t := ⟨9, tn, tx, te⟩) (show (9 : Nat) ≠ 3 by decide)
  have hn : tn < G.length := hn
  have hvl : (s.setT { s.th with tasks := r }).th.vals.length = h := P.v
  have hokt : ∀ i, ok (s.setT { s.th with tasks := r }) ((s.setT { s.th with tasks := r }).top i) := fun i => IOK.getD hokP.th i
  have hnh := hokP.nh
  have hnc := hokP.nc
  have hnn := (hAG tn).1
  obtain ⟨gn, capn, ln, rfl, hN, khN, hcapn, hrow⟩ := hR.nodes hG
  obtain ⟨pn, hpn⟩ := hrow tn hn
  have hf9 : ∀ {u : World} {ow' : Nat → Nat} {m' : Nat} {s' : IS} {bs τ' : List Nat}, Xt w ow ow' → Fram (tg ow cmT) w u → RM G root np tb rb (.slice (some ⟨gn, 0, none⟩) G.length capn) u ow' (β ++ bs) (τ ++ τ') m' s' → m' ≤ m + 12 → ∃ bs τ', RP G root np tb rb (.slice (some ⟨gn, 0, none⟩) G.length capn) w ow (β ++ bs) (τ ++ τ') (m + 12) s' u := fun {_ _ _ _ bs τ'} h1 h2 h3 h4 => ⟨bs, τ', _, h1, h2, h3.le h4⟩
  have hf0 : ∀ {u : World} {ow' : Nat → Nat} {m' : Nat} {s' : IS}, Xt w ow ow' → Fram (tg ow cmT) w u → RM G root np tb rb (.slice (some ⟨gn, 0, none⟩) G.length capn) u ow' β τ m' s' → m' ≤ m + 12 → ∃ bs τ', RP G root np tb rb (.slice (some ⟨gn, 0, none⟩) G.length capn) w ow (β ++ bs) (τ ++ τ') (m + 12) s' u := fun h1 h2 h3 h4 => hf9 (bs := []) (τ' := []) h1 h2 (by rw [List.append_nil, List.append_nil]; exact h3) h4
  have hf1 : ∀ {u : World} {ow' : Nat → Nat} {m' : Nat} {s' : IS} {bs : List Nat}, Xt w ow ow' → Fram (tg ow cmT) w u → RM G root np tb rb (.slice (some ⟨gn, 0, none⟩) G.length capn) u ow' (β ++ bs) τ m' s' → m' ≤ m + 12 → ∃ bs τ', RP G root np tb rb (.slice (some ⟨gn, 0, none⟩) G.length capn) w ow (β ++ bs) (τ ++ τ') (m + 12) s' u := fun {_ _ _ _ bs} h1 h2 h3 h4 => hf9 (bs := bs) (τ' := []) h1 h2 (by rw [List.append_nil]; exact h3) h4
  have hf2 : ∀ {u : World} {ow' : Nat → Nat} {m' : Nat} {s' : IS} {b1 b2 : Nat}, Xt w ow ow' → Fram (tg ow cmT) w u → RM G root np tb rb (.slice (some ⟨gn, 0, none⟩) G.length capn) u ow' (β ++ [b1] ++ [b2]) τ m' s' → m' ≤ m + 12 → ∃ bs τ', RP G root np tb rb (.slice (some ⟨gn, 0, none⟩) G.length capn) w ow (β ++ bs) (τ ++ τ') (m + 12) s' u := fun {_ _ _ _ b1 b2} h1 h2 h3 h4 => hf9 (bs := [b1, b2]) (τ' := []) h1 h2 (by rw [List.append_nil]; rw [List.append_assoc] at h3; exact h3) h4
  refine ret_of Tryz.func33 rfl Tryz.ntmps33 rfl ?_
  refine c_seq (fun K1 hK1 => ?_)
  obtain ⟨cv, a0, a1, a2, a3, a4, gT, capT, lT, bT, tvT, vvT, hXr, hO, hlT, hcapT, hbT, hTh, hgT⟩ := hR.open
  have hB := hTh.k
  have hkb := hTh.t
  have hclT := hR.cl
  unfold rnc at hXr
  have hk70 := hR.t70
  have hbdd := hR.bdm
  refine c_pi [(0, false), (1, false), (2, false), (3, false), (4, false), (5, false), (6, false), (7, false), (8, false), (9, false), (10, false)] (SameH _) mixed (by kernel_rfl) rfl (by kernel_rfl) (po_then (po_bp)) (sameH_now _ _) ?_ -- region 0 compm.go:509
  refine pi_ro rfl (fun w hS => ro_move rfl) ?_
  refine pi_ro rfl (fun w hS => ro_nilCheck rfl) ?_
  refine pi_ro rfl (fun w hS => ro_fieldAddr (k := 5) rfl fo_112_5) ?_
  refine pi_ro rfl (fun w hS => ro_loadB rfl sc_109 (Blk.of_heap (by assumption) hS) rfl) ?_
  refine pi_ro rfl (fun w hS => ro_move rfl) ?_
  refine pi_ro rfl (fun w hS => ro_nilCheck rfl) ?_
  refine pi_ro rfl (fun w hS => ro_fieldAddr (k := 12) rfl fo_112_8) ?_
  refine pi_ro rfl (fun w hS => ro_loadB rfl sc_3 (Blk.of_heap (by assumption) hS) rfl) ?_
  refine pi_ro rfl (fun w hS => ro_indexAddr (et := 123) (k := 1) rfl rfl se_109 rfl (by omega)) ?_
  refine pi_ro rfl (fun w hS => ro_loadB rfl sc_123 (Blk.of_heap hO hS) (hlT)) ?_
  refine pi_ro rfl (fun w hS => ro_assign rfl) ?_
  refine pi_nil (x_then (hK1 _ _ ?_))
  clear hK1 K1
  refine forget [(0, _), (2, _)] ⟨rfl, rfl, trivial⟩ (fun e => ?_)
  refine c_seq (fun K2 hK2 => ?_)
  have hts0 := hTh.ts
  rw [htk] at hts0
  obtain ⟨gt, capt, lt, e1, hV, q1, q2, q3, q4⟩ := hts0.atR (tsc_len β) (j := 0) rfl
  subst e1
  obtain ⟨va, vc, rfl⟩ := hTh.vs.form
  have hrl : ((⟨9, tn, tx, te⟩ : Tk) :: r).length = r.length + 1 := rfl
  refine c_piL 13 [(0, false), (1, false), (2, false), (3, false), (4, false), (5, false), (6, false), (7, false), (8, false), (9, false), (10, false), (11, false), (12, true)] (La bT _ _ (La gt _ _ (fun _ => True))) mixed (by kernel_rfl) rfl (by kernel_rfl) (po_then (po_bp)) (⟨hB, hV, trivial⟩) ?_ -- region 1 compm.go:510
  refine ql_ro rfl (fun w hS => ro_move rfl) ?_
  refine ql_ro rfl (fun w hS => ro_nilCheck rfl) ?_
  refine ql_ro rfl (fun w hS => ro_fieldAddr (k := 3) rfl fo_126_3) ?_
  refine ql_ro rfl (fun w hS => ro_loadB rfl sc_124 (hS.1) rfl) ?_
  refine ql_ro rfl (fun w hS => ro_move rfl) ?_
  refine ql_ro rfl (fun w hS => ro_nilCheck rfl) ?_
  refine ql_ro rfl (fun w hS => ro_fieldAddr (k := 3) rfl fo_126_3) ?_
  refine ql_ro rfl (fun w hS => ro_loadB rfl sc_124 (hS.1) rfl) ?_
  refine ql_ro rfl (fun w hS => ro_lenL rfl se_124) ?_
  refine ql_ro rfl (fun w hS => ro_arith rfl rfl rfl (Go.IntWalk.i64_in _ (by omega))) ?_
  refine ql_ro rfl (fun w hS => ro_indexAddr (et := 161) (k := 4) rfl rfl se_124 ((show ((((⟨9, tn, tx, te⟩ : Tk) :: r).length : Int) - 1) = ((((⟨9, tn, tx, te⟩ : Tk) :: r).length - 1 - 0 : Nat) : Int) by omega)) ((by omega))) ?_
  refine ql_ro rfl (fun w hS => ro_loadAggB rfl ag_161 (hS.2.1) (rfl) (q4)) ?_
  refine ql_new rfl ze_161 (fun w1 F ↦ ⟨F.blkN hB, F.blkN hV, trivial⟩) ?_
  intro b3 w1 hbb3 h3 F1
  have hbsb3 := Nat.le_trans hF.size hbb3
  have hnegnb3 : gn < b3 := Nat.lt_of_lt_of_le hN.lt hbb3
  have hnegTb3 : gT < b3 := Nat.lt_of_lt_of_le hO.lt hbb3
  have hnebTb3 : bT < b3 := Nat.lt_of_lt_of_le hB.lt hbb3
  have hnerbb3 : rb < b3 := Nat.lt_of_lt_of_le hXr.lt hbb3
  have hnegtb3 : gt < b3 := Nat.lt_of_lt_of_le hV.lt hbb3
  have kh3 := hR.df b3 hbb3
  replace hF := hF.thenDrew.thenN F1
  replace hR := hR.thruN ((Fram.refl none' _).thenDrew.thenN F1)
  replace hN := F1.blkN hN
  replace hO := F1.blkN hO
  replace hB := F1.blkN hB
  replace hXr := F1.blkN hXr
  replace hV := F1.blkN hV
  refine ql_puta rfl rfl rfl ((tsc_one _ _)) sz_161 (rfl) h3 ((by simp)) ((show _ = [i64c 9, i64c tn, i64c tx, .pointer (epo β te)] from rfl)) (fun w2 h3 F2 => ?_)
  replace hF := hF.thenDrew.thenO F2 (by first | exact .inr (by omega) | exact .inl rfl | exact .inl (by assumption) | assumption)
  replace hR := hR.hbput ((Fram.refl (one b3) _).thenDrew.thenO F2 (.inl rfl))
  replace hN := F2.blkO hN (by first | omega | exact ow_ne (by assumption) (by assumption) (by omega))
  replace hO := F2.blkO hO (by first | omega | exact ow_ne (by assumption) (by assumption) (by omega))
  replace hB := F2.blkO hB (by first | omega | exact ow_ne (by assumption) (by assumption) (by omega))
  replace hXr := F2.blkO hXr (by first | omega | exact ow_ne (by assumption) (by assumption) (by omega))
  replace hV := F2.blkO hV (by first | omega | exact ow_ne (by assumption) (by assumption) (by omega))
  refine x_then (hK2 _ _ ?_)
  clear hK2 K2
  refine forget [(0, _), (2, _), (3, _)] ⟨rfl, rfl, rfl, trivial⟩ (fun e => ?_)
  refine c_seq (fun K3 hK3 => ?_)
  obtain ⟨b0, hb0⟩ : ∃ b0, b0 = bT := ⟨_, rfl⟩
  subst hb0
  have hb0 := hbT
  clear hTh hkb hlT hbT hcapT hgT hclT hk70 hB hO hXr hV q4 q3 q2 q1 hts0
  obtain ⟨cv, a0, a1, a2, a3, a4, gT, capT, lT, bT, tvT, vvT, hXr, hO, hlT, hcapT, hbT, hTh, hgT⟩ := hR.open
  have hB := hTh.k
  have hkb := hTh.t
  have hclT := hR.cl
  unfold rnc at hXr
  have hk70 := hR.t70
  have hbe : bT = b0 := Option.some.inj (hbT.symm.trans hb0)
  subst hbe
  obtain ⟨ta, tc, rfl⟩ := hTh.ts.form
  obtain ⟨va2, vc2, rfl⟩ := hTh.vs.form
  have hcapt := hTh.ts.capge
  have htr := hTh.ts.dropR (tsc_len β) 1
  rw [htl, htk] at htr
  have hmb := hX.memC (hR.mem_b hR.cl hTh.t)
  refine c_piL 14 [(0, false), (1, false), (2, false), (3, false), (4, false), (5, false), (6, false), (7, false), (8, false), (9, false), (10, false), (11, false), (12, false), (13, false)] (SameH _) mixed (by kernel_rfl) rfl (by kernel_rfl) (po_then (po_bp)) (sameH_now _ _) ?_ -- region 2 compm.go:511
  refine ql_ro rfl (fun w hS => ro_move rfl) ?_
  refine ql_ro rfl (fun w hS => ro_move rfl) ?_
  refine ql_ro rfl (fun w hS => ro_nilCheck rfl) ?_
  refine ql_ro rfl (fun w hS => ro_fieldAddr (k := 3) rfl fo_126_3) ?_
  refine ql_ro rfl (fun w hS => ro_loadB rfl sc_124 (Blk.of_heap (by assumption) hS) rfl) ?_
  refine ql_ro rfl (fun w hS => ro_move rfl) ?_
  refine ql_ro rfl (fun w hS => ro_nilCheck rfl) ?_
  refine ql_ro rfl (fun w hS => ro_fieldAddr (k := 3) rfl fo_126_3) ?_
  refine ql_ro rfl (fun w hS => ro_loadB rfl sc_124 (Blk.of_heap (by assumption) hS) rfl) ?_
  refine ql_ro rfl (fun w hS => ro_lenL rfl se_124) ?_
  refine ql_ro rfl (fun w hS => ro_arith rfl rfl rfl (Go.IntWalk.i64_in _ (by omega))) ?_
  refine ql_ro rfl (fun w hS => ro_sliceH (h := r.length) rfl rfl se_124 (by omega) (by omega)) ?_
  refine ql_ro rfl (fun w hS => ro_nilCheck rfl) ?_
  refine ql_ro rfl (fun w hS => ro_fieldAddr (k := 3) rfl fo_126_3) ?_
  refine ql_put rfl rfl rfl rfl sz_124 hB ((by simp)) (rfl) (fun w3 hB F3 => ?_)
  replace hF := hF.thenDrew.thenO F3 (by first | exact .inr (by omega) | exact .inl rfl | exact .inl (by assumption) | assumption)
  replace hN := F3.blkO hN (by first | omega | exact ow_ne (by assumption) (by assumption) (by omega))
  replace h3 := F3.blkO h3 (by first | omega | exact ow_ne (by assumption) (by assumption) (by omega))
  replace hO := F3.blkO hO (by first | omega | exact ow_ne (by assumption) (by assumption) (by omega))
  replace hXr := F3.blkO hXr (by first | omega | exact ow_ne (by assumption) (by assumption) (by omega))
  have hR2 := hR.thr' (y := { s.th with tasks := r }) hbT hTh.t htr hTh.vs ((Fram.refl (one bT) _).thenDrew.thenO F3 (.inl rfl)) hB (fun z hz => hR.tem z (by rw [htk]; exact List.mem_cons_of_mem _ hz)) (by have := hR.bdm; rw [htl] at this; exact ⟨by show r.length ≤ m; omega, this.2⟩)
  replace hR := hR2
  obtain ⟨b0, hb1⟩ : ∃ b0, b0 = bT := ⟨_, rfl⟩
  subst hb1
  have hb0 : τ[(s.setT { s.th with tasks := r }).cur]? = some b0 := hbT
  clear hTh hkb hlT hbT hcapT hgT hclT hk70 hB hO hXr htr hmb hcapt hbdd
  generalize hsP : s.setT { s.th with tasks := r } = sP at *
  have hbdP := hR.bdm
  refine x_then (hK3 _ _ ?_)
  clear hK3 K3
  refine forget [(0, _), (2, _), (3, _)] ⟨rfl, rfl, rfl, trivial⟩ (fun e => ?_)
  refine c_seq (fun K4 hK4 => ?_)
  refine c_reg ?_ -- region 3 compm.go:512
  refine wl_new (ze_148) (fun b4 w4 hbb4 h4 F4 => ?_)
  have hbsb4 := Nat.le_trans hF.size hbb4
  have hnegnb4 : gn < b4 := Nat.lt_of_lt_of_le hN.lt hbb4
  have hneb3b4 : b3 < b4 := Nat.lt_of_lt_of_le h3.lt hbb4
  have kh4 := hR.df b4 hbb4
  replace hF := hF.thenDrew.thenN F4
  replace hN := F4.blkN hN
  replace h3 := F4.blkN h3
  replace hR := hR.thruN ((Fram.refl none' _).thenDrew.thenN F4)
  refine wl_nil (x_then (hK4 _ _ ?_))
  clear hK4 K4
  refine c_seq (fun K5 hK5 => ?_)
  refine c_seq (fun K6 hK6 => ?_)
  refine c_reg ?_ -- region 4 compm.go:513
  refine wl (ro_fieldAddr (k := 0) rfl fo_161_0) ?_
  refine wl (ro_loadB rfl sc_3 (by assumption) rfl) ?_
  refine wl (ro_cmp rfl rfl rfl) ?_
  refine wl_nil (x_then (hK6 _ _ ?_))
  clear hK6 K6
  refine wc_condT rfl ?_
  obtain ⟨cv, hv_, a0, a1, a2, a3, a4, hXr, hq2, hq3, hq4⟩ := hR.r
  unfold rnc at hXr
  have hk70 := hR.t70
  refine c_piL 8 [(0, false), (1, false), (2, false), (3, false), (4, false), (5, false), (6, false), (7, false)] (SameH _) mixed (by kernel_rfl) rfl (by kernel_rfl) (po_then (po_bp)) (sameH_now _ _) ?_ -- region 5 compm.go:514
  refine ql_ro rfl (fun w hS => ro_move rfl) ?_
  refine ql_ro rfl (fun w hS => ro_nilCheck rfl) ?_
  refine ql_ro rfl (fun w hS => ro_fieldAddr (k := 2) rfl fo_112_2) ?_
  refine ql_ro rfl (fun w hS => ro_loadB rfl sc_77 (Blk.of_heap (by assumption) hS) rfl) ?_
  refine ql_ro rfl (fun w hS => ro_fieldAddr (k := 1) rfl fo_161_1) ?_
  refine ql_ro rfl (fun w hS => ro_loadB rfl sc_3 (Blk.of_heap (by assumption) hS) rfl) ?_
  refine ql_ro rfl (fun w hS => ro_indexAddr (et := 148) (k := 8) rfl rfl se_77 (rfl) (hn)) ?_
  refine ql_ro rfl (fun w hS => ro_loadAggB rfl ag_148 (Blk.of_heap hN hS) (rfl) (hpn)) ?_
  refine ql_puta rfl rfl rfl ((ndc_one _)) sz_148 (rfl) h4 ((by simp)) ((show _ = ndc (nd G tn, pn) from rfl)) (fun w5 h4 F5 => ?_)
  replace hF := hF.thenDrew.thenO F5 (by first | exact .inr (by omega) | exact .inl rfl | exact .inl (by assumption) | assumption)
  replace hN := F5.blkO hN (by first | omega | exact ow_ne (by assumption) (by assumption) (by omega))
  replace h3 := F5.blkO h3 (by first | omega | exact ow_ne (by assumption) (by assumption) (by omega))
  replace hR := hR.hbput ((Fram.refl (one b4) _).thenDrew.thenO F5 (.inl rfl))
  replace hXr := F5.blkO hXr (by first | omega | exact ow_ne (by assumption) (by assumption) (by omega))
  refine x_then (hK5 _ _ ?_)
  clear hK5 K5
  refine forget [(0, _), (2, _), (3, _), (4, _)] ⟨rfl, rfl, rfl, rfl, trivial⟩ (fun e => ?_)
  refine c_seq (fun K7 hK7 => ?_)
  have hf : flT r + 1 ≤ h := hf
  have hfl : (idrop 1 sP).find te (nd G tn).S ≤ (idrop 1 sP).envs.length := by
    have := find_le hR.up (sP.envs.length + 1) te (nm := (nd G tn).S)
    show findE (sP.envs.length + 1) sP.envs te (nd G tn).S ≤ sP.envs.length
    omega
  refine c_reg ?_ -- region 6 compm.go:516
  refine wl (ro_fieldAddr (k := 0) rfl fo_161_0) ?_
  refine wl (ro_loadB rfl sc_3 (by assumption) rfl) ?_
  refine wl_nil (x_then (hK7 _ _ ?_))
  clear hK7 K7
  refine c_block ?_
  refine forget [(0, _), (2, _), (3, _), (4, _), (92, _)] ⟨rfl, rfl, rfl, rfl, rfl, trivial⟩ (fun e => ?_)
  refine c_seq (fun K8 hK8 => ?_)
  refine c_reg ?_ -- region 7 compm.go:517
  refine wl (ro_cmp rfl rfl rfl) ?_
  refine wl (ro_assign rfl) ?_
  refine wl_nil (x_then (hK8 _ _ ?_))
  clear hK8 K8
  refine wc_condF rfl ?_
  refine c_seq (fun K9 hK9 => ?_)
  refine c_reg ?_ -- region 10 compm.go:521
  refine wl (ro_cmp rfl rfl rfl) ?_
  refine wl (ro_assign rfl) ?_
  refine wl_nil (x_then (hK9 _ _ ?_))
  clear hK9 K9
  refine wc_condF rfl ?_
  refine c_seq (fun K10 hK10 => ?_)
  refine c_reg ?_ -- region 12 compm.go:523
  refine wl (ro_cmp rfl rfl rfl) ?_
  refine wl (ro_assign rfl) ?_
  refine wl_nil (x_then (hK10 _ _ ?_))
  clear hK10 K10
  refine wc_condF rfl ?_
  refine c_seq (fun K11 hK11 => ?_)
  refine c_reg ?_ -- region 15 compm.go:526
  refine wl (ro_cmp rfl rfl rfl) ?_
  refine wl (ro_assign rfl) ?_
  refine wl_nil (x_then (hK11 _ _ ?_))
  clear hK11 K11
  refine wc_condF rfl ?_
  refine c_seq (fun K12 hK12 => ?_)
  refine c_reg ?_ -- region 16 compm.go:527
  refine wl (ro_cmp rfl rfl rfl) ?_
  refine wl (ro_assign rfl) ?_
  refine wl_nil (x_then (hK12 _ _ ?_))
  clear hK12 K12
  refine wc_condF rfl ?_
  refine c_seq (fun K13 hK13 => ?_)
  refine c_reg ?_ -- region 18 compm.go:529
  refine wl (ro_cmp rfl rfl rfl) ?_
  refine wl (ro_assign rfl) ?_
  refine wl_nil (x_then (hK13 _ _ ?_))
  clear hK13 K13
  refine wc_condF rfl ?_
  refine c_seq (fun K14 hK14 => ?_)
  refine c_reg ?_ -- region 21 compm.go:532
  refine wl (ro_cmp rfl rfl rfl) ?_
  refine wl (ro_assign rfl) ?_
  refine wl_nil (x_then (hK14 _ _ ?_))
  clear hK14 K14
  refine wc_condF rfl ?_
  refine c_seq (fun K15 hK15 => ?_)
  refine c_reg ?_ -- region 28 compm.go:539
  refine wl (ro_cmp rfl rfl rfl) ?_
  refine wl (ro_assign rfl) ?_
  refine wl_nil (x_then (hK15 _ _ ?_))
  clear hK15 K15
  refine wc_condF rfl ?_
  refine c_seq (fun K16 hK16 => ?_)
  refine c_reg ?_ -- region 31 compm.go:542
  refine wl (ro_cmp rfl rfl rfl) ?_
  refine wl (ro_assign rfl) ?_
  refine wl_nil (x_then (hK16 _ _ ?_))
  clear hK16 K16
  refine wc_condT rfl ?_
  refine c_seq (fun K17 hK17 => ?_)
  refine c_reg ?_ -- region 32 compm.go:543
  refine wl (ro_move rfl) ?_
  refine wl_call rfl en_59 (pop59 hR.dr (by omega) (by omega)) ?_
  rintro _ u6 ⟨rfl, ow6, x6, f6, r6⟩
  obtain ⟨hN, khN⟩ := cm_loc x6 f6 hN khN
  obtain ⟨h3, kh3⟩ := cm_loc x6 f6 h3 kh3
  obtain ⟨h4, kh4⟩ := cm_loc x6 f6 h4 kh4
  have hs6 := hF.size
  replace hF := cm_trans hX hF f6
  replace hX := hX.trans hs6 x6
  replace hR := r6
  refine wl_new (ze_119) (fun b11 w7 hbb11 h11 F7 => ?_)
  have hbsb11 := Nat.le_trans hF.size hbb11
  have hnegnb11 : gn < b11 := Nat.lt_of_lt_of_le hN.lt hbb11
  have hneb3b11 : b3 < b11 := Nat.lt_of_lt_of_le h3.lt hbb11
  have hneb4b11 : b4 < b11 := Nat.lt_of_lt_of_le h4.lt hbb11
  have kh11 := hR.df b11 hbb11
  replace hF := hF.thenDrew.thenN F7
  replace hN := F7.blkN hN
  replace h3 := F7.blkN h3
  replace hR := hR.thruN ((Fram.refl none' _).thenDrew.thenN F7)
  replace h4 := F7.blkN h4
  refine wl_puta rfl rfl ((pvc_one _)) sz_119 (rfl) h11 ((by simp)) ((show _ = pvc (sP.top 0) from rfl)) (fun w8 h11 F8 => ?_)
  replace hF := hF.thenDrew.thenO F8 (by first | exact .inr (by omega) | exact .inl rfl | exact .inl (by assumption) | assumption)
  replace hN := F8.blkO hN (by first | omega | exact ow_ne (by assumption) (by assumption) (by omega))
  replace h3 := F8.blkO h3 (by first | omega | exact ow_ne (by assumption) (by assumption) (by omega))
  replace hR := hR.hbput ((Fram.refl (one b11) _).thenDrew.thenO F8 (.inl rfl))
  replace h4 := F8.blkO h4 (by first | omega | exact ow_ne (by assumption) (by assumption) (by omega))
  refine wl_nil (x_then (hK17 _ _ ?_))
  clear hK17 K17
  refine forget [(0, _), (3, _), (4, _), (11, _)] ⟨rfl, rfl, rfl, rfl, trivial⟩ (fun e => ?_)
  refine c_seq (fun K18 hK18 => ?_)
  refine c_reg ?_ -- region 33 compm.go:544
  refine wl (ro_fieldAddr (k := 3) rfl fo_161_3) ?_
  refine wl (ro_loadB rfl sc_120 (by assumption) rfl) ?_
  refine wl (ro_fieldAddr (k := 6) rfl fo_148_6) ?_
  refine wl (ro_loadB rfl sc_9 (by assumption) rfl) ?_
  refine wl_call rfl en_60 (find60 (nm := (nd G tn).S) hR heP) ?_
  rintro _ u0 ⟨rfl, hw0⟩
  rw [hw0]
  clear hw0 u0
  refine wl (ro_assign rfl) ?_
  refine wl_nil (x_then (hK18 _ _ ?_))
  clear hK18 K18
  refine c_seq (fun K19 hK19 => ?_)
  refine c_seq (fun K20 hK20 => ?_)
  rcases Nat.eq_zero_or_pos ((idrop 1 sP).find te (nd G tn).S) with hf0' | hf0'
  · skip
    rw [hf0']
    refine c_reg ?_ -- region 34 compm.go:545
    refine wl (ro_move rfl) ?_
    refine wl (ro_eqPtrNil rfl pt_120 rfl) ?_
    refine wl_nil (x_then (hK20 _ _ ?_))
    clear hK20 K20
    refine wc_condF rfl ?_
    refine c_skip (x_then (hK19 _ _ ?_))
    clear hK19 K19
    refine c_reg ?_ -- region 36 compm.go:549
    refine wl (ro_move rfl) ?_
    refine wl (ro_build rfl bld_119_0) ?_
    refine wl (ro_fieldAddr (k := 6) rfl fo_148_6) ?_
    refine wl (ro_loadB rfl sc_9 (by assumption) rfl) ?_
    refine wl (ro_build rfl bld_119_0_2) ?_
    refine wl (ro_loadAggB rfl ag_119 (by assumption) rfl rfl) ?_
    refine wl_call rfl en_61 (set61 (t := vTab 0) (k := vStr (nd G tn).S) (v := sP.top 0) hR.dr (fun _ ↦ hP0) (by simp [wfV, vStr, (hAG tn).2.1]) (by simp [vStr]) (hokt 0).wf (hokt 0).w (tSet_ok (hokP.tabD 0).1 (hokP.tabD 0).2 (ok_str (hAG tn).2.1) (hokt 0)).1 ((P.drop 1).rt hT (by omega)) (by omega)) ?_
    rintro _ u9 ⟨rfl, ow9, x9, f9, r9⟩
    obtain ⟨hN, khN⟩ := cm_loc x9 f9 hN khN
    obtain ⟨h3, kh3⟩ := cm_loc x9 f9 h3 kh3
    obtain ⟨h4, kh4⟩ := cm_loc x9 f9 h4 kh4
    obtain ⟨h11, kh11⟩ := cm_loc x9 f9 h11 kh11
    have hs9 := hF.size
    replace hF := cm_trans hX hF f9
    replace hX := hX.trans hs9 x9
    replace hR := r9
    refine wl_nil (x_blk ?_)
    refine bp_end Tryz.results33 rfl ?_
    refine ⟨rfl, ?_⟩
    rw [hgoal]
    unfold istep1
    simp only [Nat.reduceEqDiff, reduceIte]
    try rw [hmod]
    try simp only [hnx]
    try rw [hlen7]
    try rw [hlen8]
    try (rw [burn_if (by exact P.b.dn)]; first | rw [if_pos (by exact hfu)] | rw [if_neg (by exact hfu)])
    repeat (first | rw [if_pos (by first | assumption | omega)] | rw [if_neg (by first | assumption | omega)])
    first
    | exact hf0 hX hF hR (by omega)
    | exact hf1 hX hF hR (by omega)
    | exact hf2 hX hF hR (by omega)
    | exact hf9 hX hF hR (by omega)
  · skip
    obtain ⟨bE, zE, hpo, hV, hEz, hEt⟩ := hR.var (e := (idrop 1 sP).find te (nd G tn).S) (by omega) hfl
    rw [hpo]
    have hmE := hX.memC (hR.mem_e hEt)
    refine c_reg ?_ -- region 34 compm.go:545
    refine wl (ro_move rfl) ?_
    refine wl (ro_eqPtrNil rfl pt_120 rfl) ?_
    refine wl_nil (x_then (hK20 _ _ ?_))
    clear hK20 K20
    refine wc_condT rfl ?_
    refine c_seq (fun K21 hK21 => ?_)
    refine c_reg ?_ -- region 35 compm.go:546
    refine wl (ro_move rfl) ?_
    refine wl (ro_loadAggB rfl ag_119 (by assumption) rfl rfl) ?_
    refine wl (ro_nilCheck rfl) ?_
    refine wl (ro_fieldAddr (k := 1) rfl fo_159_1) ?_
    refine wl_puta rfl rfl ((pvc_one _)) sz_119 (rfl) hV ((by simp [evc])) ((show _ = evc β { zE with v := sP.top 0 } from rfl)) (fun w10 hV F10 => ?_)
    replace hF := hF.thenDrew.thenO F10 (by first | exact .inr (by omega) | exact .inl rfl | exact .inl (by assumption) | assumption)
    replace hN := F10.blkO hN (by first | omega | exact ow_ne (by assumption) (by assumption) (by omega))
    replace h3 := F10.blkO h3 (by first | omega | exact ow_ne (by assumption) (by assumption) (by omega))
    replace h4 := F10.blkO h4 (by first | omega | exact ow_ne (by assumption) (by assumption) (by omega))
    replace h11 := F10.blkO h11 (by first | omega | exact ow_ne (by assumption) (by assumption) (by omega))
    have hR2 := hR.setE (v := sP.top 0) (by omega) (epo_some hpo) hEz hEt ((Fram.refl (one bE) _).thenDrew.thenO F10 (.inl rfl)) hV
    replace hR := hR2
    refine wl_nil (x_then (hK21 _ _ ?_))
    clear hK21 K21
    refine c_ret (x_thenR (x_blkR ?_))
    refine bp_ret Tryz.results33 rfl ?_
    refine ⟨rfl, ?_⟩
    rw [hgoal]
    unfold istep1
    simp only [Nat.reduceEqDiff, reduceIte]
    try rw [hmod]
    try simp only [hnx]
    try rw [hlen7]
    try rw [hlen8]
    try (rw [burn_if (by exact P.b.dn)]; first | rw [if_pos (by exact hfu)] | rw [if_neg (by exact hfu)])
    repeat (first | rw [if_pos (by first | assumption | omega)] | rw [if_neg (by first | assumption | omega)])
    first
    | exact hf0 hX hF hR (by omega)
    | exact hf1 hX hF hR (by omega)
    | exact hf2 hX hF hR (by omega)
    | exact hf9 hX hF hR (by omega)

set_option maxHeartbeats 8000000 in
theorem step33_10 {G : Arena} {root : Nat} {np : Value} {tb rb : Nat} {nv : Value} {w : World} {ow : Nat → Nat} {β τ : List Nat} {m : Nat} {s : IS} (hR : RM G root np tb rb nv w ow β τ m s) (hG : 0 < G.length) (hAG : AOK G) (h0K : (nd G 0).K = 0) (hI : IA G root s) (ht0 : 0 < s.tabs.length) (hm : m ≤ 19900) {tn tx te : Nat} {r : List Tk} (htk : s.th.tasks = ⟨10, tn, tx, te⟩ :: r) :
    Ret Tryz.prog 33 [ptr rb] w (fun r w' => r = .tuple #[] ∧ ∃ bs τ', RP G root np tb rb nv w ow (β ++ bs) (τ ++ τ') (m + 12) (istep G root s) w') := by
  obtain ⟨hok, hnu, htb, T, h, P0, hT0⟩ := hI
  have hTe := P0.t.symm.trans htk
  subst hTe
  have hF : Fram (tg ow cmT) w w := Fram.refl _ _
  have hX : Xt w ow ow := Xt.refl _ _
  have hmr := hR.mem_r
  have hgoal : istep G root s = istep1 G root ⟨10, tn, tx, te⟩ s (s.setT { s.th with tasks := r }) := by unfold istep; rw [htk]
  have het : te ≤ s.envs.length := by have q := hT0; unfold TkI at q; exact q.1
  have hel : te ≤ β.length := by rw [hR.el]; exact het
  have heP : EP β te (epo β te) := EP.mk' hel
  have htl : s.th.tasks.length = r.length + 1 := by rw [htk]; rfl
  have hcl0 := P0.cl
  have hokP : IOK (s.setT { s.th with tasks := r }) := hok.setT hok.th
  have hP0 : 0 < (s.setT { s.th with tasks := r }).tabs.length := ht0
  have htop : ∀ i, (s.setT { s.th with tasks := r }).top i = s.top i := fun i => by unfold IS.top; rw [th_setT hcl0]
  have hclP : (s.setT { s.th with tasks := r }).cur < (s.setT { s.th with tasks := r }).ths.length := by simpa [IS.setT] using hcl0
  have hetP : te ≤ (s.setT { s.th with tasks := r }).envs.length := het
  have P : PW G root (s.setT { s.th with tasks := r }) r h := P0.pop (t := ⟨10, tn, tx, te⟩) (show (10 : Nat) ≠ 3 by decide)
  obtain ⟨-, hn, -, hf, hk, hT⟩ := hT0.inv (t := ⟨10, tn, tx, te⟩) (show (10 : Nat) ≠ 3 by decide)
  have hn : tn < G.length := hn
  have hvl : (s.setT { s.th with tasks := r }).th.vals.length = h := P.v
  have hokt : ∀ i, ok (s.setT { s.th with tasks := r }) ((s.setT { s.th with tasks := r }).top i) := fun i => IOK.getD hokP.th i
  have hnh := hokP.nh
  have hnc := hokP.nc
  have hnn := (hAG tn).1
  obtain ⟨gn, capn, ln, rfl, hN, khN, hcapn, hrow⟩ := hR.nodes hG
  obtain ⟨pn, hpn⟩ := hrow tn hn
  have hf9 : ∀ {u : World} {ow' : Nat → Nat} {m' : Nat} {s' : IS} {bs τ' : List Nat}, Xt w ow ow' → Fram (tg ow cmT) w u → RM G root np tb rb (.slice (some ⟨gn, 0, none⟩) G.length capn) u ow' (β ++ bs) (τ ++ τ') m' s' → m' ≤ m + 12 → ∃ bs τ', RP G root np tb rb (.slice (some ⟨gn, 0, none⟩) G.length capn) w ow (β ++ bs) (τ ++ τ') (m + 12) s' u := fun {_ _ _ _ bs τ'} h1 h2 h3 h4 => ⟨bs, τ', _, h1, h2, h3.le h4⟩
  have hf0 : ∀ {u : World} {ow' : Nat → Nat} {m' : Nat} {s' : IS}, Xt w ow ow' → Fram (tg ow cmT) w u → RM G root np tb rb (.slice (some ⟨gn, 0, none⟩) G.length capn) u ow' β τ m' s' → m' ≤ m + 12 → ∃ bs τ', RP G root np tb rb (.slice (some ⟨gn, 0, none⟩) G.length capn) w ow (β ++ bs) (τ ++ τ') (m + 12) s' u := fun h1 h2 h3 h4 => hf9 (bs := []) (τ' := []) h1 h2 (by rw [List.append_nil, List.append_nil]; exact h3) h4
  have hf1 : ∀ {u : World} {ow' : Nat → Nat} {m' : Nat} {s' : IS} {bs : List Nat}, Xt w ow ow' → Fram (tg ow cmT) w u → RM G root np tb rb (.slice (some ⟨gn, 0, none⟩) G.length capn) u ow' (β ++ bs) τ m' s' → m' ≤ m + 12 → ∃ bs τ', RP G root np tb rb (.slice (some ⟨gn, 0, none⟩) G.length capn) w ow (β ++ bs) (τ ++ τ') (m + 12) s' u := fun {_ _ _ _ bs} h1 h2 h3 h4 => hf9 (bs := bs) (τ' := []) h1 h2 (by rw [List.append_nil]; exact h3) h4
  have hf2 : ∀ {u : World} {ow' : Nat → Nat} {m' : Nat} {s' : IS} {b1 b2 : Nat}, Xt w ow ow' → Fram (tg ow cmT) w u → RM G root np tb rb (.slice (some ⟨gn, 0, none⟩) G.length capn) u ow' (β ++ [b1] ++ [b2]) τ m' s' → m' ≤ m + 12 → ∃ bs τ', RP G root np tb rb (.slice (some ⟨gn, 0, none⟩) G.length capn) w ow (β ++ bs) (τ ++ τ') (m + 12) s' u := fun {_ _ _ _ b1 b2} h1 h2 h3 h4 => hf9 (bs := [b1, b2]) (τ' := []) h1 h2 (by rw [List.append_nil]; rw [List.append_assoc] at h3; exact h3) h4
  refine ret_of Tryz.func33 rfl Tryz.ntmps33 rfl ?_
  refine c_seq (fun K1 hK1 => ?_)
  obtain ⟨cv, a0, a1, a2, a3, a4, gT, capT, lT, bT, tvT, vvT, hXr, hO, hlT, hcapT, hbT, hTh, hgT⟩ := hR.open
  have hB := hTh.k
  have hkb := hTh.t
  have hclT := hR.cl
  unfold rnc at hXr
  have hk70 := hR.t70
  have hbdd := hR.bdm
  refine c_pi [(0, false), (1, false), (2, false), (3, false), (4, false), (5, false), (6, false), (7, false), (8, false), (9, false), (10, false)] (SameH _) mixed (by kernel_rfl) rfl (by kernel_rfl) (po_then (po_bp)) (sameH_now _ _) ?_ -- region 0 compm.go:509
  refine pi_ro rfl (fun w hS => ro_move rfl) ?_
  refine pi_ro rfl (fun w hS => ro_nilCheck rfl) ?_
  refine pi_ro rfl (fun w hS => ro_fieldAddr (k := 5) rfl fo_112_5) ?_
  refine pi_ro rfl (fun w hS => ro_loadB rfl sc_109 (Blk.of_heap (by assumption) hS) rfl) ?_
  refine pi_ro rfl (fun w hS => ro_move rfl) ?_
  refine pi_ro rfl (fun w hS => ro_nilCheck rfl) ?_
  refine pi_ro rfl (fun w hS => ro_fieldAddr (k := 12) rfl fo_112_8) ?_
  refine pi_ro rfl (fun w hS => ro_loadB rfl sc_3 (Blk.of_heap (by assumption) hS) rfl) ?_
  refine pi_ro rfl (fun w hS => ro_indexAddr (et := 123) (k := 1) rfl rfl se_109 rfl (by omega)) ?_
  refine pi_ro rfl (fun w hS => ro_loadB rfl sc_123 (Blk.of_heap hO hS) (hlT)) ?_
  refine pi_ro rfl (fun w hS => ro_assign rfl) ?_
  refine pi_nil (x_then (hK1 _ _ ?_))
  clear hK1 K1
  refine forget [(0, _), (2, _)] ⟨rfl, rfl, trivial⟩ (fun e => ?_)
  refine c_seq (fun K2 hK2 => ?_)
  have hts0 := hTh.ts
  rw [htk] at hts0
  obtain ⟨gt, capt, lt, e1, hV, q1, q2, q3, q4⟩ := hts0.atR (tsc_len β) (j := 0) rfl
  subst e1
  obtain ⟨va, vc, rfl⟩ := hTh.vs.form
  have hrl : ((⟨10, tn, tx, te⟩ : Tk) :: r).length = r.length + 1 := rfl
  refine c_piL 13 [(0, false), (1, false), (2, false), (3, false), (4, false), (5, false), (6, false), (7, false), (8, false), (9, false), (10, false), (11, false), (12, true)] (La bT _ _ (La gt _ _ (fun _ => True))) mixed (by kernel_rfl) rfl (by kernel_rfl) (po_then (po_bp)) (⟨hB, hV, trivial⟩) ?_ -- region 1 compm.go:510
  refine ql_ro rfl (fun w hS => ro_move rfl) ?_
  refine ql_ro rfl (fun w hS => ro_nilCheck rfl) ?_
  refine ql_ro rfl (fun w hS => ro_fieldAddr (k := 3) rfl fo_126_3) ?_
  refine ql_ro rfl (fun w hS => ro_loadB rfl sc_124 (hS.1) rfl) ?_
  refine ql_ro rfl (fun w hS => ro_move rfl) ?_
  refine ql_ro rfl (fun w hS => ro_nilCheck rfl) ?_
  refine ql_ro rfl (fun w hS => ro_fieldAddr (k := 3) rfl fo_126_3) ?_
  refine ql_ro rfl (fun w hS => ro_loadB rfl sc_124 (hS.1) rfl) ?_
  refine ql_ro rfl (fun w hS => ro_lenL rfl se_124) ?_
  refine ql_ro rfl (fun w hS => ro_arith rfl rfl rfl (Go.IntWalk.i64_in _ (by omega))) ?_
  refine ql_ro rfl (fun w hS => ro_indexAddr (et := 161) (k := 4) rfl rfl se_124 ((show ((((⟨10, tn, tx, te⟩ : Tk) :: r).length : Int) - 1) = ((((⟨10, tn, tx, te⟩ : Tk) :: r).length - 1 - 0 : Nat) : Int) by omega)) ((by omega))) ?_
  refine ql_ro rfl (fun w hS => ro_loadAggB rfl ag_161 (hS.2.1) (rfl) (q4)) ?_
  refine ql_new rfl ze_161 (fun w1 F ↦ ⟨F.blkN hB, F.blkN hV, trivial⟩) ?_
  intro b3 w1 hbb3 h3 F1
  have hbsb3 := Nat.le_trans hF.size hbb3
  have hnegnb3 : gn < b3 := Nat.lt_of_lt_of_le hN.lt hbb3
  have hnegTb3 : gT < b3 := Nat.lt_of_lt_of_le hO.lt hbb3
  have hnebTb3 : bT < b3 := Nat.lt_of_lt_of_le hB.lt hbb3
  have hnerbb3 : rb < b3 := Nat.lt_of_lt_of_le hXr.lt hbb3
  have hnegtb3 : gt < b3 := Nat.lt_of_lt_of_le hV.lt hbb3
  have kh3 := hR.df b3 hbb3
  replace hF := hF.thenDrew.thenN F1
  replace hR := hR.thruN ((Fram.refl none' _).thenDrew.thenN F1)
  replace hN := F1.blkN hN
  replace hO := F1.blkN hO
  replace hB := F1.blkN hB
  replace hXr := F1.blkN hXr
  replace hV := F1.blkN hV
  refine ql_puta rfl rfl rfl ((tsc_one _ _)) sz_161 (rfl) h3 ((by simp)) ((show _ = [i64c 10, i64c tn, i64c tx, .pointer (epo β te)] from rfl)) (fun w2 h3 F2 => ?_)
  replace hF := hF.thenDrew.thenO F2 (by first | exact .inr (by omega) | exact .inl rfl | exact .inl (by assumption) | assumption)
  replace hR := hR.hbput ((Fram.refl (one b3) _).thenDrew.thenO F2 (.inl rfl))
  replace hN := F2.blkO hN (by first | omega | exact ow_ne (by assumption) (by assumption) (by omega))
  replace hO := F2.blkO hO (by first | omega | exact ow_ne (by assumption) (by assumption) (by omega))
  replace hB := F2.blkO hB (by first | omega | exact ow_ne (by assumption) (by assumption) (by omega))
  replace hXr := F2.blkO hXr (by first | omega | exact ow_ne (by assumption) (by assumption) (by omega))
  replace hV := F2.blkO hV (by first | omega | exact ow_ne (by assumption) (by assumption) (by omega))
  refine x_then (hK2 _ _ ?_)
  clear hK2 K2
  refine forget [(0, _), (2, _), (3, _)] ⟨rfl, rfl, rfl, trivial⟩ (fun e => ?_)
  refine c_seq (fun K3 hK3 => ?_)
  obtain ⟨b0, hb0⟩ : ∃ b0, b0 = bT := ⟨_, rfl⟩
  subst hb0
  have hb0 := hbT
  clear hTh hkb hlT hbT hcapT hgT hclT hk70 hB hO hXr hV q4 q3 q2 q1 hts0
  obtain ⟨cv, a0, a1, a2, a3, a4, gT, capT, lT, bT, tvT, vvT, hXr, hO, hlT, hcapT, hbT, hTh, hgT⟩ := hR.open
  have hB := hTh.k
  have hkb := hTh.t
  have hclT := hR.cl
  unfold rnc at hXr
  have hk70 := hR.t70
  have hbe : bT = b0 := Option.some.inj (hbT.symm.trans hb0)
  subst hbe
  obtain ⟨ta, tc, rfl⟩ := hTh.ts.form
  obtain ⟨va2, vc2, rfl⟩ := hTh.vs.form
  have hcapt := hTh.ts.capge
  have htr := hTh.ts.dropR (tsc_len β) 1
  rw [htl, htk] at htr
  have hmb := hX.memC (hR.mem_b hR.cl hTh.t)
  refine c_piL 14 [(0, false), (1, false), (2, false), (3, false), (4, false), (5, false), (6, false), (7, false), (8, false), (9, false), (10, false), (11, false), (12, false), (13, false)] (SameH _) mixed (by kernel_rfl) rfl (by kernel_rfl) (po_then (po_bp)) (sameH_now _ _) ?_ -- region 2 compm.go:511
  refine ql_ro rfl (fun w hS => ro_move rfl) ?_
  refine ql_ro rfl (fun w hS => ro_move rfl) ?_
  refine ql_ro rfl (fun w hS => ro_nilCheck rfl) ?_
  refine ql_ro rfl (fun w hS => ro_fieldAddr (k := 3) rfl fo_126_3) ?_
  refine ql_ro rfl (fun w hS => ro_loadB rfl sc_124 (Blk.of_heap (by assumption) hS) rfl) ?_
  refine ql_ro rfl (fun w hS => ro_move rfl) ?_
  refine ql_ro rfl (fun w hS => ro_nilCheck rfl) ?_
  refine ql_ro rfl (fun w hS => ro_fieldAddr (k := 3) rfl fo_126_3) ?_
  refine ql_ro rfl (fun w hS => ro_loadB rfl sc_124 (Blk.of_heap (by assumption) hS) rfl) ?_
  refine ql_ro rfl (fun w hS => ro_lenL rfl se_124) ?_
  refine ql_ro rfl (fun w hS => ro_arith rfl rfl rfl (Go.IntWalk.i64_in _ (by omega))) ?_
  refine ql_ro rfl (fun w hS => ro_sliceH (h := r.length) rfl rfl se_124 (by omega) (by omega)) ?_
  refine ql_ro rfl (fun w hS => ro_nilCheck rfl) ?_
  refine ql_ro rfl (fun w hS => ro_fieldAddr (k := 3) rfl fo_126_3) ?_
  refine ql_put rfl rfl rfl rfl sz_124 hB ((by simp)) (rfl) (fun w3 hB F3 => ?_)
  replace hF := hF.thenDrew.thenO F3 (by first | exact .inr (by omega) | exact .inl rfl | exact .inl (by assumption) | assumption)
  replace hN := F3.blkO hN (by first | omega | exact ow_ne (by assumption) (by assumption) (by omega))
  replace h3 := F3.blkO h3 (by first | omega | exact ow_ne (by assumption) (by assumption) (by omega))
  replace hO := F3.blkO hO (by first | omega | exact ow_ne (by assumption) (by assumption) (by omega))
  replace hXr := F3.blkO hXr (by first | omega | exact ow_ne (by assumption) (by assumption) (by omega))
  have hR2 := hR.thr' (y := { s.th with tasks := r }) hbT hTh.t htr hTh.vs ((Fram.refl (one bT) _).thenDrew.thenO F3 (.inl rfl)) hB (fun z hz => hR.tem z (by rw [htk]; exact List.mem_cons_of_mem _ hz)) (by have := hR.bdm; rw [htl] at this; exact ⟨by show r.length ≤ m; omega, this.2⟩)
  replace hR := hR2
  obtain ⟨b0, hb1⟩ : ∃ b0, b0 = bT := ⟨_, rfl⟩
  subst hb1
  have hb0 : τ[(s.setT { s.th with tasks := r }).cur]? = some b0 := hbT
  clear hTh hkb hlT hbT hcapT hgT hclT hk70 hB hO hXr htr hmb hcapt hbdd
  generalize hsP : s.setT { s.th with tasks := r } = sP at *
  have hbdP := hR.bdm
  refine x_then (hK3 _ _ ?_)
  clear hK3 K3
  refine forget [(0, _), (2, _), (3, _)] ⟨rfl, rfl, rfl, trivial⟩ (fun e => ?_)
  refine c_seq (fun K4 hK4 => ?_)
  refine c_reg ?_ -- region 3 compm.go:512
  refine wl_new (ze_148) (fun b4 w4 hbb4 h4 F4 => ?_)
  have hbsb4 := Nat.le_trans hF.size hbb4
  have hnegnb4 : gn < b4 := Nat.lt_of_lt_of_le hN.lt hbb4
  have hneb3b4 : b3 < b4 := Nat.lt_of_lt_of_le h3.lt hbb4
  have kh4 := hR.df b4 hbb4
  replace hF := hF.thenDrew.thenN F4
  replace hN := F4.blkN hN
  replace h3 := F4.blkN h3
  replace hR := hR.thruN ((Fram.refl none' _).thenDrew.thenN F4)
  refine wl_nil (x_then (hK4 _ _ ?_))
  clear hK4 K4
  refine c_seq (fun K5 hK5 => ?_)
  refine c_seq (fun K6 hK6 => ?_)
  refine c_reg ?_ -- region 4 compm.go:513
  refine wl (ro_fieldAddr (k := 0) rfl fo_161_0) ?_
  refine wl (ro_loadB rfl sc_3 (by assumption) rfl) ?_
  refine wl (ro_cmp rfl rfl rfl) ?_
  refine wl_nil (x_then (hK6 _ _ ?_))
  clear hK6 K6
  refine wc_condT rfl ?_
  obtain ⟨cv, hv_, a0, a1, a2, a3, a4, hXr, hq2, hq3, hq4⟩ := hR.r
  unfold rnc at hXr
  have hk70 := hR.t70
  refine c_piL 8 [(0, false), (1, false), (2, false), (3, false), (4, false), (5, false), (6, false), (7, false)] (SameH _) mixed (by kernel_rfl) rfl (by kernel_rfl) (po_then (po_bp)) (sameH_now _ _) ?_ -- region 5 compm.go:514
  refine ql_ro rfl (fun w hS => ro_move rfl) ?_
  refine ql_ro rfl (fun w hS => ro_nilCheck rfl) ?_
  refine ql_ro rfl (fun w hS => ro_fieldAddr (k := 2) rfl fo_112_2) ?_
  refine ql_ro rfl (fun w hS => ro_loadB rfl sc_77 (Blk.of_heap (by assumption) hS) rfl) ?_
  refine ql_ro rfl (fun w hS => ro_fieldAddr (k := 1) rfl fo_161_1) ?_
  refine ql_ro rfl (fun w hS => ro_loadB rfl sc_3 (Blk.of_heap (by assumption) hS) rfl) ?_
  refine ql_ro rfl (fun w hS => ro_indexAddr (et := 148) (k := 8) rfl rfl se_77 (rfl) (hn)) ?_
  refine ql_ro rfl (fun w hS => ro_loadAggB rfl ag_148 (Blk.of_heap hN hS) (rfl) (hpn)) ?_
  refine ql_puta rfl rfl rfl ((ndc_one _)) sz_148 (rfl) h4 ((by simp)) ((show _ = ndc (nd G tn, pn) from rfl)) (fun w5 h4 F5 => ?_)
  replace hF := hF.thenDrew.thenO F5 (by first | exact .inr (by omega) | exact .inl rfl | exact .inl (by assumption) | assumption)
  replace hN := F5.blkO hN (by first | omega | exact ow_ne (by assumption) (by assumption) (by omega))
  replace h3 := F5.blkO h3 (by first | omega | exact ow_ne (by assumption) (by assumption) (by omega))
  replace hR := hR.hbput ((Fram.refl (one b4) _).thenDrew.thenO F5 (.inl rfl))
  replace hXr := F5.blkO hXr (by first | omega | exact ow_ne (by assumption) (by assumption) (by omega))
  refine x_then (hK5 _ _ ?_)
  clear hK5 K5
  refine forget [(0, _), (2, _), (3, _), (4, _)] ⟨rfl, rfl, rfl, rfl, trivial⟩ (fun e => ?_)
  refine c_seq (fun K7 hK7 => ?_)
  have hf : flT r + 3 ≤ h := hf
  refine c_reg ?_ -- region 6 compm.go:516
  refine wl (ro_fieldAddr (k := 0) rfl fo_161_0) ?_
  refine wl (ro_loadB rfl sc_3 (by assumption) rfl) ?_
  refine wl_nil (x_then (hK7 _ _ ?_))
  clear hK7 K7
  refine c_block ?_
  refine forget [(0, _), (2, _), (3, _), (4, _), (92, _)] ⟨rfl, rfl, rfl, rfl, rfl, trivial⟩ (fun e => ?_)
  refine c_seq (fun K8 hK8 => ?_)
  refine c_reg ?_ -- region 7 compm.go:517
  refine wl (ro_cmp rfl rfl rfl) ?_
  refine wl (ro_assign rfl) ?_
  refine wl_nil (x_then (hK8 _ _ ?_))
  clear hK8 K8
  refine wc_condF rfl ?_
  refine c_seq (fun K9 hK9 => ?_)
  refine c_reg ?_ -- region 10 compm.go:521
  refine wl (ro_cmp rfl rfl rfl) ?_
  refine wl (ro_assign rfl) ?_
  refine wl_nil (x_then (hK9 _ _ ?_))
  clear hK9 K9
  refine wc_condF rfl ?_
  refine c_seq (fun K10 hK10 => ?_)
  refine c_reg ?_ -- region 12 compm.go:523
  refine wl (ro_cmp rfl rfl rfl) ?_
  refine wl (ro_assign rfl) ?_
  refine wl_nil (x_then (hK10 _ _ ?_))
  clear hK10 K10
  refine wc_condF rfl ?_
  refine c_seq (fun K11 hK11 => ?_)
  refine c_reg ?_ -- region 15 compm.go:526
  refine wl (ro_cmp rfl rfl rfl) ?_
  refine wl (ro_assign rfl) ?_
  refine wl_nil (x_then (hK11 _ _ ?_))
  clear hK11 K11
  refine wc_condF rfl ?_
  refine c_seq (fun K12 hK12 => ?_)
  refine c_reg ?_ -- region 16 compm.go:527
  refine wl (ro_cmp rfl rfl rfl) ?_
  refine wl (ro_assign rfl) ?_
  refine wl_nil (x_then (hK12 _ _ ?_))
  clear hK12 K12
  refine wc_condF rfl ?_
  refine c_seq (fun K13 hK13 => ?_)
  refine c_reg ?_ -- region 18 compm.go:529
  refine wl (ro_cmp rfl rfl rfl) ?_
  refine wl (ro_assign rfl) ?_
  refine wl_nil (x_then (hK13 _ _ ?_))
  clear hK13 K13
  refine wc_condF rfl ?_
  refine c_seq (fun K14 hK14 => ?_)
  refine c_reg ?_ -- region 21 compm.go:532
  refine wl (ro_cmp rfl rfl rfl) ?_
  refine wl (ro_assign rfl) ?_
  refine wl_nil (x_then (hK14 _ _ ?_))
  clear hK14 K14
  refine wc_condF rfl ?_
  refine c_seq (fun K15 hK15 => ?_)
  refine c_reg ?_ -- region 28 compm.go:539
  refine wl (ro_cmp rfl rfl rfl) ?_
  refine wl (ro_assign rfl) ?_
  refine wl_nil (x_then (hK15 _ _ ?_))
  clear hK15 K15
  refine wc_condF rfl ?_
  refine c_seq (fun K16 hK16 => ?_)
  refine c_reg ?_ -- region 31 compm.go:542
  refine wl (ro_cmp rfl rfl rfl) ?_
  refine wl (ro_assign rfl) ?_
  refine wl_nil (x_then (hK16 _ _ ?_))
  clear hK16 K16
  refine wc_condF rfl ?_
  refine c_seq (fun K17 hK17 => ?_)
  refine c_reg ?_ -- region 37 compm.go:550
  refine wl (ro_cmp rfl rfl rfl) ?_
  refine wl (ro_assign rfl) ?_
  refine wl_nil (x_then (hK17 _ _ ?_))
  clear hK17 K17
  refine wc_condT rfl ?_
  refine c_seq (fun K18 hK18 => ?_)
  refine c_reg ?_ -- region 38 compm.go:551
  refine wl (ro_move rfl) ?_
  refine wl_call rfl en_59 (pop59 hR.dr (by omega) (by omega)) ?_
  rintro _ u6 ⟨rfl, ow6, x6, f6, r6⟩
  obtain ⟨hN, khN⟩ := cm_loc x6 f6 hN khN
  obtain ⟨h3, kh3⟩ := cm_loc x6 f6 h3 kh3
  obtain ⟨h4, kh4⟩ := cm_loc x6 f6 h4 kh4
  have hs6 := hF.size
  replace hF := cm_trans hX hF f6
  replace hX := hX.trans hs6 x6
  replace hR := r6
  refine wl_new (ze_119) (fun b13 w7 hbb13 h13 F7 => ?_)
  have hbsb13 := Nat.le_trans hF.size hbb13
  have hnegnb13 : gn < b13 := Nat.lt_of_lt_of_le hN.lt hbb13
  have hneb3b13 : b3 < b13 := Nat.lt_of_lt_of_le h3.lt hbb13
  have hneb4b13 : b4 < b13 := Nat.lt_of_lt_of_le h4.lt hbb13
  have kh13 := hR.df b13 hbb13
  replace hF := hF.thenDrew.thenN F7
  replace hN := F7.blkN hN
  replace h3 := F7.blkN h3
  replace hR := hR.thruN ((Fram.refl none' _).thenDrew.thenN F7)
  replace h4 := F7.blkN h4
  refine wl_puta rfl rfl ((pvc_one _)) sz_119 (rfl) h13 ((by simp)) ((show _ = pvc (sP.top 0) from rfl)) (fun w8 h13 F8 => ?_)
  replace hF := hF.thenDrew.thenO F8 (by first | exact .inr (by omega) | exact .inl rfl | exact .inl (by assumption) | assumption)
  replace hN := F8.blkO hN (by first | omega | exact ow_ne (by assumption) (by assumption) (by omega))
  replace h3 := F8.blkO h3 (by first | omega | exact ow_ne (by assumption) (by assumption) (by omega))
  replace hR := hR.hbput ((Fram.refl (one b13) _).thenDrew.thenO F8 (.inl rfl))
  replace h4 := F8.blkO h4 (by first | omega | exact ow_ne (by assumption) (by assumption) (by omega))
  refine wl_nil (x_then (hK18 _ _ ?_))
  clear hK18 K18
  refine forget [(0, _), (13, _)] ⟨rfl, rfl, trivial⟩ (fun e => ?_)
  refine c_seq (fun K19 hK19 => ?_)
  refine c_reg ?_ -- region 39 compm.go:552
  refine wl (ro_move rfl) ?_
  refine wl_call rfl en_59 (pop59 hR.dr (by rw [drop_vals hclP, List.length_drop]; omega) (by omega)) ?_
  rintro _ u9 ⟨rfl, ow9, x9, f9, r9⟩
  obtain ⟨hN, khN⟩ := cm_loc x9 f9 hN khN
  obtain ⟨h3, kh3⟩ := cm_loc x9 f9 h3 kh3
  obtain ⟨h4, kh4⟩ := cm_loc x9 f9 h4 kh4
  obtain ⟨h13, kh13⟩ := cm_loc x9 f9 h13 kh13
  have hs9 := hF.size
  replace hF := cm_trans hX hF f9
  replace hX := hX.trans hs9 x9
  replace hR := r9
  rw [drop_drop hclP] at hR
  rw [top_drop hclP]
  refine wl_new (ze_119) (fun b14 w10 hbb14 h14 F10 => ?_)
  have hbsb14 := Nat.le_trans hF.size hbb14
  have hnegnb14 : gn < b14 := Nat.lt_of_lt_of_le hN.lt hbb14
  have hneb3b14 : b3 < b14 := Nat.lt_of_lt_of_le h3.lt hbb14
  have hneb4b14 : b4 < b14 := Nat.lt_of_lt_of_le h4.lt hbb14
  have hneb13b14 : b13 < b14 := Nat.lt_of_lt_of_le h13.lt hbb14
  have kh14 := hR.df b14 hbb14
  replace hF := hF.thenDrew.thenN F10
  replace hN := F10.blkN hN
  replace h3 := F10.blkN h3
  replace hR := hR.thruN ((Fram.refl none' _).thenDrew.thenN F10)
  replace h4 := F10.blkN h4
  replace h13 := F10.blkN h13
  refine wl_puta rfl rfl ((pvc_one _)) sz_119 (rfl) h14 ((by simp)) ((show _ = pvc (sP.top 1) from rfl)) (fun w11 h14 F11 => ?_)
  replace hF := hF.thenDrew.thenO F11 (by first | exact .inr (by omega) | exact .inl rfl | exact .inl (by assumption) | assumption)
  replace hN := F11.blkO hN (by first | omega | exact ow_ne (by assumption) (by assumption) (by omega))
  replace h3 := F11.blkO h3 (by first | omega | exact ow_ne (by assumption) (by assumption) (by omega))
  replace hR := hR.hbput ((Fram.refl (one b14) _).thenDrew.thenO F11 (.inl rfl))
  replace h4 := F11.blkO h4 (by first | omega | exact ow_ne (by assumption) (by assumption) (by omega))
  replace h13 := F11.blkO h13 (by first | omega | exact ow_ne (by assumption) (by assumption) (by omega))
  refine wl_nil (x_then (hK19 _ _ ?_))
  clear hK19 K19
  refine forget [(0, _), (13, _), (14, _)] ⟨rfl, rfl, rfl, trivial⟩ (fun e => ?_)
  refine c_seq (fun K20 hK20 => ?_)
  refine c_reg ?_ -- region 40 compm.go:553
  refine wl (ro_move rfl) ?_
  refine wl_call rfl en_59 (pop59 hR.dr (by rw [drop_vals hclP, List.length_drop]; omega) (by omega)) ?_
  rintro _ u12 ⟨rfl, ow12, x12, f12, r12⟩
  obtain ⟨hN, khN⟩ := cm_loc x12 f12 hN khN
  obtain ⟨h3, kh3⟩ := cm_loc x12 f12 h3 kh3
  obtain ⟨h4, kh4⟩ := cm_loc x12 f12 h4 kh4
  obtain ⟨h13, kh13⟩ := cm_loc x12 f12 h13 kh13
  obtain ⟨h14, kh14⟩ := cm_loc x12 f12 h14 kh14
  have hs12 := hF.size
  replace hF := cm_trans hX hF f12
  replace hX := hX.trans hs12 x12
  replace hR := r12
  rw [drop_drop hclP] at hR
  rw [top_drop hclP]
  refine wl_new (ze_119) (fun b15 w13 hbb15 h15 F13 => ?_)
  have hbsb15 := Nat.le_trans hF.size hbb15
  have hnegnb15 : gn < b15 := Nat.lt_of_lt_of_le hN.lt hbb15
  have hneb3b15 : b3 < b15 := Nat.lt_of_lt_of_le h3.lt hbb15
  have hneb4b15 : b4 < b15 := Nat.lt_of_lt_of_le h4.lt hbb15
  have hneb13b15 : b13 < b15 := Nat.lt_of_lt_of_le h13.lt hbb15
  have hneb14b15 : b14 < b15 := Nat.lt_of_lt_of_le h14.lt hbb15
  have kh15 := hR.df b15 hbb15
  replace hF := hF.thenDrew.thenN F13
  replace hN := F13.blkN hN
  replace h3 := F13.blkN h3
  replace hR := hR.thruN ((Fram.refl none' _).thenDrew.thenN F13)
  replace h4 := F13.blkN h4
  replace h13 := F13.blkN h13
  replace h14 := F13.blkN h14
  refine wl_puta rfl rfl ((pvc_one _)) sz_119 (rfl) h15 ((by simp)) ((show _ = pvc (sP.top 2) from rfl)) (fun w14 h15 F14 => ?_)
  replace hF := hF.thenDrew.thenO F14 (by first | exact .inr (by omega) | exact .inl rfl | exact .inl (by assumption) | assumption)
  replace hN := F14.blkO hN (by first | omega | exact ow_ne (by assumption) (by assumption) (by omega))
  replace h3 := F14.blkO h3 (by first | omega | exact ow_ne (by assumption) (by assumption) (by omega))
  replace hR := hR.hbput ((Fram.refl (one b15) _).thenDrew.thenO F14 (.inl rfl))
  replace h4 := F14.blkO h4 (by first | omega | exact ow_ne (by assumption) (by assumption) (by omega))
  replace h13 := F14.blkO h13 (by first | omega | exact ow_ne (by assumption) (by assumption) (by omega))
  replace h14 := F14.blkO h14 (by first | omega | exact ow_ne (by assumption) (by assumption) (by omega))
  refine wl_nil (x_then (hK20 _ _ ?_))
  clear hK20 K20
  refine c_reg ?_ -- region 41 compm.go:554
  refine wl (ro_move rfl) ?_
  refine wl (ro_loadAggB rfl ag_119 (by assumption) rfl rfl) ?_
  refine wl (ro_loadAggB rfl ag_119 (by assumption) rfl rfl) ?_
  refine wl (ro_loadAggB rfl ag_119 (by assumption) rfl rfl) ?_
  refine wl_call rfl en_61 (set61 (t := sP.top 2) (k := sP.top 1) (v := sP.top 0) hR.dr (hokt 2).tb (hokt 1).wf (hokt 1).w (hokt 0).wf (hokt 0).w (tSet_ok (hokP.tabD (sP.top 2).N).1 (hokP.tabD (sP.top 2).N).2 (hokt 1) (hokt 0)).1 ((P.drop 3).rt hT (by omega)) (by omega)) ?_
  rintro _ u15 ⟨rfl, ow15, x15, f15, r15⟩
  obtain ⟨hN, khN⟩ := cm_loc x15 f15 hN khN
  obtain ⟨h3, kh3⟩ := cm_loc x15 f15 h3 kh3
  obtain ⟨h4, kh4⟩ := cm_loc x15 f15 h4 kh4
  obtain ⟨h13, kh13⟩ := cm_loc x15 f15 h13 kh13
  obtain ⟨h14, kh14⟩ := cm_loc x15 f15 h14 kh14
  obtain ⟨h15, kh15⟩ := cm_loc x15 f15 h15 kh15
  have hs15 := hF.size
  replace hF := cm_trans hX hF f15
  replace hX := hX.trans hs15 x15
  replace hR := r15
  refine wl_nil (x_blk ?_)
  refine bp_end Tryz.results33 rfl ?_
  refine ⟨rfl, ?_⟩
  rw [hgoal]
  unfold istep1
  simp only [Nat.reduceEqDiff, reduceIte]
  try rw [hmod]
  try simp only [hnx]
  try rw [hlen7]
  try rw [hlen8]
  try (rw [burn_if (by exact P.b.dn)]; first | rw [if_pos (by exact hfu)] | rw [if_neg (by exact hfu)])
  repeat (first | rw [if_pos (by first | assumption | omega)] | rw [if_neg (by first | assumption | omega)])
  first
  | exact hf0 hX hF hR (by omega)
  | exact hf1 hX hF hR (by omega)
  | exact hf2 hX hF hR (by omega)
  | exact hf9 hX hF hR (by omega)

end Go.Proofs.Qxb6500568aGreatDoor
