import Derived.Test.Qxb6500568aGreatDoorYv
/- The interpreter: step, tasks of the kinds 1 to 4. -/
namespace Go.Proofs.Qxb6500568aGreatDoor
open Ieee
set_option linter.unusedVariables false
set_option linter.unusedSimpArgs false
set_option linter.unusedSectionVars false

set_option maxHeartbeats 8000000 in
theorem step33_1 {G : Arena} {root : Nat} {np : Value} {tb rb : Nat} {nv : Value} {w : World} {ow : Nat → Nat} {β τ : List Nat} {m : Nat} {s : IS} (hR : RM G root np tb rb nv w ow β τ m s) (hG : 0 < G.length) (hAG : AOK G) (h0K : (nd G 0).K = 0) (hI : IA G root s) (ht0 : 0 < s.tabs.length) (hm : m ≤ 19900) {tn tx te : Nat} {r : List Tk} (htk : s.th.tasks = ⟨1, tn, tx, te⟩ :: r) :
    Ret Tryz.prog 33 [ptr rb] w (fun r w' => r = .tuple #[] ∧ ∃ bs τ', RP G root np tb rb nv w ow (β ++ bs) (τ ++ τ') (m + 12) (istep G root s) w') := by
  obtain ⟨hok, hnu, htb, T, h, P0, hT0⟩ := hI
  have hTe := P0.t.symm.trans htk
  subst hTe
  have hF : Fram (tg ow cmT) w w := Fram.refl _ _
  have hX : Xt w ow ow := Xt.refl _ _
  have hmr := hR.mem_r
  have hgoal : istep G root s = istep1 G root ⟨1, tn, tx, te⟩ s (s.setT { s.th with tasks := r }) := by unfold istep; rw [htk]
  have het : te ≤ s.envs.length := by have q := hT0; unfold TkI at q; exact q.1
  have hel : te ≤ β.length := by rw [hR.el]; exact het
  have heP : EP β te (epo β te) := EP.mk' hel
  have htl : s.th.tasks.length = r.length + 1 := by rw [htk]; rfl
  have hcl0 := P0.cl
  have hokP : IOK (s.setT { s.th with tasks := r }) := hok.setT hok.th
  have hP0 : 0 < (s.setT { s.th with tasks := r }).tabs.length := ht0
  have htop : ∀ i, (s.setT { s.th with tasks := r }).top i = s.top i := fun i => by unfold IS.top; rw [th_setT hcl0]
  have hclP : (s.setT { s.th with tasks := r }).cur < (s.setT { s.th with tasks := r }).ths.length := by simpa [IS.setT] using hcl0
  have hetP : te ≤ (s.setT { s.th with tasks := r }).envs.length := het
  have P : PW G root (s.setT { s.th with tasks := r }) r h := P0.pop (t := ⟨1, tn, tx, te⟩) (show (1 : Nat) ≠ 3 by decide)
  obtain ⟨-, hn, -, hf, hk, hT⟩ := hT0.inv (t := ⟨1, tn, tx, te⟩) (show (1 : Nat) ≠ 3 by decide)
  have hn : tn < G.length := hn
  have hvl : (s.setT { s.th with tasks := r }).th.vals.length = h := P.v
  have hokt : ∀ i, ok (s.setT { s.th with tasks := r }) ((s.setT { s.th with tasks := r }).top i) := fun i => IOK.getD hokP.th i
  have hnh := hokP.nh
  have hnc := hokP.nc
  have hnn := (hAG tn).1
  obtain ⟨gn, capn, ln, rfl, hN, khN, hcapn, hrow⟩ := hR.nodes hG
  obtain ⟨pn, hpn⟩ := hrow tn hn
  have hf9 : ∀ {u : World} {ow' : Nat → Nat} {m' : Nat} {s' : IS} {bs τ' : List Nat}, Xt w ow ow' → Fram (tg ow cmT) w u → RM G root np tb rb (.slice (some ⟨gn, 0, none⟩) G.length capn) u ow' (β ++ bs) (τ ++ τ') m' s' → m' ≤ m + 12 → ∃ bs τ', RP G root np tb rb (.slice (some ⟨gn, 0, none⟩) G.length capn) w ow (β ++ bs) (τ ++ τ') (m + 12) s' u := fun {_ _ _ _ bs τ'} h1 h2 h3 h4 => ⟨bs, τ', _, h1, h2, h3.le h4⟩
  have hf0 : ∀ {u : World} {ow' : Nat → Nat} {m' : Nat} {s' : IS}, Xt w ow ow' → Fram (tg ow cmT) w u → RM G root np tb rb (.slice (some ⟨gn, 0, none⟩) G.length capn) u ow' β τ m' s' → m' ≤ m + 12 → ∃ bs τ', RP G root np tb rb (.slice (some ⟨gn, 0, none⟩) G.length capn) w ow (β ++ bs) (τ ++ τ') (m + 12) s' u := fun h1 h2 h3 h4 => hf9 (bs := []) (τ' := []) h1 h2 (by rw [List.append_nil, List.append_nil]; exact h3) h4
  have hf1 : ∀ {u : World} {ow' : Nat → Nat} {m' : Nat} {s' : IS} {bs : List Nat}, Xt w ow ow' → Fram (tg ow cmT) w u → RM G root np tb rb (.slice (some ⟨gn, 0, none⟩) G.length capn) u ow' (β ++ bs) τ m' s' → m' ≤ m + 12 → ∃ bs τ', RP G root np tb rb (.slice (some ⟨gn, 0, none⟩) G.length capn) w ow (β ++ bs) (τ ++ τ') (m + 12) s' u := fun {_ _ _ _ bs} h1 h2 h3 h4 => hf9 (bs := bs) (τ' := []) h1 h2 (by rw [List.append_nil]; exact h3) h4
  have hf2 : ∀ {u : World} {ow' : Nat → Nat} {m' : Nat} {s' : IS} {b1 b2 : Nat}, Xt w ow ow' → Fram (tg ow cmT) w u → RM G root np tb rb (.slice (some ⟨gn, 0, none⟩) G.length capn) u ow' (β ++ [b1] ++ [b2]) τ m' s' → m' ≤ m + 12 → ∃ bs τ', RP G root np tb rb (.slice (some ⟨gn, 0, none⟩) G.length capn) w ow (β ++ bs) (τ ++ τ') (m + 12) s' u := fun {_ _ _ _ b1 b2} h1 h2 h3 h4 => hf9 (bs := [b1, b2]) (τ' := []) h1 h2 (by rw [List.append_nil]; rw [List.append_assoc] at h3; exact h3) h4
  refine ret_of Tryz.func33 rfl Tryz.ntmps33 rfl ?_
  refine c_seq (fun K1 hK1 => ?_)
  obtain ⟨cv, a0, a1, a2, a3, a4, gT, capT, lT, bT, tvT, vvT, hXr, hO, hlT, hcapT, hbT, hTh, hgT⟩ := hR.open
  have hB := hTh.k
  have hkb := hTh.t
  have hclT := hR.cl
  unfold rnc at hXr
  have hk70 := hR.t70
  have hbdd := hR.bdm
  refine c_pi [(0, false), (1, false), (2, false), (3, false), (4, false), (5, false), (6, false), (7, false), (8, false), (9, false), (10, false)] (SameH _) mixed (by kernel_rfl) rfl (by kernel_rfl) (po_then (po_bp)) (sameH_now _ _) ?_ -- region 0 compm.go:509
  refine pi_ro rfl (fun w hS => ro_move rfl) ?_
  refine pi_ro rfl (fun w hS => ro_nilCheck rfl) ?_
  refine pi_ro rfl (fun w hS => ro_fieldAddr (k := 5) rfl fo_112_5) ?_
  refine pi_ro rfl (fun w hS => ro_loadB rfl sc_109 (Blk.of_heap (by assumption) hS) rfl) ?_
  refine pi_ro rfl (fun w hS => ro_move rfl) ?_
  refine pi_ro rfl (fun w hS => ro_nilCheck rfl) ?_
  refine pi_ro rfl (fun w hS => ro_fieldAddr (k := 12) rfl fo_112_8) ?_
  refine pi_ro rfl (fun w hS => ro_loadB rfl sc_3 (Blk.of_heap (by assumption) hS) rfl) ?_
  refine pi_ro rfl (fun w hS => ro_indexAddr (et := 123) (k := 1) rfl rfl se_109 rfl (by omega)) ?_
  refine pi_ro rfl (fun w hS => ro_loadB rfl sc_123 (Blk.of_heap hO hS) (hlT)) ?_
  refine pi_ro rfl (fun w hS => ro_assign rfl) ?_
  refine pi_nil (x_then (hK1 _ _ ?_))
  clear hK1 K1
  refine forget [(0, _), (2, _)] ⟨rfl, rfl, trivial⟩ (fun e => ?_)
  refine c_seq (fun K2 hK2 => ?_)
  have hts0 := hTh.ts
  rw [htk] at hts0
  obtain ⟨gt, capt, lt, e1, hV, q1, q2, q3, q4⟩ := hts0.atR (tsc_len β) (j := 0) rfl
  subst e1
  obtain ⟨va, vc, rfl⟩ := hTh.vs.form
  have hrl : ((⟨1, tn, tx, te⟩ : Tk) :: r).length = r.length + 1 := rfl
  refine c_piL 13 [(0, false), (1, false), (2, false), (3, false), (4, false), (5, false), (6, false), (7, false), (8, false), (9, false), (10, false), (11, false), (12, true)] (La bT _ _ (La gt _ _ (fun _ => True))) mixed (by kernel_rfl) rfl (by kernel_rfl) (po_then (po_bp)) (⟨hB, hV, trivial⟩) ?_ -- region 1 compm.go:510
  refine ql_ro rfl (fun w hS => ro_move rfl) ?_
  refine ql_ro rfl (fun w hS => ro_nilCheck rfl) ?_
  refine ql_ro rfl (fun w hS => ro_fieldAddr (k := 3) rfl fo_126_3) ?_
  refine ql_ro rfl (fun w hS => ro_loadB rfl sc_124 (hS.1) rfl) ?_
  refine ql_ro rfl (fun w hS => ro_move rfl) ?_
  refine ql_ro rfl (fun w hS => ro_nilCheck rfl) ?_
  refine ql_ro rfl (fun w hS => ro_fieldAddr (k := 3) rfl fo_126_3) ?_
  refine ql_ro rfl (fun w hS => ro_loadB rfl sc_124 (hS.1) rfl) ?_
  refine ql_ro rfl (fun w hS => ro_lenL rfl se_124) ?_
  refine ql_ro rfl (fun w hS => ro_arith rfl rfl rfl (Go.IntWalk.i64_in _ (by omega))) ?_
  refine ql_ro rfl (fun w hS => ro_indexAddr (et := 161) (k := 4) rfl rfl se_124 ((show ((((⟨1, tn, tx, te⟩ : Tk) :: r).length : Int) - 1) = ((((⟨1, tn, tx, te⟩ : Tk) :: r).length - 1 - 0 : Nat) : Int) by omega)) ((by omega))) ?_
  refine ql_ro rfl (fun w hS => ro_loadAggB rfl ag_161 (hS.2.1) (rfl) (q4)) ?_
  refine ql_new rfl ze_161 (fun w1 F ↦ ⟨F.blkN hB, F.blkN hV, trivial⟩) ?_
  intro b3 w1 hbb3 h3 F1
  have hbsb3 := Nat.le_trans hF.size hbb3
  have hnegnb3 : gn < b3 := Nat.lt_of_lt_of_le hN.lt hbb3
  have hnegTb3 : gT < b3 := Nat.lt_of_lt_of_le hO.lt hbb3
  have hnebTb3 : bT < b3 := Nat.lt_of_lt_of_le hB.lt hbb3
  have hnerbb3 : rb < b3 := Nat.lt_of_lt_of_le hXr.lt hbb3
  have hnegtb3 : gt < b3 := Nat.lt_of_lt_of_le hV.lt hbb3
  have kh3 := hR.df b3 hbb3
  replace hF := hF.thenDrew.thenN F1
  replace hR := hR.thruN ((Fram.refl none' _).thenDrew.thenN F1)
  replace hN := F1.blkN hN
  replace hO := F1.blkN hO
  replace hB := F1.blkN hB
  replace hXr := F1.blkN hXr
  replace hV := F1.blkN hV
  refine ql_puta rfl rfl rfl ((tsc_one _ _)) sz_161 (rfl) h3 ((by simp)) ((show _ = [i64c 1, i64c tn, i64c tx, .pointer (epo β te)] from rfl)) (fun w2 h3 F2 => ?_)
  replace hF := hF.thenDrew.thenO F2 (by first | exact .inr (by omega) | exact .inl rfl | exact .inl (by assumption) | assumption)
  replace hR := hR.hbput ((Fram.refl (one b3) _).thenDrew.thenO F2 (.inl rfl))
  replace hN := F2.blkO hN (by first | omega | exact ow_ne (by assumption) (by assumption) (by omega))
  replace hO := F2.blkO hO (by first | omega | exact ow_ne (by assumption) (by assumption) (by omega))
  replace hB := F2.blkO hB (by first | omega | exact ow_ne (by assumption) (by assumption) (by omega))
  replace hXr := F2.blkO hXr (by first | omega | exact ow_ne (by assumption) (by assumption) (by omega))
  replace hV := F2.blkO hV (by first | omega | exact ow_ne (by assumption) (by assumption) (by omega))
  refine x_then (hK2 _ _ ?_)
  clear hK2 K2
  refine forget [(0, _), (2, _), (3, _)] ⟨rfl, rfl, rfl, trivial⟩ (fun e => ?_)
  refine c_seq (fun K3 hK3 => ?_)
  obtain ⟨b0, hb0⟩ : ∃ b0, b0 = bT := ⟨_, rfl⟩
  subst hb0
  have hb0 := hbT
  clear hTh hkb hlT hbT hcapT hgT hclT hk70 hB hO hXr hV q4 q3 q2 q1 hts0
  obtain ⟨cv, a0, a1, a2, a3, a4, gT, capT, lT, bT, tvT, vvT, hXr, hO, hlT, hcapT, hbT, hTh, hgT⟩ := hR.open
  have hB := hTh.k
  have hkb := hTh.t
  have hclT := hR.cl
  unfold rnc at hXr
  have hk70 := hR.t70
  have hbe : bT = b0 := Option.some.inj (hbT.symm.trans hb0)
  subst hbe
  obtain ⟨ta, tc, rfl⟩ := hTh.ts.form
  obtain ⟨va2, vc2, rfl⟩ := hTh.vs.form
  have hcapt := hTh.ts.capge
  have htr := hTh.ts.dropR (tsc_len β) 1
  rw [htl, htk] at htr
  have hmb := hX.memC (hR.mem_b hR.cl hTh.t)
  refine c_piL 14 [(0, false), (1, false), (2, false), (3, false), (4, false), (5, false), (6, false), (7, false), (8, false), (9, false), (10, false), (11, false), (12, false), (13, false)] (SameH _) mixed (by kernel_rfl) rfl (by kernel_rfl) (po_then (po_bp)) (sameH_now _ _) ?_ -- region 2 compm.go:511
  refine ql_ro rfl (fun w hS => ro_move rfl) ?_
  refine ql_ro rfl (fun w hS => ro_move rfl) ?_
  refine ql_ro rfl (fun w hS => ro_nilCheck rfl) ?_
  refine ql_ro rfl (fun w hS => ro_fieldAddr (k := 3) rfl fo_126_3) ?_
  refine ql_ro rfl (fun w hS => ro_loadB rfl sc_124 (Blk.of_heap (by assumption) hS) rfl) ?_
  refine ql_ro rfl (fun w hS => ro_move rfl) ?_
  refine ql_ro rfl (fun w hS => ro_nilCheck rfl) ?_
  refine ql_ro rfl (fun w hS => ro_fieldAddr (k := 3) rfl fo_126_3) ?_
  refine ql_ro rfl (fun w hS => ro_loadB rfl sc_124 (Blk.of_heap (by assumption) hS) rfl) ?_
  refine ql_ro rfl (fun w hS => ro_lenL rfl se_124) ?_
  refine ql_ro rfl (fun w hS => ro_arith rfl rfl rfl (Go.IntWalk.i64_in _ (by omega))) ?_
  refine ql_ro rfl (fun w hS => ro_sliceH (h := r.length) rfl rfl se_124 (by omega) (by omega)) ?_
  refine ql_ro rfl (fun w hS => ro_nilCheck rfl) ?_
  refine ql_ro rfl (fun w hS => ro_fieldAddr (k := 3) rfl fo_126_3) ?_
  refine ql_put rfl rfl rfl rfl sz_124 hB ((by simp)) (rfl) (fun w3 hB F3 => ?_)
  replace hF := hF.thenDrew.thenO F3 (by first | exact .inr (by omega) | exact .inl rfl | exact .inl (by assumption) | assumption)
  replace hN := F3.blkO hN (by first | omega | exact ow_ne (by assumption) (by assumption) (by omega))
  replace h3 := F3.blkO h3 (by first | omega | exact ow_ne (by assumption) (by assumption) (by omega))
  replace hO := F3.blkO hO (by first | omega | exact ow_ne (by assumption) (by assumption) (by omega))
  replace hXr := F3.blkO hXr (by first | omega | exact ow_ne (by assumption) (by assumption) (by omega))
  have hR2 := hR.thr' (y := { s.th with tasks := r }) hbT hTh.t htr hTh.vs ((Fram.refl (one bT) _).thenDrew.thenO F3 (.inl rfl)) hB (fun z hz => hR.tem z (by rw [htk]; exact List.mem_cons_of_mem _ hz)) (by have := hR.bdm; rw [htl] at this; exact ⟨by show r.length ≤ m; omega, this.2⟩)
  replace hR := hR2
  obtain ⟨b0, hb1⟩ : ∃ b0, b0 = bT := ⟨_, rfl⟩
  subst hb1
  have hb0 : τ[(s.setT { s.th with tasks := r }).cur]? = some b0 := hbT
  clear hTh hkb hlT hbT hcapT hgT hclT hk70 hB hO hXr htr hmb hcapt hbdd
  generalize hsP : s.setT { s.th with tasks := r } = sP at *
  have hbdP := hR.bdm
  refine x_then (hK3 _ _ ?_)
  clear hK3 K3
  refine forget [(0, _), (2, _), (3, _)] ⟨rfl, rfl, rfl, trivial⟩ (fun e => ?_)
  refine c_seq (fun K4 hK4 => ?_)
  refine c_reg ?_ -- region 3 compm.go:512
  refine wl_new (ze_148) (fun b4 w4 hbb4 h4 F4 => ?_)
  have hbsb4 := Nat.le_trans hF.size hbb4
  have hnegnb4 : gn < b4 := Nat.lt_of_lt_of_le hN.lt hbb4
  have hneb3b4 : b3 < b4 := Nat.lt_of_lt_of_le h3.lt hbb4
  have kh4 := hR.df b4 hbb4
  replace hF := hF.thenDrew.thenN F4
  replace hN := F4.blkN hN
  replace h3 := F4.blkN h3
  replace hR := hR.thruN ((Fram.refl none' _).thenDrew.thenN F4)
  refine wl_nil (x_then (hK4 _ _ ?_))
  clear hK4 K4
  refine c_seq (fun K5 hK5 => ?_)
  refine c_seq (fun K6 hK6 => ?_)
  refine c_reg ?_ -- region 4 compm.go:513
  refine wl (ro_fieldAddr (k := 0) rfl fo_161_0) ?_
  refine wl (ro_loadB rfl sc_3 (by assumption) rfl) ?_
  refine wl (ro_cmp rfl rfl rfl) ?_
  refine wl_nil (x_then (hK6 _ _ ?_))
  clear hK6 K6
  refine wc_condT rfl ?_
  obtain ⟨cv, hv_, a0, a1, a2, a3, a4, hXr, hq2, hq3, hq4⟩ := hR.r
  unfold rnc at hXr
  have hk70 := hR.t70
  refine c_piL 8 [(0, false), (1, false), (2, false), (3, false), (4, false), (5, false), (6, false), (7, false)] (SameH _) mixed (by kernel_rfl) rfl (by kernel_rfl) (po_then (po_bp)) (sameH_now _ _) ?_ -- region 5 compm.go:514
  refine ql_ro rfl (fun w hS => ro_move rfl) ?_
  refine ql_ro rfl (fun w hS => ro_nilCheck rfl) ?_
  refine ql_ro rfl (fun w hS => ro_fieldAddr (k := 2) rfl fo_112_2) ?_
  refine ql_ro rfl (fun w hS => ro_loadB rfl sc_77 (Blk.of_heap (by assumption) hS) rfl) ?_
  refine ql_ro rfl (fun w hS => ro_fieldAddr (k := 1) rfl fo_161_1) ?_
  refine ql_ro rfl (fun w hS => ro_loadB rfl sc_3 (Blk.of_heap (by assumption) hS) rfl) ?_
  refine ql_ro rfl (fun w hS => ro_indexAddr (et := 148) (k := 8) rfl rfl se_77 (rfl) (hn)) ?_
  refine ql_ro rfl (fun w hS => ro_loadAggB rfl ag_148 (Blk.of_heap hN hS) (rfl) (hpn)) ?_
  refine ql_puta rfl rfl rfl ((ndc_one _)) sz_148 (rfl) h4 ((by simp)) ((show _ = ndc (nd G tn, pn) from rfl)) (fun w5 h4 F5 => ?_)
  replace hF := hF.thenDrew.thenO F5 (by first | exact .inr (by omega) | exact .inl rfl | exact .inl (by assumption) | assumption)
  replace hN := F5.blkO hN (by first | omega | exact ow_ne (by assumption) (by assumption) (by omega))
  replace h3 := F5.blkO h3 (by first | omega | exact ow_ne (by assumption) (by assumption) (by omega))
  replace hR := hR.hbput ((Fram.refl (one b4) _).thenDrew.thenO F5 (.inl rfl))
  replace hXr := F5.blkO hXr (by first | omega | exact ow_ne (by assumption) (by assumption) (by omega))
  refine x_then (hK5 _ _ ?_)
  clear hK5 K5
  refine forget [(0, _), (2, _), (3, _), (4, _)] ⟨rfl, rfl, rfl, rfl, trivial⟩ (fun e => ?_)
  refine c_seq (fun K7 hK7 => ?_)
  refine c_reg ?_ -- region 6 compm.go:516
  refine wl (ro_fieldAddr (k := 0) rfl fo_161_0) ?_
  refine wl (ro_loadB rfl sc_3 (by assumption) rfl) ?_
  refine wl_nil (x_then (hK7 _ _ ?_))
  clear hK7 K7
  refine c_block ?_
  refine forget [(0, _), (2, _), (3, _), (4, _), (92, _)] ⟨rfl, rfl, rfl, rfl, rfl, trivial⟩ (fun e => ?_)
  refine c_seq (fun K8 hK8 => ?_)
  refine c_reg ?_ -- region 7 compm.go:517
  refine wl (ro_cmp rfl rfl rfl) ?_
  refine wl (ro_assign rfl) ?_
  refine wl_nil (x_then (hK8 _ _ ?_))
  clear hK8 K8
  refine wc_condT rfl ?_
  refine c_seq (fun K9 hK9 => ?_)
  have hk : SB G tn r h 1 := hk
  refine c_reg ?_ -- region 8 compm.go:518
  refine wl (ro_fieldAddr (k := 1) rfl fo_161_1) ?_
  refine wl (ro_loadB rfl sc_3 (by assumption) rfl) ?_
  refine wl (ro_cmp rfl rfl rfl) ?_
  refine wl_nil (x_then (hK9 _ _ ?_))
  clear hK9 K9
  refine wc_cond rfl (fun hc97 => ?_) (fun hc97 => ?_)
  · try simp only [decide_eq_true_eq, decide_eq_false_iff_not, Bool.not_eq_true', Bool.not_eq_false', Bool.not_eq_eq_eq_not, Bool.not_true, Bool.not_false, beq_iff_eq, bne_iff_ne, ne_eq, beq_eq_false_iff_ne, bne_eq_false_iff_eq, gt_iff_lt, ge_iff_le, Int.not_lt, Int.not_le] at hc97
    refine c_reg ?_ -- region 9 compm.go:519
    refine wl (ro_move rfl) ?_
    refine wl (ro_fieldAddr (k := 1) rfl fo_161_1) ?_
    refine wl (ro_loadB rfl sc_3 (by assumption) rfl) ?_
    refine wl (ro_fieldAddr (k := 3) rfl fo_161_3) ?_
    refine wl (ro_loadB rfl sc_120 (by assumption) rfl) ?_
    refine wl_call rfl en_56 (stmt56 (n := tn) hR.dr heP (StP.of (by omega) hk P) (by omega)) ?_
    rintro _ u6 ⟨rfl, bs, ow6, x6, f6, r6⟩
    obtain ⟨hN, khN⟩ := cm_loc x6 f6 hN khN
    obtain ⟨h3, kh3⟩ := cm_loc x6 f6 h3 kh3
    obtain ⟨h4, kh4⟩ := cm_loc x6 f6 h4 kh4
    have hs6 := hF.size
    replace hF := cm_trans hX hF f6
    replace hX := hX.trans hs6 x6
    replace hR := r6
    refine wl_nil (x_blk ?_)
    refine bp_end Tryz.results33 rfl ?_
    refine ⟨rfl, ?_⟩
    rw [hgoal]
    unfold istep1
    simp only [Nat.reduceEqDiff, reduceIte]
    try rw [hmod]
    try simp only [hnx]
    try rw [hlen7]
    try rw [hlen8]
    try (rw [burn_if (by exact P.b.dn)]; first | rw [if_pos (by exact hfu)] | rw [if_neg (by exact hfu)])
    repeat (first | rw [if_pos (by first | assumption | omega)] | rw [if_neg (by first | assumption | omega)])
    first
    | exact hf0 hX hF hR (by omega)
    | exact hf1 hX hF hR (by omega)
    | exact hf2 hX hF hR (by omega)
    | exact hf9 hX hF hR (by omega)
  · try simp only [decide_eq_true_eq, decide_eq_false_iff_not, Bool.not_eq_true', Bool.not_eq_false', Bool.not_eq_eq_eq_not, Bool.not_true, Bool.not_false, beq_iff_eq, bne_iff_ne, ne_eq, beq_eq_false_iff_ne, bne_eq_false_iff_eq, gt_iff_lt, ge_iff_le, Int.not_lt, Int.not_le] at hc97
    refine c_skip (x_blk ?_)
    refine bp_end Tryz.results33 rfl ?_
    refine ⟨rfl, ?_⟩
    rw [hgoal]
    unfold istep1
    simp only [Nat.reduceEqDiff, reduceIte]
    try rw [hmod]
    try simp only [hnx]
    try rw [hlen7]
    try rw [hlen8]
    try (rw [burn_if (by exact P.b.dn)]; first | rw [if_pos (by exact hfu)] | rw [if_neg (by exact hfu)])
    repeat (first | rw [if_pos (by first | assumption | omega)] | rw [if_neg (by first | assumption | omega)])
    first
    | exact hf0 hX hF hR (by omega)
    | exact hf1 hX hF hR (by omega)
    | exact hf2 hX hF hR (by omega)
    | exact hf9 hX hF hR (by omega)

set_option maxHeartbeats 8000000 in
theorem step33_2 {G : Arena} {root : Nat} {np : Value} {tb rb : Nat} {nv : Value} {w : World} {ow : Nat → Nat} {β τ : List Nat} {m : Nat} {s : IS} (hR : RM G root np tb rb nv w ow β τ m s) (hG : 0 < G.length) (hAG : AOK G) (h0K : (nd G 0).K = 0) (hI : IA G root s) (ht0 : 0 < s.tabs.length) (hm : m ≤ 19900) {tn tx te : Nat} {r : List Tk} (htk : s.th.tasks = ⟨2, tn, tx, te⟩ :: r) :
    Ret Tryz.prog 33 [ptr rb] w (fun r w' => r = .tuple #[] ∧ ∃ bs τ', RP G root np tb rb nv w ow (β ++ bs) (τ ++ τ') (m + 12) (istep G root s) w') := by
  obtain ⟨hok, hnu, htb, T, h, P0, hT0⟩ := hI
  have hTe := P0.t.symm.trans htk
  subst hTe
  have hF : Fram (tg ow cmT) w w := Fram.refl _ _
  have hX : Xt w ow ow := Xt.refl _ _
  have hmr := hR.mem_r
  have hgoal : istep G root s = istep1 G root ⟨2, tn, tx, te⟩ s (s.setT { s.th with tasks := r }) := by unfold istep; rw [htk]
  have het : te ≤ s.envs.length := by have q := hT0; unfold TkI at q; exact q.1
  have hel : te ≤ β.length := by rw [hR.el]; exact het
  have heP : EP β te (epo β te) := EP.mk' hel
  have htl : s.th.tasks.length = r.length + 1 := by rw [htk]; rfl
  have hcl0 := P0.cl
  have hokP : IOK (s.setT { s.th with tasks := r }) := hok.setT hok.th
  have hP0 : 0 < (s.setT { s.th with tasks := r }).tabs.length := ht0
  have htop : ∀ i, (s.setT { s.th with tasks := r }).top i = s.top i := fun i => by unfold IS.top; rw [th_setT hcl0]
  have hclP : (s.setT { s.th with tasks := r }).cur < (s.setT { s.th with tasks := r }).ths.length := by simpa [IS.setT] using hcl0
  have hetP : te ≤ (s.setT { s.th with tasks := r }).envs.length := het
  have P : PW G root (s.setT { s.th with tasks := r }) r h := P0.pop (t := ⟨2, tn, tx, te⟩) (show (2 : Nat) ≠ 3 by decide)
  obtain ⟨-, hn, -, hf, hk, hT⟩ := hT0.inv (t := ⟨2, tn, tx, te⟩) (show (2 : Nat) ≠ 3 by decide)
  have hn : tn < G.length := hn
  have hvl : (s.setT { s.th with tasks := r }).th.vals.length = h := P.v
  have hokt : ∀ i, ok (s.setT { s.th with tasks := r }) ((s.setT { s.th with tasks := r }).top i) := fun i => IOK.getD hokP.th i
  have hnh := hokP.nh
  have hnc := hokP.nc
  have hnn := (hAG tn).1
  obtain ⟨gn, capn, ln, rfl, hN, khN, hcapn, hrow⟩ := hR.nodes hG
  obtain ⟨pn, hpn⟩ := hrow tn hn
  have hf9 : ∀ {u : World} {ow' : Nat → Nat} {m' : Nat} {s' : IS} {bs τ' : List Nat}, Xt w ow ow' → Fram (tg ow cmT) w u → RM G root np tb rb (.slice (some ⟨gn, 0, none⟩) G.length capn) u ow' (β ++ bs) (τ ++ τ') m' s' → m' ≤ m + 12 → ∃ bs τ', RP G root np tb rb (.slice (some ⟨gn, 0, none⟩) G.length capn) w ow (β ++ bs) (τ ++ τ') (m + 12) s' u := fun {_ _ _ _ bs τ'} h1 h2 h3 h4 => ⟨bs, τ', _, h1, h2, h3.le h4⟩
  have hf0 : ∀ {u : World} {ow' : Nat → Nat} {m' : Nat} {s' : IS}, Xt w ow ow' → Fram (tg ow cmT) w u → RM G root np tb rb (.slice (some ⟨gn, 0, none⟩) G.length capn) u ow' β τ m' s' → m' ≤ m + 12 → ∃ bs τ', RP G root np tb rb (.slice (some ⟨gn, 0, none⟩) G.length capn) w ow (β ++ bs) (τ ++ τ') (m + 12) s' u := fun h1 h2 h3 h4 => hf9 (bs := []) (τ' := []) h1 h2 (by rw [List.append_nil, List.append_nil]; exact h3) h4
  have hf1 : ∀ {u : World} {ow' : Nat → Nat} {m' : Nat} {s' : IS} {bs : List Nat}, Xt w ow ow' → Fram (tg ow cmT) w u → RM G root np tb rb (.slice (some ⟨gn, 0, none⟩) G.length capn) u ow' (β ++ bs) τ m' s' → m' ≤ m + 12 → ∃ bs τ', RP G root np tb rb (.slice (some ⟨gn, 0, none⟩) G.length capn) w ow (β ++ bs) (τ ++ τ') (m + 12) s' u := fun {_ _ _ _ bs} h1 h2 h3 h4 => hf9 (bs := bs) (τ' := []) h1 h2 (by rw [List.append_nil]; exact h3) h4
  have hf2 : ∀ {u : World} {ow' : Nat → Nat} {m' : Nat} {s' : IS} {b1 b2 : Nat}, Xt w ow ow' → Fram (tg ow cmT) w u → RM G root np tb rb (.slice (some ⟨gn, 0, none⟩) G.length capn) u ow' (β ++ [b1] ++ [b2]) τ m' s' → m' ≤ m + 12 → ∃ bs τ', RP G root np tb rb (.slice (some ⟨gn, 0, none⟩) G.length capn) w ow (β ++ bs) (τ ++ τ') (m + 12) s' u := fun {_ _ _ _ b1 b2} h1 h2 h3 h4 => hf9 (bs := [b1, b2]) (τ' := []) h1 h2 (by rw [List.append_nil]; rw [List.append_assoc] at h3; exact h3) h4
  refine ret_of Tryz.func33 rfl Tryz.ntmps33 rfl ?_
  refine c_seq (fun K1 hK1 => ?_)
  obtain ⟨cv, a0, a1, a2, a3, a4, gT, capT, lT, bT, tvT, vvT, hXr, hO, hlT, hcapT, hbT, hTh, hgT⟩ := hR.open
  have hB := hTh.k
  have hkb := hTh.t
  have hclT := hR.cl
  unfold rnc at hXr
  have hk70 := hR.t70
  have hbdd := hR.bdm
  refine c_pi [(0, false), (1, false), (2, false), (3, false), (4, false), (5, false), (6, false), (7, false), (8, false), (9, false), (10, false)] (SameH _) mixed (by kernel_rfl) rfl (by kernel_rfl) (po_then (po_bp)) (sameH_now _ _) ?_ -- region 0 compm.go:509
  refine pi_ro rfl (fun w hS => ro_move rfl) ?_
  refine pi_ro rfl (fun w hS => ro_nilCheck rfl) ?_
  refine pi_ro rfl (fun w hS => ro_fieldAddr (k := 5) rfl fo_112_5) ?_
  refine pi_ro rfl (fun w hS => ro_loadB rfl sc_109 (Blk.of_heap (by assumption) hS) rfl) ?_
  refine pi_ro rfl (fun w hS => ro_move rfl) ?_
  refine pi_ro rfl (fun w hS => ro_nilCheck rfl) ?_
  refine pi_ro rfl (fun w hS => ro_fieldAddr (k := 12) rfl fo_112_8) ?_
  refine pi_ro rfl (fun w hS => ro_loadB rfl sc_3 (Blk.of_heap (by assumption) hS) rfl) ?_
  refine pi_ro rfl (fun w hS => ro_indexAddr (et := 123) (k := 1) rfl rfl se_109 rfl (by omega)) ?_
  refine pi_ro rfl (fun w hS => ro_loadB rfl sc_123 (Blk.of_heap hO hS) (hlT)) ?_
  refine pi_ro rfl (fun w hS => ro_assign rfl) ?_
  refine pi_nil (x_then (hK1 _ _ ?_))
  clear hK1 K1
  refine forget [(0, _), (2, _)] ⟨rfl, rfl, trivial⟩ (fun e => ?_)
  refine c_seq (fun K2 hK2 => ?_)
  have hts0 := hTh.ts
  rw [htk] at hts0
  obtain ⟨gt, capt, lt, e1, hV, q1, q2, q3, q4⟩ := hts0.atR (tsc_len β) (j := 0) rfl
  subst e1
  obtain ⟨va, vc, rfl⟩ := hTh.vs.form
  have hrl : ((⟨2, tn, tx, te⟩ : Tk) :: r).length = r.length + 1 := rfl
  refine c_piL 13 [(0, false), (1, false), (2, false), (3, false), (4, false), (5, false), (6, false), (7, false), (8, false), (9, false), (10, false), (11, false), (12, true)] (La bT _ _ (La gt _ _ (fun _ => True))) mixed (by kernel_rfl) rfl (by kernel_rfl) (po_then (po_bp)) (⟨hB, hV, trivial⟩) ?_ -- region 1 compm.go:510
  refine ql_ro rfl (fun w hS => ro_move rfl) ?_
  refine ql_ro rfl (fun w hS => ro_nilCheck rfl) ?_
  refine ql_ro rfl (fun w hS => ro_fieldAddr (k := 3) rfl fo_126_3) ?_
  refine ql_ro rfl (fun w hS => ro_loadB rfl sc_124 (hS.1) rfl) ?_
  refine ql_ro rfl (fun w hS => ro_move rfl) ?_
  refine ql_ro rfl (fun w hS => ro_nilCheck rfl) ?_
  refine ql_ro rfl (fun w hS => ro_fieldAddr (k := 3) rfl fo_126_3) ?_
  refine ql_ro rfl (fun w hS => ro_loadB rfl sc_124 (hS.1) rfl) ?_
  refine ql_ro rfl (fun w hS => ro_lenL rfl se_124) ?_
  refine ql_ro rfl (fun w hS => ro_arith rfl rfl rfl (Go.IntWalk.i64_in _ (by omega))) ?_
  refine ql_ro rfl (fun w hS => ro_indexAddr (et := 161) (k := 4) rfl rfl se_124 ((show ((((⟨2, tn, tx, te⟩ : Tk) :: r).length : Int) - 1) = ((((⟨2, tn, tx, te⟩ : Tk) :: r).length - 1 - 0 : Nat) : Int) by omega)) ((by omega))) ?_
  refine ql_ro rfl (fun w hS => ro_loadAggB rfl ag_161 (hS.2.1) (rfl) (q4)) ?_
  refine ql_new rfl ze_161 (fun w1 F ↦ ⟨F.blkN hB, F.blkN hV, trivial⟩) ?_
  intro b3 w1 hbb3 h3 F1
  have hbsb3 := Nat.le_trans hF.size hbb3
  have hnegnb3 : gn < b3 := Nat.lt_of_lt_of_le hN.lt hbb3
  have hnegTb3 : gT < b3 := Nat.lt_of_lt_of_le hO.lt hbb3
  have hnebTb3 : bT < b3 := Nat.lt_of_lt_of_le hB.lt hbb3
  have hnerbb3 : rb < b3 := Nat.lt_of_lt_of_le hXr.lt hbb3
  have hnegtb3 : gt < b3 := Nat.lt_of_lt_of_le hV.lt hbb3
  have kh3 := hR.df b3 hbb3
  replace hF := hF.thenDrew.thenN F1
  replace hR := hR.thruN ((Fram.refl none' _).thenDrew.thenN F1)
  replace hN := F1.blkN hN
  replace hO := F1.blkN hO
  replace hB := F1.blkN hB
  replace hXr := F1.blkN hXr
  replace hV := F1.blkN hV
  refine ql_puta rfl rfl rfl ((tsc_one _ _)) sz_161 (rfl) h3 ((by simp)) ((show _ = [i64c 2, i64c tn, i64c tx, .pointer (epo β te)] from rfl)) (fun w2 h3 F2 => ?_)
  replace hF := hF.thenDrew.thenO F2 (by first | exact .inr (by omega) | exact .inl rfl | exact .inl (by assumption) | assumption)
  replace hR := hR.hbput ((Fram.refl (one b3) _).thenDrew.thenO F2 (.inl rfl))
  replace hN := F2.blkO hN (by first | omega | exact ow_ne (by assumption) (by assumption) (by omega))
  replace hO := F2.blkO hO (by first | omega | exact ow_ne (by assumption) (by assumption) (by omega))
  replace hB := F2.blkO hB (by first | omega | exact ow_ne (by assumption) (by assumption) (by omega))
  replace hXr := F2.blkO hXr (by first | omega | exact ow_ne (by assumption) (by assumption) (by omega))
  replace hV := F2.blkO hV (by first | omega | exact ow_ne (by assumption) (by assumption) (by omega))
  refine x_then (hK2 _ _ ?_)
  clear hK2 K2
  refine forget [(0, _), (2, _), (3, _)] ⟨rfl, rfl, rfl, trivial⟩ (fun e => ?_)
  refine c_seq (fun K3 hK3 => ?_)
  obtain ⟨b0, hb0⟩ : ∃ b0, b0 = bT := ⟨_, rfl⟩
  subst hb0
  have hb0 := hbT
  clear hTh hkb hlT hbT hcapT hgT hclT hk70 hB hO hXr hV q4 q3 q2 q1 hts0
  obtain ⟨cv, a0, a1, a2, a3, a4, gT, capT, lT, bT, tvT, vvT, hXr, hO, hlT, hcapT, hbT, hTh, hgT⟩ := hR.open
  have hB := hTh.k
  have hkb := hTh.t
  have hclT := hR.cl
  unfold rnc at hXr
  have hk70 := hR.t70
  have hbe : bT = b0 := Option.some.inj (hbT.symm.trans hb0)
  subst hbe
  obtain ⟨ta, tc, rfl⟩ := hTh.ts.form
  obtain ⟨va2, vc2, rfl⟩ := hTh.vs.form
  have hcapt := hTh.ts.capge
  have htr := hTh.ts.dropR (tsc_len β) 1
  rw [htl, htk] at htr
  have hmb := hX.memC (hR.mem_b hR.cl hTh.t)
  refine c_piL 14 [(0, false), (1, false), (2, false), (3, false), (4, false), (5, false), (6, false), (7, false), (8, false), (9, false), (10, false), (11, false), (12, false), (13, false)] (SameH _) mixed (by kernel_rfl) rfl (by kernel_rfl) (po_then (po_bp)) (sameH_now _ _) ?_ -- region 2 compm.go:511
  refine ql_ro rfl (fun w hS => ro_move rfl) ?_
  refine ql_ro rfl (fun w hS => ro_move rfl) ?_
  refine ql_ro rfl (fun w hS => ro_nilCheck rfl) ?_
  refine ql_ro rfl (fun w hS => ro_fieldAddr (k := 3) rfl fo_126_3) ?_
  refine ql_ro rfl (fun w hS => ro_loadB rfl sc_124 (Blk.of_heap (by assumption) hS) rfl) ?_
  refine ql_ro rfl (fun w hS => ro_move rfl) ?_
  refine ql_ro rfl (fun w hS => ro_nilCheck rfl) ?_
  refine ql_ro rfl (fun w hS => ro_fieldAddr (k := 3) rfl fo_126_3) ?_
  refine ql_ro rfl (fun w hS => ro_loadB rfl sc_124 (Blk.of_heap (by assumption) hS) rfl) ?_
  refine ql_ro rfl (fun w hS => ro_lenL rfl se_124) ?_
  refine ql_ro rfl (fun w hS => ro_arith rfl rfl rfl (Go.IntWalk.i64_in _ (by omega))) ?_
  refine ql_ro rfl (fun w hS => ro_sliceH (h := r.length) rfl rfl se_124 (by omega) (by omega)) ?_
  refine ql_ro rfl (fun w hS => ro_nilCheck rfl) ?_
  refine ql_ro rfl (fun w hS => ro_fieldAddr (k := 3) rfl fo_126_3) ?_
  refine ql_put rfl rfl rfl rfl sz_124 hB ((by simp)) (rfl) (fun w3 hB F3 => ?_)
  replace hF := hF.thenDrew.thenO F3 (by first | exact .inr (by omega) | exact .inl rfl | exact .inl (by assumption) | assumption)
  replace hN := F3.blkO hN (by first | omega | exact ow_ne (by assumption) (by assumption) (by omega))
  replace h3 := F3.blkO h3 (by first | omega | exact ow_ne (by assumption) (by assumption) (by omega))
  replace hO := F3.blkO hO (by first | omega | exact ow_ne (by assumption) (by assumption) (by omega))
  replace hXr := F3.blkO hXr (by first | omega | exact ow_ne (by assumption) (by assumption) (by omega))
  have hR2 := hR.thr' (y := { s.th with tasks := r }) hbT hTh.t htr hTh.vs ((Fram.refl (one bT) _).thenDrew.thenO F3 (.inl rfl)) hB (fun z hz => hR.tem z (by rw [htk]; exact List.mem_cons_of_mem _ hz)) (by have := hR.bdm; rw [htl] at this; exact ⟨by show r.length ≤ m; omega, this.2⟩)
  replace hR := hR2
  obtain ⟨b0, hb1⟩ : ∃ b0, b0 = bT := ⟨_, rfl⟩
  subst hb1
  have hb0 : τ[(s.setT { s.th with tasks := r }).cur]? = some b0 := hbT
  clear hTh hkb hlT hbT hcapT hgT hclT hk70 hB hO hXr htr hmb hcapt hbdd
  generalize hsP : s.setT { s.th with tasks := r } = sP at *
  have hbdP := hR.bdm
  refine x_then (hK3 _ _ ?_)
  clear hK3 K3
  refine forget [(0, _), (2, _), (3, _)] ⟨rfl, rfl, rfl, trivial⟩ (fun e => ?_)
  refine c_seq (fun K4 hK4 => ?_)
  refine c_reg ?_ -- region 3 compm.go:512
  refine wl_new (ze_148) (fun b4 w4 hbb4 h4 F4 => ?_)
  have hbsb4 := Nat.le_trans hF.size hbb4
  have hnegnb4 : gn < b4 := Nat.lt_of_lt_of_le hN.lt hbb4
  have hneb3b4 : b3 < b4 := Nat.lt_of_lt_of_le h3.lt hbb4
  have kh4 := hR.df b4 hbb4
  replace hF := hF.thenDrew.thenN F4
  replace hN := F4.blkN hN
  replace h3 := F4.blkN h3
  replace hR := hR.thruN ((Fram.refl none' _).thenDrew.thenN F4)
  refine wl_nil (x_then (hK4 _ _ ?_))
  clear hK4 K4
  refine c_seq (fun K5 hK5 => ?_)
  refine c_seq (fun K6 hK6 => ?_)
  refine c_reg ?_ -- region 4 compm.go:513
  refine wl (ro_fieldAddr (k := 0) rfl fo_161_0) ?_
  refine wl (ro_loadB rfl sc_3 (by assumption) rfl) ?_
  refine wl (ro_cmp rfl rfl rfl) ?_
  refine wl_nil (x_then (hK6 _ _ ?_))
  clear hK6 K6
  refine wc_condT rfl ?_
  obtain ⟨cv, hv_, a0, a1, a2, a3, a4, hXr, hq2, hq3, hq4⟩ := hR.r
  unfold rnc at hXr
  have hk70 := hR.t70
  refine c_piL 8 [(0, false), (1, false), (2, false), (3, false), (4, false), (5, false), (6, false), (7, false)] (SameH _) mixed (by kernel_rfl) rfl (by kernel_rfl) (po_then (po_bp)) (sameH_now _ _) ?_ -- region 5 compm.go:514
  refine ql_ro rfl (fun w hS => ro_move rfl) ?_
  refine ql_ro rfl (fun w hS => ro_nilCheck rfl) ?_
  refine ql_ro rfl (fun w hS => ro_fieldAddr (k := 2) rfl fo_112_2) ?_
  refine ql_ro rfl (fun w hS => ro_loadB rfl sc_77 (Blk.of_heap (by assumption) hS) rfl) ?_
  refine ql_ro rfl (fun w hS => ro_fieldAddr (k := 1) rfl fo_161_1) ?_
  refine ql_ro rfl (fun w hS => ro_loadB rfl sc_3 (Blk.of_heap (by assumption) hS) rfl) ?_
  refine ql_ro rfl (fun w hS => ro_indexAddr (et := 148) (k := 8) rfl rfl se_77 (rfl) (hn)) ?_
  refine ql_ro rfl (fun w hS => ro_loadAggB rfl ag_148 (Blk.of_heap hN hS) (rfl) (hpn)) ?_
  refine ql_puta rfl rfl rfl ((ndc_one _)) sz_148 (rfl) h4 ((by simp)) ((show _ = ndc (nd G tn, pn) from rfl)) (fun w5 h4 F5 => ?_)
  replace hF := hF.thenDrew.thenO F5 (by first | exact .inr (by omega) | exact .inl rfl | exact .inl (by assumption) | assumption)
  replace hN := F5.blkO hN (by first | omega | exact ow_ne (by assumption) (by assumption) (by omega))
  replace h3 := F5.blkO h3 (by first | omega | exact ow_ne (by assumption) (by assumption) (by omega))
  replace hR := hR.hbput ((Fram.refl (one b4) _).thenDrew.thenO F5 (.inl rfl))
  replace hXr := F5.blkO hXr (by first | omega | exact ow_ne (by assumption) (by assumption) (by omega))
  refine x_then (hK5 _ _ ?_)
  clear hK5 K5
  refine forget [(0, _), (2, _), (3, _), (4, _)] ⟨rfl, rfl, rfl, rfl, trivial⟩ (fun e => ?_)
  refine c_seq (fun K7 hK7 => ?_)
  refine c_reg ?_ -- region 6 compm.go:516
  refine wl (ro_fieldAddr (k := 0) rfl fo_161_0) ?_
  refine wl (ro_loadB rfl sc_3 (by assumption) rfl) ?_
  refine wl_nil (x_then (hK7 _ _ ?_))
  clear hK7 K7
  refine c_block ?_
  refine forget [(0, _), (2, _), (3, _), (4, _), (92, _)] ⟨rfl, rfl, rfl, rfl, rfl, trivial⟩ (fun e => ?_)
  refine c_seq (fun K8 hK8 => ?_)
  refine c_reg ?_ -- region 7 compm.go:517
  refine wl (ro_cmp rfl rfl rfl) ?_
  refine wl (ro_assign rfl) ?_
  refine wl_nil (x_then (hK8 _ _ ?_))
  clear hK8 K8
  refine wc_condF rfl ?_
  refine c_seq (fun K9 hK9 => ?_)
  refine c_reg ?_ -- region 10 compm.go:521
  refine wl (ro_cmp rfl rfl rfl) ?_
  refine wl (ro_assign rfl) ?_
  refine wl_nil (x_then (hK9 _ _ ?_))
  clear hK9 K9
  refine wc_condT rfl ?_
  have hk : tn = 0 ∨ EB G tn r h 1 := hk
  refine c_reg ?_ -- region 11 compm.go:522
  refine wl (ro_move rfl) ?_
  refine wl (ro_fieldAddr (k := 1) rfl fo_161_1) ?_
  refine wl (ro_loadB rfl sc_3 (by assumption) rfl) ?_
  refine wl (ro_fieldAddr (k := 2) rfl fo_161_2) ?_
  refine wl (ro_loadB rfl sc_3 (by assumption) rfl) ?_
  refine wl (ro_fieldAddr (k := 3) rfl fo_161_3) ?_
  refine wl (ro_loadB rfl sc_120 (by assumption) rfl) ?_
  refine wl_call rfl en_57 (eval57 (n := tn) (x := tx) hR.dr heP (EvP.of hAG hn h0K hP0 hk) hokP.nc (by omega)) ?_
  rintro _ u6 ⟨rfl, ow6, x6, f6, r6⟩
  obtain ⟨hN, khN⟩ := cm_loc x6 f6 hN khN
  obtain ⟨h3, kh3⟩ := cm_loc x6 f6 h3 kh3
  obtain ⟨h4, kh4⟩ := cm_loc x6 f6 h4 kh4
  have hs6 := hF.size
  replace hF := cm_trans hX hF f6
  replace hX := hX.trans hs6 x6
  replace hR := r6
  refine wl_nil (x_blk ?_)
  refine bp_end Tryz.results33 rfl ?_
  refine ⟨rfl, ?_⟩
  rw [hgoal]
  unfold istep1
  simp only [Nat.reduceEqDiff, reduceIte]
  try rw [hmod]
  try simp only [hnx]
  try rw [hlen7]
  try rw [hlen8]
  try (rw [burn_if (by exact P.b.dn)]; first | rw [if_pos (by exact hfu)] | rw [if_neg (by exact hfu)])
  repeat (first | rw [if_pos (by first | assumption | omega)] | rw [if_neg (by first | assumption | omega)])
  first
  | exact hf0 hX hF hR (by omega)
  | exact hf1 hX hF hR (by omega)
  | exact hf2 hX hF hR (by omega)
  | exact hf9 hX hF hR (by omega)

set_option maxHeartbeats 8000000 in
theorem step33_3 {G : Arena} {root : Nat} {np : Value} {tb rb : Nat} {nv : Value} {w : World} {ow : Nat → Nat} {β τ : List Nat} {m : Nat} {s : IS} (hR : RM G root np tb rb nv w ow β τ m s) (hG : 0 < G.length) (hAG : AOK G) (h0K : (nd G 0).K = 0) (hI : IA G root s) (ht0 : 0 < s.tabs.length) (hm : m ≤ 19900) {tn tx te : Nat} {r : List Tk} (htk : s.th.tasks = ⟨3, tn, tx, te⟩ :: r) :
    Ret Tryz.prog 33 [ptr rb] w (fun r w' => r = .tuple #[] ∧ ∃ bs τ', RP G root np tb rb nv w ow (β ++ bs) (τ ++ τ') (m + 12) (istep G root s) w') := by
  obtain ⟨hok, hnu, htb, T, h, P0, hT0⟩ := hI
  have hTe := P0.t.symm.trans htk
  subst hTe
  have hF : Fram (tg ow cmT) w w := Fram.refl _ _
  have hX : Xt w ow ow := Xt.refl _ _
  have hmr := hR.mem_r
  have hgoal : istep G root s = istep1 G root ⟨3, tn, tx, te⟩ s (s.setT { s.th with tasks := r }) := by unfold istep; rw [htk]
  have het : te ≤ s.envs.length := by have q := hT0; unfold TkI at q; exact q.1
  have hel : te ≤ β.length := by rw [hR.el]; exact het
  have heP : EP β te (epo β te) := EP.mk' hel
  have htl : s.th.tasks.length = r.length + 1 := by rw [htk]; rfl
  have hcl0 := P0.cl
  have hback : ido 3 tn tx te (s.setT { s.th with tasks := r }) = s := by
    rw [do_setT hcl0]
    show s.setT { s.th with tasks := ⟨3, tn, tx, te⟩ :: r } = s
    rw [← htk]
    exact setT_self hcl0
  have hetP : te ≤ (s.setT { s.th with tasks := r }).envs.length := het
  obtain ⟨gn, capn, ln, rfl, hN, khN, hcapn, hrow⟩ := hR.nodes hG
  have hf9 : ∀ {u : World} {ow' : Nat → Nat} {m' : Nat} {s' : IS} {bs τ' : List Nat}, Xt w ow ow' → Fram (tg ow cmT) w u → RM G root np tb rb (.slice (some ⟨gn, 0, none⟩) G.length capn) u ow' (β ++ bs) (τ ++ τ') m' s' → m' ≤ m + 12 → ∃ bs τ', RP G root np tb rb (.slice (some ⟨gn, 0, none⟩) G.length capn) w ow (β ++ bs) (τ ++ τ') (m + 12) s' u := fun {_ _ _ _ bs τ'} h1 h2 h3 h4 => ⟨bs, τ', _, h1, h2, h3.le h4⟩
  have hf0 : ∀ {u : World} {ow' : Nat → Nat} {m' : Nat} {s' : IS}, Xt w ow ow' → Fram (tg ow cmT) w u → RM G root np tb rb (.slice (some ⟨gn, 0, none⟩) G.length capn) u ow' β τ m' s' → m' ≤ m + 12 → ∃ bs τ', RP G root np tb rb (.slice (some ⟨gn, 0, none⟩) G.length capn) w ow (β ++ bs) (τ ++ τ') (m + 12) s' u := fun h1 h2 h3 h4 => hf9 (bs := []) (τ' := []) h1 h2 (by rw [List.append_nil, List.append_nil]; exact h3) h4
  have hf1 : ∀ {u : World} {ow' : Nat → Nat} {m' : Nat} {s' : IS} {bs : List Nat}, Xt w ow ow' → Fram (tg ow cmT) w u → RM G root np tb rb (.slice (some ⟨gn, 0, none⟩) G.length capn) u ow' (β ++ bs) τ m' s' → m' ≤ m + 12 → ∃ bs τ', RP G root np tb rb (.slice (some ⟨gn, 0, none⟩) G.length capn) w ow (β ++ bs) (τ ++ τ') (m + 12) s' u := fun {_ _ _ _ bs} h1 h2 h3 h4 => hf9 (bs := bs) (τ' := []) h1 h2 (by rw [List.append_nil]; exact h3) h4
  have hf2 : ∀ {u : World} {ow' : Nat → Nat} {m' : Nat} {s' : IS} {b1 b2 : Nat}, Xt w ow ow' → Fram (tg ow cmT) w u → RM G root np tb rb (.slice (some ⟨gn, 0, none⟩) G.length capn) u ow' (β ++ [b1] ++ [b2]) τ m' s' → m' ≤ m + 12 → ∃ bs τ', RP G root np tb rb (.slice (some ⟨gn, 0, none⟩) G.length capn) w ow (β ++ bs) (τ ++ τ') (m + 12) s' u := fun {_ _ _ _ b1 b2} h1 h2 h3 h4 => hf9 (bs := [b1, b2]) (τ' := []) h1 h2 (by rw [List.append_nil]; rw [List.append_assoc] at h3; exact h3) h4
  refine ret_of Tryz.func33 rfl Tryz.ntmps33 rfl ?_
  refine c_seq (fun K1 hK1 => ?_)
  obtain ⟨cv, a0, a1, a2, a3, a4, gT, capT, lT, bT, tvT, vvT, hXr, hO, hlT, hcapT, hbT, hTh, hgT⟩ := hR.open
  have hB := hTh.k
  have hkb := hTh.t
  have hclT := hR.cl
  unfold rnc at hXr
  have hk70 := hR.t70
  have hbdd := hR.bdm
  refine c_pi [(0, false), (1, false), (2, false), (3, false), (4, false), (5, false), (6, false), (7, false), (8, false), (9, false), (10, false)] (SameH _) mixed (by kernel_rfl) rfl (by kernel_rfl) (po_then (po_bp)) (sameH_now _ _) ?_ -- region 0 compm.go:509
  refine pi_ro rfl (fun w hS => ro_move rfl) ?_
  refine pi_ro rfl (fun w hS => ro_nilCheck rfl) ?_
  refine pi_ro rfl (fun w hS => ro_fieldAddr (k := 5) rfl fo_112_5) ?_
  refine pi_ro rfl (fun w hS => ro_loadB rfl sc_109 (Blk.of_heap (by assumption) hS) rfl) ?_
  refine pi_ro rfl (fun w hS => ro_move rfl) ?_
  refine pi_ro rfl (fun w hS => ro_nilCheck rfl) ?_
  refine pi_ro rfl (fun w hS => ro_fieldAddr (k := 12) rfl fo_112_8) ?_
  refine pi_ro rfl (fun w hS => ro_loadB rfl sc_3 (Blk.of_heap (by assumption) hS) rfl) ?_
  refine pi_ro rfl (fun w hS => ro_indexAddr (et := 123) (k := 1) rfl rfl se_109 rfl (by omega)) ?_
  refine pi_ro rfl (fun w hS => ro_loadB rfl sc_123 (Blk.of_heap hO hS) (hlT)) ?_
  refine pi_ro rfl (fun w hS => ro_assign rfl) ?_
  refine pi_nil (x_then (hK1 _ _ ?_))
  clear hK1 K1
  refine forget [(0, _), (2, _)] ⟨rfl, rfl, trivial⟩ (fun e => ?_)
  refine c_seq (fun K2 hK2 => ?_)
  have hts0 := hTh.ts
  rw [htk] at hts0
  obtain ⟨gt, capt, lt, e1, hV, q1, q2, q3, q4⟩ := hts0.atR (tsc_len β) (j := 0) rfl
  subst e1
  obtain ⟨va, vc, rfl⟩ := hTh.vs.form
  have hrl : ((⟨3, tn, tx, te⟩ : Tk) :: r).length = r.length + 1 := rfl
  refine c_piL 13 [(0, false), (1, false), (2, false), (3, false), (4, false), (5, false), (6, false), (7, false), (8, false), (9, false), (10, false), (11, false), (12, true)] (La bT _ _ (La gt _ _ (fun _ => True))) mixed (by kernel_rfl) rfl (by kernel_rfl) (po_then (po_bp)) (⟨hB, hV, trivial⟩) ?_ -- region 1 compm.go:510
  refine ql_ro rfl (fun w hS => ro_move rfl) ?_
  refine ql_ro rfl (fun w hS => ro_nilCheck rfl) ?_
  refine ql_ro rfl (fun w hS => ro_fieldAddr (k := 3) rfl fo_126_3) ?_
  refine ql_ro rfl (fun w hS => ro_loadB rfl sc_124 (hS.1) rfl) ?_
  refine ql_ro rfl (fun w hS => ro_move rfl) ?_
  refine ql_ro rfl (fun w hS => ro_nilCheck rfl) ?_
  refine ql_ro rfl (fun w hS => ro_fieldAddr (k := 3) rfl fo_126_3) ?_
  refine ql_ro rfl (fun w hS => ro_loadB rfl sc_124 (hS.1) rfl) ?_
  refine ql_ro rfl (fun w hS => ro_lenL rfl se_124) ?_
  refine ql_ro rfl (fun w hS => ro_arith rfl rfl rfl (Go.IntWalk.i64_in _ (by omega))) ?_
  refine ql_ro rfl (fun w hS => ro_indexAddr (et := 161) (k := 4) rfl rfl se_124 ((show ((((⟨3, tn, tx, te⟩ : Tk) :: r).length : Int) - 1) = ((((⟨3, tn, tx, te⟩ : Tk) :: r).length - 1 - 0 : Nat) : Int) by omega)) ((by omega))) ?_
  refine ql_ro rfl (fun w hS => ro_loadAggB rfl ag_161 (hS.2.1) (rfl) (q4)) ?_
  refine ql_new rfl ze_161 (fun w1 F ↦ ⟨F.blkN hB, F.blkN hV, trivial⟩) ?_
  intro b3 w1 hbb3 h3 F1
  have hbsb3 := Nat.le_trans hF.size hbb3
  have hnegnb3 : gn < b3 := Nat.lt_of_lt_of_le hN.lt hbb3
  have hnegTb3 : gT < b3 := Nat.lt_of_lt_of_le hO.lt hbb3
  have hnebTb3 : bT < b3 := Nat.lt_of_lt_of_le hB.lt hbb3
  have hnerbb3 : rb < b3 := Nat.lt_of_lt_of_le hXr.lt hbb3
  have hnegtb3 : gt < b3 := Nat.lt_of_lt_of_le hV.lt hbb3
  have kh3 := hR.df b3 hbb3
  replace hF := hF.thenDrew.thenN F1
  replace hR := hR.thruN ((Fram.refl none' _).thenDrew.thenN F1)
  replace hN := F1.blkN hN
  replace hO := F1.blkN hO
  replace hB := F1.blkN hB
  replace hXr := F1.blkN hXr
  replace hV := F1.blkN hV
  refine ql_puta rfl rfl rfl ((tsc_one _ _)) sz_161 (rfl) h3 ((by simp)) ((show _ = [i64c 3, i64c tn, i64c tx, .pointer (epo β te)] from rfl)) (fun w2 h3 F2 => ?_)
  replace hF := hF.thenDrew.thenO F2 (by first | exact .inr (by omega) | exact .inl rfl | exact .inl (by assumption) | assumption)
  replace hR := hR.hbput ((Fram.refl (one b3) _).thenDrew.thenO F2 (.inl rfl))
  replace hN := F2.blkO hN (by first | omega | exact ow_ne (by assumption) (by assumption) (by omega))
  replace hO := F2.blkO hO (by first | omega | exact ow_ne (by assumption) (by assumption) (by omega))
  replace hB := F2.blkO hB (by first | omega | exact ow_ne (by assumption) (by assumption) (by omega))
  replace hXr := F2.blkO hXr (by first | omega | exact ow_ne (by assumption) (by assumption) (by omega))
  replace hV := F2.blkO hV (by first | omega | exact ow_ne (by assumption) (by assumption) (by omega))
  refine x_then (hK2 _ _ ?_)
  clear hK2 K2
  refine forget [(0, _), (2, _), (3, _)] ⟨rfl, rfl, rfl, trivial⟩ (fun e => ?_)
  refine c_seq (fun K3 hK3 => ?_)
  obtain ⟨b0, hb0⟩ : ∃ b0, b0 = bT := ⟨_, rfl⟩
  subst hb0
  have hb0 := hbT
  clear hTh hkb hlT hbT hcapT hgT hclT hk70 hB hO hXr hV q4 q3 q2 q1 hts0
  obtain ⟨cv, a0, a1, a2, a3, a4, gT, capT, lT, bT, tvT, vvT, hXr, hO, hlT, hcapT, hbT, hTh, hgT⟩ := hR.open
  have hB := hTh.k
  have hkb := hTh.t
  have hclT := hR.cl
  unfold rnc at hXr
  have hk70 := hR.t70
  have hbe : bT = b0 := Option.some.inj (hbT.symm.trans hb0)
  subst hbe
  obtain ⟨ta, tc, rfl⟩ := hTh.ts.form
  obtain ⟨va2, vc2, rfl⟩ := hTh.vs.form
  have hcapt := hTh.ts.capge
  have htr := hTh.ts.dropR (tsc_len β) 1
  rw [htl, htk] at htr
  have hmb := hX.memC (hR.mem_b hR.cl hTh.t)
  refine c_piL 14 [(0, false), (1, false), (2, false), (3, false), (4, false), (5, false), (6, false), (7, false), (8, false), (9, false), (10, false), (11, false), (12, false), (13, false)] (SameH _) mixed (by kernel_rfl) rfl (by kernel_rfl) (po_then (po_bp)) (sameH_now _ _) ?_ -- region 2 compm.go:511
  refine ql_ro rfl (fun w hS => ro_move rfl) ?_
  refine ql_ro rfl (fun w hS => ro_move rfl) ?_
  refine ql_ro rfl (fun w hS => ro_nilCheck rfl) ?_
  refine ql_ro rfl (fun w hS => ro_fieldAddr (k := 3) rfl fo_126_3) ?_
  refine ql_ro rfl (fun w hS => ro_loadB rfl sc_124 (Blk.of_heap (by assumption) hS) rfl) ?_
  refine ql_ro rfl (fun w hS => ro_move rfl) ?_
  refine ql_ro rfl (fun w hS => ro_nilCheck rfl) ?_
  refine ql_ro rfl (fun w hS => ro_fieldAddr (k := 3) rfl fo_126_3) ?_
  refine ql_ro rfl (fun w hS => ro_loadB rfl sc_124 (Blk.of_heap (by assumption) hS) rfl) ?_
  refine ql_ro rfl (fun w hS => ro_lenL rfl se_124) ?_
  refine ql_ro rfl (fun w hS => ro_arith rfl rfl rfl (Go.IntWalk.i64_in _ (by omega))) ?_
  refine ql_ro rfl (fun w hS => ro_sliceH (h := r.length) rfl rfl se_124 (by omega) (by omega)) ?_
  refine ql_ro rfl (fun w hS => ro_nilCheck rfl) ?_
  refine ql_ro rfl (fun w hS => ro_fieldAddr (k := 3) rfl fo_126_3) ?_
  refine ql_put rfl rfl rfl rfl sz_124 hB ((by simp)) (rfl) (fun w3 hB F3 => ?_)
  replace hF := hF.thenDrew.thenO F3 (by first | exact .inr (by omega) | exact .inl rfl | exact .inl (by assumption) | assumption)
  replace hN := F3.blkO hN (by first | omega | exact ow_ne (by assumption) (by assumption) (by omega))
  replace h3 := F3.blkO h3 (by first | omega | exact ow_ne (by assumption) (by assumption) (by omega))
  replace hO := F3.blkO hO (by first | omega | exact ow_ne (by assumption) (by assumption) (by omega))
  replace hXr := F3.blkO hXr (by first | omega | exact ow_ne (by assumption) (by assumption) (by omega))
  have hR2 := hR.thr' (y := { s.th with tasks := r }) hbT hTh.t htr hTh.vs ((Fram.refl (one bT) _).thenDrew.thenO F3 (.inl rfl)) hB (fun z hz => hR.tem z (by rw [htk]; exact List.mem_cons_of_mem _ hz)) (by have := hR.bdm; rw [htl] at this; exact ⟨by show r.length ≤ m; omega, this.2⟩)
  replace hR := hR2
  obtain ⟨b0, hb1⟩ : ∃ b0, b0 = bT := ⟨_, rfl⟩
  subst hb1
  have hb0 : τ[(s.setT { s.th with tasks := r }).cur]? = some b0 := hbT
  clear hTh hkb hlT hbT hcapT hgT hclT hk70 hB hO hXr htr hmb hcapt hbdd
  generalize hsP : s.setT { s.th with tasks := r } = sP at *
  have hbdP := hR.bdm
  refine x_then (hK3 _ _ ?_)
  clear hK3 K3
  refine forget [(0, _), (2, _), (3, _)] ⟨rfl, rfl, rfl, trivial⟩ (fun e => ?_)
  refine c_seq (fun K4 hK4 => ?_)
  refine c_reg ?_ -- region 3 compm.go:512
  refine wl_new (ze_148) (fun b4 w4 hbb4 h4 F4 => ?_)
  have hbsb4 := Nat.le_trans hF.size hbb4
  have hnegnb4 : gn < b4 := Nat.lt_of_lt_of_le hN.lt hbb4
  have hneb3b4 : b3 < b4 := Nat.lt_of_lt_of_le h3.lt hbb4
  have kh4 := hR.df b4 hbb4
  replace hF := hF.thenDrew.thenN F4
  replace hN := F4.blkN hN
  replace h3 := F4.blkN h3
  replace hR := hR.thruN ((Fram.refl none' _).thenDrew.thenN F4)
  refine wl_nil (x_then (hK4 _ _ ?_))
  clear hK4 K4
  refine c_seq (fun K5 hK5 => ?_)
  refine c_seq (fun K6 hK6 => ?_)
  refine c_reg ?_ -- region 4 compm.go:513
  refine wl (ro_fieldAddr (k := 0) rfl fo_161_0) ?_
  refine wl (ro_loadB rfl sc_3 (by assumption) rfl) ?_
  refine wl (ro_cmp rfl rfl rfl) ?_
  refine wl_nil (x_then (hK6 _ _ ?_))
  clear hK6 K6
  refine wc_condF rfl ?_
  refine c_skip (x_then (hK5 _ _ ?_))
  clear hK5 K5
  refine forget [(0, _), (2, _), (3, _), (4, _)] ⟨rfl, rfl, rfl, rfl, trivial⟩ (fun e => ?_)
  refine c_seq (fun K7 hK7 => ?_)
  refine c_reg ?_ -- region 6 compm.go:516
  refine wl (ro_fieldAddr (k := 0) rfl fo_161_0) ?_
  refine wl (ro_loadB rfl sc_3 (by assumption) rfl) ?_
  refine wl_nil (x_then (hK7 _ _ ?_))
  clear hK7 K7
  refine c_block ?_
  refine forget [(0, _), (2, _), (3, _), (4, _), (92, _)] ⟨rfl, rfl, rfl, rfl, rfl, trivial⟩ (fun e => ?_)
  refine c_seq (fun K8 hK8 => ?_)
  refine c_reg ?_ -- region 7 compm.go:517
  refine wl (ro_cmp rfl rfl rfl) ?_
  refine wl (ro_assign rfl) ?_
  refine wl_nil (x_then (hK8 _ _ ?_))
  clear hK8 K8
  refine wc_condF rfl ?_
  refine c_seq (fun K9 hK9 => ?_)
  refine c_reg ?_ -- region 10 compm.go:521
  refine wl (ro_cmp rfl rfl rfl) ?_
  refine wl (ro_assign rfl) ?_
  refine wl_nil (x_then (hK9 _ _ ?_))
  clear hK9 K9
  refine wc_condF rfl ?_
  refine c_seq (fun K10 hK10 => ?_)
  refine c_reg ?_ -- region 12 compm.go:523
  refine wl (ro_cmp rfl rfl rfl) ?_
  refine wl (ro_assign rfl) ?_
  refine wl_nil (x_then (hK10 _ _ ?_))
  clear hK10 K10
  refine wc_condT rfl ?_
  refine c_seq (fun K11 hK11 => ?_)
  obtain ⟨cv, a0, a1, a2, a3, a4, gT, capT, lT, bT, tvT, vvT, hXr, hO, hlT, hcapT, hbT, hTh, hgT⟩ := hR.open
  have hB := hTh.k
  have hkb := hTh.t
  have hclT := hR.cl
  unfold rnc at hXr
  have hk70 := hR.t70
  have hbe : bT = b0 := Option.some.inj (hbT.symm.trans hb0)
  subst hbe
  obtain ⟨ta, tc, rfl⟩ := hTh.ts.form
  refine c_piL 10 [(0, false), (1, false), (2, false), (3, false), (4, false), (5, false), (6, true), (7, true), (8, false), (9, false)] (La bT _ _ (La b3 _ _ (fun _ => True))) mixed (by kernel_rfl) rfl (by kernel_rfl) (po_then (po_blk (po_bp))) (⟨hB, h3, trivial⟩) ?_ -- region 13 compm.go:524
  refine ql_ro rfl (fun w hS => ro_move rfl) ?_
  refine ql_ro rfl (fun w hS => ro_move rfl) ?_
  refine ql_ro rfl (fun w hS => ro_nilCheck rfl) ?_
  refine ql_ro rfl (fun w hS => ro_fieldAddr (k := 3) rfl fo_126_3) ?_
  refine ql_ro rfl (fun w hS => ro_loadB rfl sc_124 (hS.1) rfl) ?_
  refine ql_ro rfl (fun w hS => ro_loadAggB rfl ag_161 (hS.2.1) (rfl) (rfl)) ?_
  refine ql_bsapp (t := 124) (et := 161) (k := 4) (m := sP.th.tasks.length) (cs := tsc β ⟨3, tn, tx, te⟩) rfl rfl rfl rfl rfl rfl se_124 zx_161 by_161 rfl rfl rfl (tsc_one _ _) hTh.ts.o (by omega) (by omega) (fun w1 F ↦ ⟨F.blkN hB, F.blkN h3, trivial⟩) (fun w1 F ↦ ⟨F.blkF hB (fun q ↦ by have := hTh.ts.t _ q; omega), F.blkF h3 (fun q ↦ by have := hTh.ts.t _ q; omega), trivial⟩) ?_
  intro v' u1 hon G1 hnb
  replace hB := G1.blkF hB (fun q => by have := hTh.ts.t _ q; omega)
  obtain ⟨va, vc, rfl⟩ := hon.form
  skip
  refine ql_ro rfl (fun w hS => ro_nilCheck rfl) ?_
  refine ql_ro rfl (fun w hS => ro_fieldAddr (k := 3) rfl fo_126_3) ?_
  refine ql_put rfl rfl rfl rfl sz_124 hB ((by simp)) (rfl) (fun w5 hB F5 => ?_)
  obtain ⟨ow77, x77, f77, r77⟩ := hR.tsk hbT hTh ((Fram.refl none' _).thenDrew) hon G1 hnb (F5) hB hetP
  replace r77 := (show RM G root np tb rb _ _ _ β τ (m + 1) (ido 3 tn tx te sP) from r77)
  rw [hback] at r77
  obtain ⟨h3, kh3⟩ := cm_loc x77 f77 h3 kh3
  obtain ⟨h4, kh4⟩ := cm_loc x77 f77 h4 kh4
  obtain ⟨hN, khN⟩ := cm_loc x77 f77 hN khN
  have hs77 := hF.size
  replace hF := cm_trans hX hF f77
  replace hX := hX.trans hs77 x77
  replace hR := r77
  refine x_then (hK11 _ _ ?_)
  clear hK11 K11
  refine c_reg ?_ -- region 14 compm.go:525
  refine wl (ro_move rfl) ?_
  refine wl (ro_build rfl bld_119) ?_
  refine wl (ro_build rfl bld_119) ?_
  refine wl_call rfl en_58 (ret58 (va := vNil) (vb := vNil) hR.dr rfl (by decide) (P0.rt hT0 hT0.fl.1) (by omega)) ?_
  rintro _ u6 ⟨rfl, ow6, x6, f6, r6⟩
  obtain ⟨h3, kh3⟩ := cm_loc x6 f6 h3 kh3
  obtain ⟨h4, kh4⟩ := cm_loc x6 f6 h4 kh4
  obtain ⟨hN, khN⟩ := cm_loc x6 f6 hN khN
  have hs6 := hF.size
  replace hF := cm_trans hX hF f6
  replace hX := hX.trans hs6 x6
  replace hR := r6
  refine wl_nil (x_blk ?_)
  refine bp_end Tryz.results33 rfl ?_
  refine ⟨rfl, ?_⟩
  rw [hgoal]
  unfold istep1
  simp only [Nat.reduceEqDiff, reduceIte]
  try rw [hmod]
  try simp only [hnx]
  try rw [hlen7]
  try rw [hlen8]
  try (rw [burn_if (by exact P.b.dn)]; first | rw [if_pos (by exact hfu)] | rw [if_neg (by exact hfu)])
  repeat (first | rw [if_pos (by first | assumption | omega)] | rw [if_neg (by first | assumption | omega)])
  first
  | exact hf0 hX hF hR (by omega)
  | exact hf1 hX hF hR (by omega)
  | exact hf2 hX hF hR (by omega)
  | exact hf9 hX hF hR (by omega)

set_option maxHeartbeats 8000000 in
theorem step33_4 {G : Arena} {root : Nat} {np : Value} {tb rb : Nat} {nv : Value} {w : World} {ow : Nat → Nat} {β τ : List Nat} {m : Nat} {s : IS} (hR : RM G root np tb rb nv w ow β τ m s) (hG : 0 < G.length) (hAG : AOK G) (h0K : (nd G 0).K = 0) (hI : IA G root s) (ht0 : 0 < s.tabs.length) (hm : m ≤ 19900) {tn tx te : Nat} {r : List Tk} (htk : s.th.tasks = ⟨4, tn, tx, te⟩ :: r) :
    Ret Tryz.prog 33 [ptr rb] w (fun r w' => r = .tuple #[] ∧ ∃ bs τ', RP G root np tb rb nv w ow (β ++ bs) (τ ++ τ') (m + 12) (istep G root s) w') := by
  obtain ⟨hok, hnu, htb, T, h, P0, hT0⟩ := hI
  have hTe := P0.t.symm.trans htk
  subst hTe
  have hF : Fram (tg ow cmT) w w := Fram.refl _ _
  have hX : Xt w ow ow := Xt.refl _ _
  have hmr := hR.mem_r
  have hgoal : istep G root s = istep1 G root ⟨4, tn, tx, te⟩ s (s.setT { s.th with tasks := r }) := by unfold istep; rw [htk]
  have het : te ≤ s.envs.length := by have q := hT0; unfold TkI at q; exact q.1
  have hel : te ≤ β.length := by rw [hR.el]; exact het
  have heP : EP β te (epo β te) := EP.mk' hel
  have htl : s.th.tasks.length = r.length + 1 := by rw [htk]; rfl
  have hcl0 := P0.cl
  have hokP : IOK (s.setT { s.th with tasks := r }) := hok.setT hok.th
  have hP0 : 0 < (s.setT { s.th with tasks := r }).tabs.length := ht0
  have htop : ∀ i, (s.setT { s.th with tasks := r }).top i = s.top i := fun i => by unfold IS.top; rw [th_setT hcl0]
  have hclP : (s.setT { s.th with tasks := r }).cur < (s.setT { s.th with tasks := r }).ths.length := by simpa [IS.setT] using hcl0
  have hetP : te ≤ (s.setT { s.th with tasks := r }).envs.length := het
  have P : PW G root (s.setT { s.th with tasks := r }) r h := P0.pop (t := ⟨4, tn, tx, te⟩) (show (4 : Nat) ≠ 3 by decide)
  obtain ⟨-, hn, -, hf, hk, hT⟩ := hT0.inv (t := ⟨4, tn, tx, te⟩) (show (4 : Nat) ≠ 3 by decide)
  have hn : tn < G.length := hn
  have hvl : (s.setT { s.th with tasks := r }).th.vals.length = h := P.v
  have hokt : ∀ i, ok (s.setT { s.th with tasks := r }) ((s.setT { s.th with tasks := r }).top i) := fun i => IOK.getD hokP.th i
  have hnh := hokP.nh
  have hnc := hokP.nc
  have hnn := (hAG tn).1
  obtain ⟨gn, capn, ln, rfl, hN, khN, hcapn, hrow⟩ := hR.nodes hG
  obtain ⟨pn, hpn⟩ := hrow tn hn
  have hf9 : ∀ {u : World} {ow' : Nat → Nat} {m' : Nat} {s' : IS} {bs τ' : List Nat}, Xt w ow ow' → Fram (tg ow cmT) w u → RM G root np tb rb (.slice (some ⟨gn, 0, none⟩) G.length capn) u ow' (β ++ bs) (τ ++ τ') m' s' → m' ≤ m + 12 → ∃ bs τ', RP G root np tb rb (.slice (some ⟨gn, 0, none⟩) G.length capn) w ow (β ++ bs) (τ ++ τ') (m + 12) s' u := fun {_ _ _ _ bs τ'} h1 h2 h3 h4 => ⟨bs, τ', _, h1, h2, h3.le h4⟩
  have hf0 : ∀ {u : World} {ow' : Nat → Nat} {m' : Nat} {s' : IS}, Xt w ow ow' → Fram (tg ow cmT) w u → RM G root np tb rb (.slice (some ⟨gn, 0, none⟩) G.length capn) u ow' β τ m' s' → m' ≤ m + 12 → ∃ bs τ', RP G root np tb rb (.slice (some ⟨gn, 0, none⟩) G.length capn) w ow (β ++ bs) (τ ++ τ') (m + 12) s' u := fun h1 h2 h3 h4 => hf9 (bs := []) (τ' := []) h1 h2 (by rw [List.append_nil, List.append_nil]; exact h3) h4
  have hf1 : ∀ {u : World} {ow' : Nat → Nat} {m' : Nat} {s' : IS} {bs : List Nat}, Xt w ow ow' → Fram (tg ow cmT) w u → RM G root np tb rb (.slice (some ⟨gn, 0, none⟩) G.length capn) u ow' (β ++ bs) τ m' s' → m' ≤ m + 12 → ∃ bs τ', RP G root np tb rb (.slice (some ⟨gn, 0, none⟩) G.length capn) w ow (β ++ bs) (τ ++ τ') (m + 12) s' u := fun {_ _ _ _ bs} h1 h2 h3 h4 => hf9 (bs := bs) (τ' := []) h1 h2 (by rw [List.append_nil]; exact h3) h4
  have hf2 : ∀ {u : World} {ow' : Nat → Nat} {m' : Nat} {s' : IS} {b1 b2 : Nat}, Xt w ow ow' → Fram (tg ow cmT) w u → RM G root np tb rb (.slice (some ⟨gn, 0, none⟩) G.length capn) u ow' (β ++ [b1] ++ [b2]) τ m' s' → m' ≤ m + 12 → ∃ bs τ', RP G root np tb rb (.slice (some ⟨gn, 0, none⟩) G.length capn) w ow (β ++ bs) (τ ++ τ') (m + 12) s' u := fun {_ _ _ _ b1 b2} h1 h2 h3 h4 => hf9 (bs := [b1, b2]) (τ' := []) h1 h2 (by rw [List.append_nil]; rw [List.append_assoc] at h3; exact h3) h4
  refine ret_of Tryz.func33 rfl Tryz.ntmps33 rfl ?_
  refine c_seq (fun K1 hK1 => ?_)
  obtain ⟨cv, a0, a1, a2, a3, a4, gT, capT, lT, bT, tvT, vvT, hXr, hO, hlT, hcapT, hbT, hTh, hgT⟩ := hR.open
  have hB := hTh.k
  have hkb := hTh.t
  have hclT := hR.cl
  unfold rnc at hXr
  have hk70 := hR.t70
  have hbdd := hR.bdm
  refine c_pi [(0, false), (1, false), (2, false), (3, false), (4, false), (5, false), (6, false), (7, false), (8, false), (9, false), (10, false)] (SameH _) mixed (by kernel_rfl) rfl (by kernel_rfl) (po_then (po_bp)) (sameH_now _ _) ?_ -- region 0 compm.go:509
  refine pi_ro rfl (fun w hS => ro_move rfl) ?_
  refine pi_ro rfl (fun w hS => ro_nilCheck rfl) ?_
  refine pi_ro rfl (fun w hS => ro_fieldAddr (k := 5) rfl fo_112_5) ?_
  refine pi_ro rfl (fun w hS => ro_loadB rfl sc_109 (Blk.of_heap (by assumption) hS) rfl) ?_
  refine pi_ro rfl (fun w hS => ro_move rfl) ?_
  refine pi_ro rfl (fun w hS => ro_nilCheck rfl) ?_
  refine pi_ro rfl (fun w hS => ro_fieldAddr (k := 12) rfl fo_112_8) ?_
  refine pi_ro rfl (fun w hS => ro_loadB rfl sc_3 (Blk.of_heap (by assumption) hS) rfl) ?_
  refine pi_ro rfl (fun w hS => ro_indexAddr (et := 123) (k := 1) rfl rfl se_109 rfl (by omega)) ?_
  refine pi_ro rfl (fun w hS => ro_loadB rfl sc_123 (Blk.of_heap hO hS) (hlT)) ?_
  refine pi_ro rfl (fun w hS => ro_assign rfl) ?_
  refine pi_nil (x_then (hK1 _ _ ?_))
  clear hK1 K1
  refine forget [(0, _), (2, _)] ⟨rfl, rfl, trivial⟩ (fun e => ?_)
  refine c_seq (fun K2 hK2 => ?_)
  have hts0 := hTh.ts
  rw [htk] at hts0
  obtain ⟨gt, capt, lt, e1, hV, q1, q2, q3, q4⟩ := hts0.atR (tsc_len β) (j := 0) rfl
  subst e1
  obtain ⟨va, vc, rfl⟩ := hTh.vs.form
  have hrl : ((⟨4, tn, tx, te⟩ : Tk) :: r).length = r.length + 1 := rfl
  refine c_piL 13 [(0, false), (1, false), (2, false), (3, false), (4, false), (5, false), (6, false), (7, false), (8, false), (9, false), (10, false), (11, false), (12, true)] (La bT _ _ (La gt _ _ (fun _ => True))) mixed (by kernel_rfl) rfl (by kernel_rfl) (po_then (po_bp)) (⟨hB, hV, trivial⟩) ?_ -- region 1 compm.go:510
  refine ql_ro rfl (fun w hS => ro_move rfl) ?_
  refine ql_ro rfl (fun w hS => ro_nilCheck rfl) ?_
  refine ql_ro rfl (fun w hS => ro_fieldAddr (k := 3) rfl fo_126_3) ?_
  refine ql_ro rfl (fun w hS => ro_loadB rfl sc_124 (hS.1) rfl) ?_
  refine ql_ro rfl (fun w hS => ro_move rfl) ?_
  refine ql_ro rfl (fun w hS => ro_nilCheck rfl) ?_
  refine ql_ro rfl (fun w hS => ro_fieldAddr (k := 3) rfl fo_126_3) ?_
  refine ql_ro rfl (fun w hS => ro_loadB rfl sc_124 (hS.1) rfl) ?_
  refine ql_ro rfl (fun w hS => ro_lenL rfl se_124) ?_
  refine ql_ro rfl (fun w hS => ro_arith rfl rfl rfl (Go.IntWalk.i64_in _ (by omega))) ?_
  refine ql_ro rfl (fun w hS => ro_indexAddr (et := 161) (k := 4) rfl rfl se_124 ((show ((((⟨4, tn, tx, te⟩ : Tk) :: r).length : Int) - 1) = ((((⟨4, tn, tx, te⟩ : Tk) :: r).length - 1 - 0 : Nat) : Int) by omega)) ((by omega))) ?_
  refine ql_ro rfl (fun w hS => ro_loadAggB rfl ag_161 (hS.2.1) (rfl) (q4)) ?_
  refine ql_new rfl ze_161 (fun w1 F ↦ ⟨F.blkN hB, F.blkN hV, trivial⟩) ?_
  intro b3 w1 hbb3 h3 F1
  have hbsb3 := Nat.le_trans hF.size hbb3
  have hnegnb3 : gn < b3 := Nat.lt_of_lt_of_le hN.lt hbb3
  have hnegTb3 : gT < b3 := Nat.lt_of_lt_of_le hO.lt hbb3
  have hnebTb3 : bT < b3 := Nat.lt_of_lt_of_le hB.lt hbb3
  have hnerbb3 : rb < b3 := Nat.lt_of_lt_of_le hXr.lt hbb3
  have hnegtb3 : gt < b3 := Nat.lt_of_lt_of_le hV.lt hbb3
  have kh3 := hR.df b3 hbb3
  replace hF := hF.thenDrew.thenN F1
  replace hR := hR.thruN ((Fram.refl none' _).thenDrew.thenN F1)
  replace hN := F1.blkN hN
  replace hO := F1.blkN hO
  replace hB := F1.blkN hB
  replace hXr := F1.blkN hXr
  replace hV := F1.blkN hV
  refine ql_puta rfl rfl rfl ((tsc_one _ _)) sz_161 (rfl) h3 ((by simp)) ((show _ = [i64c 4, i64c tn, i64c tx, .pointer (epo β te)] from rfl)) (fun w2 h3 F2 => ?_)
  replace hF := hF.thenDrew.thenO F2 (by first | exact .inr (by omega) | exact .inl rfl | exact .inl (by assumption) | assumption)
  replace hR := hR.hbput ((Fram.refl (one b3) _).thenDrew.thenO F2 (.inl rfl))
  replace hN := F2.blkO hN (by first | omega | exact ow_ne (by assumption) (by assumption) (by omega))
  replace hO := F2.blkO hO (by first | omega | exact ow_ne (by assumption) (by assumption) (by omega))
  replace hB := F2.blkO hB (by first | omega | exact ow_ne (by assumption) (by assumption) (by omega))
  replace hXr := F2.blkO hXr (by first | omega | exact ow_ne (by assumption) (by assumption) (by omega))
  replace hV := F2.blkO hV (by first | omega | exact ow_ne (by assumption) (by assumption) (by omega))
  refine x_then (hK2 _ _ ?_)
  clear hK2 K2
  refine forget [(0, _), (2, _), (3, _)] ⟨rfl, rfl, rfl, trivial⟩ (fun e => ?_)
  refine c_seq (fun K3 hK3 => ?_)
  obtain ⟨b0, hb0⟩ : ∃ b0, b0 = bT := ⟨_, rfl⟩
  subst hb0
  have hb0 := hbT
  clear hTh hkb hlT hbT hcapT hgT hclT hk70 hB hO hXr hV q4 q3 q2 q1 hts0
  obtain ⟨cv, a0, a1, a2, a3, a4, gT, capT, lT, bT, tvT, vvT, hXr, hO, hlT, hcapT, hbT, hTh, hgT⟩ := hR.open
  have hB := hTh.k
  have hkb := hTh.t
  have hclT := hR.cl
  unfold rnc at hXr
  have hk70 := hR.t70
  have hbe : bT = b0 := Option.some.inj (hbT.symm.trans hb0)
  subst hbe
  obtain ⟨ta, tc, rfl⟩ := hTh.ts.form
  obtain ⟨va2, vc2, rfl⟩ := hTh.vs.form
  have hcapt := hTh.ts.capge
  have htr := hTh.ts.dropR (tsc_len β) 1
  rw [htl, htk] at htr
  have hmb := hX.memC (hR.mem_b hR.cl hTh.t)
  refine c_piL 14 [(0, false), (1, false), (2, false), (3, false), (4, false), (5, false), (6, false), (7, false), (8, false), (9, false), (10, false), (11, false), (12, false), (13, false)] (SameH _) mixed (by kernel_rfl) rfl (by kernel_rfl) (po_then (po_bp)) (sameH_now _ _) ?_ -- region 2 compm.go:511
  refine ql_ro rfl (fun w hS => ro_move rfl) ?_
  refine ql_ro rfl (fun w hS => ro_move rfl) ?_
  refine ql_ro rfl (fun w hS => ro_nilCheck rfl) ?_
  refine ql_ro rfl (fun w hS => ro_fieldAddr (k := 3) rfl fo_126_3) ?_
  refine ql_ro rfl (fun w hS => ro_loadB rfl sc_124 (Blk.of_heap (by assumption) hS) rfl) ?_
  refine ql_ro rfl (fun w hS => ro_move rfl) ?_
  refine ql_ro rfl (fun w hS => ro_nilCheck rfl) ?_
  refine ql_ro rfl (fun w hS => ro_fieldAddr (k := 3) rfl fo_126_3) ?_
  refine ql_ro rfl (fun w hS => ro_loadB rfl sc_124 (Blk.of_heap (by assumption) hS) rfl) ?_
  refine ql_ro rfl (fun w hS => ro_lenL rfl se_124) ?_
  refine ql_ro rfl (fun w hS => ro_arith rfl rfl rfl (Go.IntWalk.i64_in _ (by omega))) ?_
  refine ql_ro rfl (fun w hS => ro_sliceH (h := r.length) rfl rfl se_124 (by omega) (by omega)) ?_
  refine ql_ro rfl (fun w hS => ro_nilCheck rfl) ?_
  refine ql_ro rfl (fun w hS => ro_fieldAddr (k := 3) rfl fo_126_3) ?_
  refine ql_put rfl rfl rfl rfl sz_124 hB ((by simp)) (rfl) (fun w3 hB F3 => ?_)
  replace hF := hF.thenDrew.thenO F3 (by first | exact .inr (by omega) | exact .inl rfl | exact .inl (by assumption) | assumption)
  replace hN := F3.blkO hN (by first | omega | exact ow_ne (by assumption) (by assumption) (by omega))
  replace h3 := F3.blkO h3 (by first | omega | exact ow_ne (by assumption) (by assumption) (by omega))
  replace hO := F3.blkO hO (by first | omega | exact ow_ne (by assumption) (by assumption) (by omega))
  replace hXr := F3.blkO hXr (by first | omega | exact ow_ne (by assumption) (by assumption) (by omega))
  have hR2 := hR.thr' (y := { s.th with tasks := r }) hbT hTh.t htr hTh.vs ((Fram.refl (one bT) _).thenDrew.thenO F3 (.inl rfl)) hB (fun z hz => hR.tem z (by rw [htk]; exact List.mem_cons_of_mem _ hz)) (by have := hR.bdm; rw [htl] at this; exact ⟨by show r.length ≤ m; omega, this.2⟩)
  replace hR := hR2
  obtain ⟨b0, hb1⟩ : ∃ b0, b0 = bT := ⟨_, rfl⟩
  subst hb1
  have hb0 : τ[(s.setT { s.th with tasks := r }).cur]? = some b0 := hbT
  clear hTh hkb hlT hbT hcapT hgT hclT hk70 hB hO hXr htr hmb hcapt hbdd
  generalize hsP : s.setT { s.th with tasks := r } = sP at *
  have hbdP := hR.bdm
  refine x_then (hK3 _ _ ?_)
  clear hK3 K3
  refine forget [(0, _), (2, _), (3, _)] ⟨rfl, rfl, rfl, trivial⟩ (fun e => ?_)
  refine c_seq (fun K4 hK4 => ?_)
  refine c_reg ?_ -- region 3 compm.go:512
  refine wl_new (ze_148) (fun b4 w4 hbb4 h4 F4 => ?_)
  have hbsb4 := Nat.le_trans hF.size hbb4
  have hnegnb4 : gn < b4 := Nat.lt_of_lt_of_le hN.lt hbb4
  have hneb3b4 : b3 < b4 := Nat.lt_of_lt_of_le h3.lt hbb4
  have kh4 := hR.df b4 hbb4
  replace hF := hF.thenDrew.thenN F4
  replace hN := F4.blkN hN
  replace h3 := F4.blkN h3
  replace hR := hR.thruN ((Fram.refl none' _).thenDrew.thenN F4)
  refine wl_nil (x_then (hK4 _ _ ?_))
  clear hK4 K4
  refine c_seq (fun K5 hK5 => ?_)
  refine c_seq (fun K6 hK6 => ?_)
  refine c_reg ?_ -- region 4 compm.go:513
  refine wl (ro_fieldAddr (k := 0) rfl fo_161_0) ?_
  refine wl (ro_loadB rfl sc_3 (by assumption) rfl) ?_
  refine wl (ro_cmp rfl rfl rfl) ?_
  refine wl_nil (x_then (hK6 _ _ ?_))
  clear hK6 K6
  refine wc_condT rfl ?_
  obtain ⟨cv, hv_, a0, a1, a2, a3, a4, hXr, hq2, hq3, hq4⟩ := hR.r
  unfold rnc at hXr
  have hk70 := hR.t70
  refine c_piL 8 [(0, false), (1, false), (2, false), (3, false), (4, false), (5, false), (6, false), (7, false)] (SameH _) mixed (by kernel_rfl) rfl (by kernel_rfl) (po_then (po_bp)) (sameH_now _ _) ?_ -- region 5 compm.go:514
  refine ql_ro rfl (fun w hS => ro_move rfl) ?_
  refine ql_ro rfl (fun w hS => ro_nilCheck rfl) ?_
  refine ql_ro rfl (fun w hS => ro_fieldAddr (k := 2) rfl fo_112_2) ?_
  refine ql_ro rfl (fun w hS => ro_loadB rfl sc_77 (Blk.of_heap (by assumption) hS) rfl) ?_
  refine ql_ro rfl (fun w hS => ro_fieldAddr (k := 1) rfl fo_161_1) ?_
  refine ql_ro rfl (fun w hS => ro_loadB rfl sc_3 (Blk.of_heap (by assumption) hS) rfl) ?_
  refine ql_ro rfl (fun w hS => ro_indexAddr (et := 148) (k := 8) rfl rfl se_77 (rfl) (hn)) ?_
  refine ql_ro rfl (fun w hS => ro_loadAggB rfl ag_148 (Blk.of_heap hN hS) (rfl) (hpn)) ?_
  refine ql_puta rfl rfl rfl ((ndc_one _)) sz_148 (rfl) h4 ((by simp)) ((show _ = ndc (nd G tn, pn) from rfl)) (fun w5 h4 F5 => ?_)
  replace hF := hF.thenDrew.thenO F5 (by first | exact .inr (by omega) | exact .inl rfl | exact .inl (by assumption) | assumption)
  replace hN := F5.blkO hN (by first | omega | exact ow_ne (by assumption) (by assumption) (by omega))
  replace h3 := F5.blkO h3 (by first | omega | exact ow_ne (by assumption) (by assumption) (by omega))
  replace hR := hR.hbput ((Fram.refl (one b4) _).thenDrew.thenO F5 (.inl rfl))
  replace hXr := F5.blkO hXr (by first | omega | exact ow_ne (by assumption) (by assumption) (by omega))
  refine x_then (hK5 _ _ ?_)
  clear hK5 K5
  refine forget [(0, _), (2, _), (3, _), (4, _)] ⟨rfl, rfl, rfl, rfl, trivial⟩ (fun e => ?_)
  refine c_seq (fun K7 hK7 => ?_)
  refine c_reg ?_ -- region 6 compm.go:516
  refine wl (ro_fieldAddr (k := 0) rfl fo_161_0) ?_
  refine wl (ro_loadB rfl sc_3 (by assumption) rfl) ?_
  refine wl_nil (x_then (hK7 _ _ ?_))
  clear hK7 K7
  refine c_block ?_
  refine forget [(0, _), (2, _), (3, _), (4, _), (92, _)] ⟨rfl, rfl, rfl, rfl, rfl, trivial⟩ (fun e => ?_)
  refine c_seq (fun K8 hK8 => ?_)
  refine c_reg ?_ -- region 7 compm.go:517
  refine wl (ro_cmp rfl rfl rfl) ?_
  refine wl (ro_assign rfl) ?_
  refine wl_nil (x_then (hK8 _ _ ?_))
  clear hK8 K8
  refine wc_condF rfl ?_
  refine c_seq (fun K9 hK9 => ?_)
  refine c_reg ?_ -- region 10 compm.go:521
  refine wl (ro_cmp rfl rfl rfl) ?_
  refine wl (ro_assign rfl) ?_
  refine wl_nil (x_then (hK9 _ _ ?_))
  clear hK9 K9
  refine wc_condF rfl ?_
  refine c_seq (fun K10 hK10 => ?_)
  refine c_reg ?_ -- region 12 compm.go:523
  refine wl (ro_cmp rfl rfl rfl) ?_
  refine wl (ro_assign rfl) ?_
  refine wl_nil (x_then (hK10 _ _ ?_))
  clear hK10 K10
  refine wc_condF rfl ?_
  refine c_seq (fun K11 hK11 => ?_)
  refine c_reg ?_ -- region 15 compm.go:526
  refine wl (ro_cmp rfl rfl rfl) ?_
  refine wl (ro_assign rfl) ?_
  refine wl_nil (x_then (hK11 _ _ ?_))
  clear hK11 K11
  refine wc_condT rfl ?_
  refine c_skip (x_blk ?_)
  refine bp_end Tryz.results33 rfl ?_
  refine ⟨rfl, ?_⟩
  rw [hgoal]
  unfold istep1
  simp only [Nat.reduceEqDiff, reduceIte]
  try rw [hmod]
  try simp only [hnx]
  try rw [hlen7]
  try rw [hlen8]
  try (rw [burn_if (by exact P.b.dn)]; first | rw [if_pos (by exact hfu)] | rw [if_neg (by exact hfu)])
  repeat (first | rw [if_pos (by first | assumption | omega)] | rw [if_neg (by first | assumption | omega)])
  first
  | exact hf0 hX hF hR (by omega)
  | exact hf1 hX hF hR (by omega)
  | exact hf2 hX hF hR (by omega)
  | exact hf9 hX hF hR (by omega)

end Go.Proofs.Qxb6500568aGreatDoor
