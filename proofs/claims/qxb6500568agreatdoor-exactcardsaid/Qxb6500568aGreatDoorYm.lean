import Derived.Test.Qxb6500568aGreatDoorYl
/- The interpreter: enter. -/
namespace Go.Proofs.Qxb6500568aGreatDoor
open Ieee
set_option linter.unusedVariables false
set_option linter.unusedSimpArgs false
set_option linter.unusedSectionVars false

theorem do_setT {s : IS} (hc : s.cur < s.ths.length) (y : ITh) (k n x e : Nat) : ido k n x e (s.setT y) = s.setT { y with tasks := ⟨k, n, x, e⟩ :: y.tasks } := by
  unfold ido
  rw [th_setT hc, setT_setT]
theorem bindP_zero {G : Arena} {zs : List PV} {e : Nat} {s : IS} : ∀ {f : Nat}, bindP G f 0 zs e s = (e, s)
  | 0 => rfl
  | f + 1 => by unfold bindP; rw [if_pos rfl]
set_option maxHeartbeats 8000000 in
theorem enter32 {G : Arena} {root : Nat} {np : Value} {tb rb : Nat} {nv : Value} {w : World} {ow : Nat → Nat} {β τ : List Nat} {m : Nat} {s : IS} (hR : RM G root np tb rb nv w ow β τ m s) (hG : 0 < G.length) {c prot : Nat} (hc : c < s.clos.length) {ps : List Str} (hci : (s.clos.getD c (0, 0)).1 < G.length) (hps : IsNm G (nd G (s.clos.getD c (0, 0)).1).A ps) (hp3 : ps.length ≤ 3)
    {ab ta o cap : Nat} {la : List Value} {a : Option Addr} {zs : List PV} (hA : Blk w.heap ab la ta) (khA : ow ab = 66) (hz : ∀ (i : Nat) z, zs[i]? = some z → a = some ⟨ab, o, none⟩ ∧ (la.drop (o + i * 3)).take 3 = pvc z) (hd : s.th.depth ≤ 100) (hm : m ≤ 19990) :
    Ret Tryz.prog 32 [ptr rb, i64c c, .slice a zs.length cap, i64c prot] w (fun r w' => r = .tuple #[] ∧ ∃ bs, RP G root np tb rb nv w ow (β ++ bs) τ (m + 2) (ienter G root c zs prot s) w') := by
  have hF : Fram (tg ow cmT) w w := Fram.refl _ _
  have hX : Xt w ow ow := Xt.refl _ _
  obtain ⟨gn, capn, ln, rfl, hN, khN, hcapn, hrow⟩ := hR.nodes hG
  have hcl := hR.cl
  have hce := hR.ce
  have hcc : s.clos[c]? = some (s.clos.getD c (0, 0)) := by rw [List.getD_eq_getElem?_getD, List.getElem?_eq_getElem hc]; rfl
  have hceq : (s.clos.getD c (0, 0)).2 ≤ β.length := by rw [hR.el]; exact hce _ (List.mem_of_getElem? hcc)
  obtain ⟨pn, hpn⟩ := hrow _ hci
  unfold ienter
  simp only
  generalize hclg : s.clos.getD c (0, 0) = cl at *
  refine ret_of Tryz.func32 rfl Tryz.ntmps32 rfl ?_
  refine c_seq (fun K1 hK1 => ?_)
  obtain ⟨cv, a0, a1, a2, a3, a4, gT, capT, lT, bT, tvT, vvT, hXr, hO, hlT, hcapT, hbT, hTh, hgT⟩ := hR.open
  have hB := hTh.k
  have hkb := hTh.t
  have hclT := hR.cl
  unfold rnc at hXr
  have hk70 := hR.t70
  have hmb := hR.mem_b hR.cl hTh.t
  obtain ⟨va, vc, rfl⟩ := hTh.vs.form
  refine c_pi [(0, false), (1, false), (2, false), (3, false), (4, false), (5, false), (6, false), (7, false), (8, false), (9, false), (10, false)] (SameH _) mixed (by kernel_rfl) rfl (by kernel_rfl) (po_then (po_bp)) (sameH_now _ _) ?_ -- region 0 compm.go:213
  refine pi_ro rfl (fun w hS => ro_move rfl) ?_
  refine pi_ro rfl (fun w hS => ro_nilCheck rfl) ?_
  refine pi_ro rfl (fun w hS => ro_fieldAddr (k := 5) rfl fo_112_5) ?_
  refine pi_ro rfl (fun w hS => ro_loadB rfl sc_109 (Blk.of_heap (by assumption) hS) rfl) ?_
  refine pi_ro rfl (fun w hS => ro_move rfl) ?_
  refine pi_ro rfl (fun w hS => ro_nilCheck rfl) ?_
  refine pi_ro rfl (fun w hS => ro_fieldAddr (k := 12) rfl fo_112_8) ?_
  refine pi_ro rfl (fun w hS => ro_loadB rfl sc_3 (Blk.of_heap (by assumption) hS) rfl) ?_
  refine pi_ro rfl (fun w hS => ro_indexAddr (et := 123) (k := 1) rfl rfl se_109 rfl (by omega)) ?_
  refine pi_ro rfl (fun w hS => ro_loadB rfl sc_123 (Blk.of_heap hO hS) (hlT)) ?_
  refine pi_ro rfl (fun w hS => ro_assign rfl) ?_
  refine pi_nil (x_then (hK1 _ _ ?_))
  clear hK1 K1
  refine forget [(0, _), (1, _), (2, _), (3, _), (8, _)] ⟨rfl, rfl, rfl, rfl, rfl, trivial⟩ (fun e => ?_)
  refine c_seq (fun K2 hK2 => ?_)
  refine c_reg ?_ -- region 1 compm.go:214
  refine wl (ro_move rfl) ?_
  refine wl (ro_nilCheck rfl) ?_
  refine wl (ro_fieldAddr (k := 2) rfl fo_126_2) ?_
  refine wl (ro_loadB rfl sc_3 (by assumption) rfl) ?_
  refine wl (ro_arith rfl rfl rfl (Go.IntWalk.i64_in _ (by omega))) ?_
  refine wl (ro_nilCheck rfl) ?_
  refine wl (ro_fieldAddr (k := 2) rfl fo_126_2) ?_
  refine wl_put rfl rfl rfl sz_3 hB ((by simp)) (rfl) (fun w1 hB F1 => ?_)
  replace hF := hF.thenDrew.thenO F1 (by first | exact .inr (by omega) | exact .inl rfl | exact .inl (by assumption) | assumption)
  replace hN := F1.blkO hN (by first | omega | exact ow_ne (by assumption) (by assumption) (by omega))
  replace hA := F1.blkO hA (by first | omega | exact ow_ne (by assumption) (by assumption) (by omega))
  replace hO := F1.blkO hO (by first | omega | exact ow_ne (by assumption) (by assumption) (by omega))
  replace hXr := F1.blkO hXr (by first | omega | exact ow_ne (by assumption) (by assumption) (by omega))
  have e1 : ((s.th.depth : Int) + 1) = ((s.th.depth + 1 : Nat) : Int) := by omega
  rw [e1] at hB
  have hR2 := hR.thr' (y := { s.th with depth := s.th.depth + 1 }) hbT hTh.t hTh.ts hTh.vs ((Fram.refl (one bT) _).thenDrew.thenO F1 (.inl rfl)) hB hR.tem hR.bdm
  replace hR := hR2
  refine wl_nil (x_then (hK2 _ _ ?_))
  clear hK2 K2
  refine forget [(0, _), (1, _), (2, _), (3, _), (8, _)] ⟨rfl, rfl, rfl, rfl, rfl, trivial⟩ (fun e => ?_)
  refine c_seq (fun K3 hK3 => ?_)
  refine c_reg ?_ -- region 2 compm.go:215
  refine wl (ro_move rfl) ?_
  refine wl (ro_move rfl) ?_
  refine wl (ro_move rfl) ?_
  refine wl (ro_nilCheck rfl) ?_
  refine wl (ro_fieldAddr (k := 4) rfl fo_126_4) ?_
  refine wl (ro_loadB rfl sc_83 (by assumption) rfl) ?_
  refine wl (ro_lenL rfl se_83) ?_
  refine wl_call rfl en_55 (do55 (k := 3) (n := prot) (x := s.th.vals.length) (e := 0) hR.dr (EP.nil _) (by omega)) ?_
  rintro _ u2 ⟨rfl, ow2, x2, f2, r2⟩
  obtain ⟨hN, khN⟩ := cm_loc x2 f2 hN khN
  obtain ⟨hA, khA⟩ := cm_loc x2 f2 hA khA
  have hs2 := hF.size
  replace hF := cm_trans hX hF f2
  replace hX := hX.trans hs2 x2
  replace hR := r2
  rw [do_setT hcl] at hR
  refine wl_nil (x_then (hK3 _ _ ?_))
  clear hK3 K3
  refine forget [(0, _), (1, _), (2, _)] ⟨rfl, rfl, rfl, trivial⟩ (fun e => ?_)
  refine c_seq (fun K4 hK4 => ?_)
  obtain ⟨cv, hv_, a0, a1, a2, a3, a4, hXr, hq2, hq3, hq4⟩ := hR.r
  unfold rnc at hXr
  have hk70 := hR.t70
  obtain ⟨gc, capc, lc, rfl, hC, q1, q2, q3, q4, q5⟩ := hq2.at (clc_len β) hcc
  have hrc := q5 c cl hcc
  refine c_reg ?_ -- region 3 compm.go:216
  refine wl (ro_move rfl) ?_
  refine wl (ro_nilCheck rfl) ?_
  refine wl (ro_fieldAddr (k := 4) rfl fo_112_4) ?_
  refine wl (ro_loadB rfl sc_108 (by assumption) rfl) ?_
  refine wl (ro_move rfl) ?_
  refine wl (ro_indexAddr (et := 122) (k := 2) rfl rfl se_108 (rfl) ((by show c < s.clos.length; exact hc))) ?_
  refine wl (ro_fieldAddr (k := 1) rfl fo_122_1) ?_
  refine wl (ro_loadB rfl sc_120 (hC) (row_get hrc (by decide))) ?_
  refine wl (ro_assign rfl) ?_
  refine wl_nil (x_then (hK4 _ _ ?_))
  clear hK4 K4
  refine forget [(0, _), (1, _), (2, _), (9, _)] ⟨rfl, rfl, rfl, rfl, trivial⟩ (fun e => ?_)
  refine c_seq (fun K5 hK5 => ?_)
  refine c_reg ?_ -- region 4 compm.go:217
  refine wl (ro_move rfl) ?_
  refine wl (ro_nilCheck rfl) ?_
  refine wl (ro_fieldAddr (k := 4) rfl fo_112_4) ?_
  refine wl (ro_loadB rfl sc_108 (by assumption) rfl) ?_
  refine wl (ro_move rfl) ?_
  refine wl (ro_indexAddr (et := 122) (k := 2) rfl rfl se_108 (rfl) ((by show c < s.clos.length; exact hc))) ?_
  refine wl (ro_fieldAddr (k := 0) rfl fo_122_0) ?_
  refine wl (ro_loadB rfl sc_3 (hC) (row_get hrc (by decide))) ?_
  refine wl (ro_assign rfl) ?_
  refine wl_nil (x_then (hK5 _ _ ?_))
  clear hK5 K5
  refine forget [(0, _), (2, _), (9, _), (10, _)] ⟨rfl, rfl, rfl, rfl, trivial⟩ (fun e => ?_)
  refine c_seq (fun K6 hK6 => ?_)
  refine c_reg ?_ -- region 5 compm.go:218
  refine wl (ro_move rfl) ?_
  refine wl (ro_nilCheck rfl) ?_
  refine wl (ro_fieldAddr (k := 2) rfl fo_112_2) ?_
  refine wl (ro_loadB rfl sc_77 (by assumption) rfl) ?_
  refine wl (ro_move rfl) ?_
  refine wl (ro_indexAddr (et := 148) (k := 8) rfl rfl se_77 rfl (by omega)) ?_
  refine wl (ro_fieldAddr (k := 2) rfl fo_148_2) ?_
  refine wl (ro_loadB rfl sc_3 (hN) (row_get hpn (by decide))) ?_
  refine wl (ro_assign rfl) ?_
  refine wl_nil (x_then (hK6 _ _ ?_))
  clear hK6 K6
  refine c_seq (fun K7 hK7 => ?_)
  refine c_seq (fun K8 hK8 => ?_)
  refine c_reg ?_ -- region 6 compm.go:219
  refine wl (ro_move rfl) ?_
  refine wl (ro_cmp rfl rfl rfl) ?_
  refine wl_nil (x_then (hK8 _ _ ?_))
  clear hK8 K8
  refine wc_cond rfl (fun hc65 => ?_) (fun hc65 => ?_)
  · try simp only [decide_eq_true_eq, decide_eq_false_iff_not, Bool.not_eq_true', Bool.not_eq_false', Bool.not_eq_eq_eq_not, Bool.not_true, Bool.not_false, beq_iff_eq, bne_iff_ne, ne_eq, beq_eq_false_iff_ne, bne_eq_false_iff_eq, gt_iff_lt, ge_iff_le, Int.not_lt, Int.not_le] at hc65
    have hbd : (if cl.1 = 0 then root else (nd G cl.1).B) = root := if_pos (by omega)
    refine c_reg ?_ -- region 7 compm.go:220
    refine wl (ro_move rfl) ?_
    refine wl (ro_nilCheck rfl) ?_
    refine wl (ro_fieldAddr (k := 3) rfl fo_112_3) ?_
    refine wl (ro_loadB rfl sc_3 (by assumption) rfl) ?_
    refine wl (ro_assign rfl) ?_
    refine wl_nil (x_then (hK7 _ _ ?_))
    clear hK7 K7
    refine forget [(0, _), (2, _), (9, _), (10, _), (11, _)] ⟨rfl, rfl, rfl, rfl, rfl, trivial⟩ (fun e => ?_)
    refine c_seq (fun K9 hK9 => ?_)
    refine c_reg ?_ -- region 8 compm.go:222
    refine wl (ro_assign rfl) ?_
    refine wl_nil (x_then (hK9 _ _ ?_))
    clear hK9 K9
    refine c_seq (fun K10 hK10 => ?_)
    refine c_seq (fun K11 hK11 => ?_)
    refine c_reg ?_ -- region 9 compm.go:223
    refine wl (ro_move rfl) ?_
    refine wl (ro_nilCheck rfl) ?_
    refine wl (ro_fieldAddr (k := 2) rfl fo_112_2) ?_
    refine wl (ro_loadB rfl sc_77 (by assumption) rfl) ?_
    refine wl (ro_move rfl) ?_
    refine wl (ro_indexAddr (et := 148) (k := 8) rfl rfl se_77 rfl (by omega)) ?_
    refine wl (ro_fieldAddr (k := 1) rfl fo_148_1) ?_
    refine wl (ro_loadB rfl sc_3 (hN) (row_get hpn (by decide))) ?_
    refine wl (ro_assign rfl) ?_
    refine wl_nil (x_then (hK11 _ _ ?_))
    clear hK11 K11
    refine c_block ?_
    -- loop@r10: live slots [0, 2, 9, 11, 12, 13]
    refine c_loopG (fun mm a' w' => ∃ i p e' bs s' ow' f ps', mm = List.length ps' ∧ IsNm G p ps' ∧ ps'.length < f ∧ Xt w ow ow' ∧ Fram (tg ow cmT) w w' ∧ RM G root np tb rb (.slice (some ⟨gn, 0, none⟩) G.length capn) w' ow' (β ++ bs) τ (m + 1) s' ∧ e' ≤ (β ++ bs).length ∧ bindP G f p (zs.drop i) e' s' = bindP G 4 (nd G cl.1).A zs cl.2 (s.setT { s.th with depth := s.th.depth + 1, tasks := ⟨3, prot, s.th.vals.length, 0⟩ :: s.th.tasks }) ∧ i ≤ 3 - ps'.length ∧ ps'.length ≤ 3 ∧ Blk w'.heap gn ln 148 ∧ ow' gn = 67 ∧ Blk w'.heap ab la ta ∧ ow' ab = 66 ∧ ∃ e, a' = Fr 117 (upds e [(0, ptr rb), (2, .slice a zs.length cap), (9, .pointer (epo (β ++ bs) e')), (11, i64c (if cl.1 = 0 then root else (nd G cl.1).B)), (12, i64c i), (13, i64c p)]) []) ps.length ⟨0, _, cl.2, [], _, _, 4, ps, rfl, hps, by omega, hX, hF, by rw [List.append_nil]; exact hR, by rw [List.append_nil]; exact hceq, rfl, by omega, hp3, hN, khN, hA, khA, by rw [List.append_nil, hbd]; exact kp _ ⟨rfl, rfl, rfl, rfl, rfl, rfl, trivial⟩⟩ ?_
    clear hF hR hN hA khN khA hX hXr
    rintro mm a' u4 ⟨i, p, e', bs, s', ow4, f, ps', rfl, hnm, hf, hX, hF, hR, he', hbi, hi3, hps3, hN, khN, hA, khA, e, rfl⟩
    have hpl := hnm.lt hG
    obtain ⟨pp, hpp⟩ := hrow p hpl
    refine c_seq (fun K12 hK12 => ?_)
    refine c_seq (fun K13 hK13 => ?_)
    refine c_reg ?_ -- region 10 compm.go:223
    refine wl (ro_move rfl) ?_
    refine wl (ro_cmp rfl rfl rfl) ?_
    refine wl_nil (x_then (hK13 _ _ ?_))
    clear hK13 K13
    refine wc_cond rfl (fun hc79 => ?_) (fun hc79 => ?_)
    · try simp only [decide_eq_true_eq, decide_eq_false_iff_not, Bool.not_eq_true', Bool.not_eq_false', Bool.not_eq_eq_eq_not, Bool.not_true, Bool.not_false, beq_iff_eq, bne_iff_ne, ne_eq, beq_eq_false_iff_ne, bne_eq_false_iff_eq, gt_iff_lt, ge_iff_le, Int.not_lt, Int.not_le] at hc79
      obtain ⟨nm, ps'', rfl⟩ : ∃ nm ps'', ps' = nm :: ps'' := by
        cases ps' with
        | nil => have : p = 0 := hnm; omega
        | cons nm l => exact ⟨nm, l, rfl⟩
      have hnx : IsNm G (nd G p).Nx ps'' := hnm.2.2.2
      have hlc : (nm :: ps'').length = ps''.length + 1 := rfl
      obtain ⟨f', rfl⟩ : ∃ f', f = f' + 1 := ⟨f - 1, by omega⟩
      have hstep : ∀ v, (zs.drop i).headD vNil = v → bindP G f' (nd G p).Nx (zs.drop (i + 1)) ((β ++ bs).length + 1) (inew (nd G p).S v e' s') = bindP G 4 (nd G cl.1).A zs cl.2 (s.setT { s.th with depth := s.th.depth + 1, tasks := ⟨3, prot, s.th.vals.length, 0⟩ :: s.th.tasks }) := fun v hv => by
        rw [← hbi, bindP, if_neg (by omega)]
        simp only
        rw [hv, List.tail_drop, show (inew (nd G p).S v e' s').last = (β ++ bs).length + 1 by show (inew (nd G p).S v e' s').envs.length = _; rw [new_len, hR.el]]
      refine c_skip (x_then (hK12 _ _ ?_))
      clear hK12 K12
      refine forget [(0, _), (2, _), (9, _), (11, _), (12, _), (13, _)] ⟨rfl, rfl, rfl, rfl, rfl, rfl, trivial⟩ (fun e => ?_)
      refine c_seq (fun K14 hK14 => ?_)
      refine c_block ?_
      refine c_seq (fun K15 hK15 => ?_)
      obtain ⟨cv, hv_, a0, a1, a2, a3, a4, hXr, hq2, hq3, hq4⟩ := hR.r
      unfold rnc at hXr
      have hk70 := hR.t70
      refine c_reg ?_ -- region 12 compm.go:224
      refine wl (ro_move rfl) ?_
      refine wl (ro_nilCheck rfl) ?_
      refine wl (ro_fieldAddr (k := 2) rfl fo_112_2) ?_
      refine wl (ro_loadB rfl sc_77 (by assumption) rfl) ?_
      refine wl (ro_move rfl) ?_
      refine wl (ro_indexAddr (et := 148) (k := 8) rfl rfl se_77 rfl (by omega)) ?_
      refine wl (ro_fieldAddr (k := 6) rfl fo_148_6) ?_
      refine wl (ro_loadB rfl sc_9 (hN) (row_get hpp (by decide))) ?_
      refine wl (ro_move rfl) ?_
      refine wl (ro_build rfl bld_159_0_2) ?_
      refine wl_box (cs := (evc (β ++ bs) ⟨(nd G p).S, vNil, e'⟩)) rfl rfl (fun b98 w3 hbb98 h98 F3 => ?_)
      have hbsb98 := Nat.le_trans hF.size hbb98
      have hnegnb98 : gn < b98 := Nat.lt_of_lt_of_le hN.lt hbb98
      have hneabb98 : ab < b98 := Nat.lt_of_lt_of_le hA.lt hbb98
      have hnerbb98 : rb < b98 := Nat.lt_of_lt_of_le hXr.lt hbb98
      have kh98 := hR.df b98 hbb98
      replace hF := hF.thenDrew.thenN F3
      replace hR := hR.thruN ((Fram.refl none' _).thenDrew.thenN F3)
      replace hN := F3.blkN hN
      replace hA := F3.blkN hA
      replace hXr := F3.blkN hXr
      refine wl (ro_assign rfl) ?_
      refine wl_nil (x_then (hK15 _ _ ?_))
      clear hK15 K15
      refine c_seq (fun K16 hK16 => ?_)
      refine c_seq (fun K17 hK17 => ?_)
      refine c_reg ?_ -- region 13 compm.go:225
      refine wl (ro_move rfl) ?_
      refine wl (ro_move rfl) ?_
      refine wl (ro_lenL rfl se_83) ?_
      refine wl (ro_cmp rfl rfl rfl) ?_
      refine wl_nil (x_then (hK17 _ _ ?_))
      clear hK17 K17
      refine wc_cond rfl (fun hc102 => ?_) (fun hc102 => ?_)
      · try simp only [decide_eq_true_eq, decide_eq_false_iff_not, Bool.not_eq_true', Bool.not_eq_false', Bool.not_eq_eq_eq_not, Bool.not_true, Bool.not_false, beq_iff_eq, bne_iff_ne, ne_eq, beq_eq_false_iff_ne, bne_eq_false_iff_eq, gt_iff_lt, ge_iff_le, Int.not_lt, Int.not_le] at hc102
        obtain ⟨z, hzi⟩ : ∃ z, zs[i]? = some z := ⟨_, List.getElem?_eq_getElem (by omega)⟩
        obtain ⟨ha, hrz⟩ := hz i z hzi
        subst ha
        refine c_reg ?_ -- region 14 compm.go:226
        refine wl (ro_move rfl) ?_
        refine wl (ro_move rfl) ?_
        refine wl (ro_move rfl) ?_
        refine wl (ro_indexAddr (et := 119) (k := 3) rfl rfl se_83 rfl (by omega)) ?_
        refine wl (ro_loadAggB rfl ag_119 (hA) (rfl) (hrz)) ?_
        refine wl (ro_nilCheck rfl) ?_
        refine wl (ro_fieldAddr (k := 1) rfl fo_159_1) ?_
        refine wl_puta rfl rfl ((pvc_one _)) sz_119 (rfl) h98 ((by simp [evc])) (rfl) (fun w4 h98 F4 => ?_)
        replace hF := hF.thenDrew.thenO F4 (by first | exact .inr (by omega) | exact .inl rfl | exact .inl (by assumption) | assumption)
        replace hR := hR.hbput ((Fram.refl (one b98) _).thenDrew.thenO F4 (.inl rfl))
        replace hN := F4.blkO hN (by first | omega | exact ow_ne (by assumption) (by assumption) (by omega))
        replace hA := F4.blkO hA (by first | omega | exact ow_ne (by assumption) (by assumption) (by omega))
        replace hXr := F4.blkO hXr (by first | omega | exact ow_ne (by assumption) (by assumption) (by omega))
        refine wl_nil (x_then (hK16 _ _ ?_))
        clear hK16 K16
        refine forget [(0, _), (2, _), (11, _), (12, _), (13, _), (14, _)] ⟨rfl, rfl, rfl, rfl, rfl, rfl, trivial⟩ (fun e => ?_)
        refine c_seq (fun K18 hK18 => ?_)
        refine c_reg ?_ -- region 15 compm.go:228
        refine wl (ro_move rfl) ?_
        refine wl (ro_assign rfl) ?_
        refine wl_nil (x_then (hK18 _ _ ?_))
        clear hK18 K18
        refine c_reg ?_ -- region 16 compm.go:229
        refine wl (ro_move rfl) ?_
        refine wl (ro_arith rfl rfl rfl (Go.IntWalk.i64_in _ (by omega))) ?_
        refine wl (ro_assign rfl) ?_
        refine wl_nil (x_blk (x_then (hK14 _ _ ?_)))
        clear hK14 K14
        refine c_reg ?_ -- region 11 compm.go:223
        refine wl (ro_move rfl) ?_
        refine wl (ro_nilCheck rfl) ?_
        refine wl (ro_fieldAddr (k := 2) rfl fo_112_2) ?_
        refine wl (ro_loadB rfl sc_77 (by assumption) rfl) ?_
        refine wl (ro_move rfl) ?_
        refine wl (ro_indexAddr (et := 148) (k := 8) rfl rfl se_77 rfl (by omega)) ?_
        refine wl (ro_fieldAddr (k := 4) rfl fo_148_4) ?_
        refine wl (ro_loadB rfl sc_3 (hN) (row_get hpp (by decide))) ?_
        refine wl (ro_assign rfl) ?_
        refine wl_nil (x_then ?_)
        have hR2 := hR.newE (z := ⟨(nd G p).S, z, e'⟩) h98 (by rw [← hR.el]; exact he')
        rw [List.append_assoc] at hR2
        refine ⟨ps''.length, by omega, i + 1, (nd G p).Nx, (β ++ bs).length + 1, bs ++ [b98], _, _, f', ps'', rfl, hnx, by omega, fun b hb => by rw [ot_old (by omega)]; exact hX b hb, hF, hR2, by simp; omega, hstep z ?_, by omega, by omega, hN, by rw [ot_old (by omega)]; exact khN, hA, by rw [ot_old (by omega)]; exact khA, ?_⟩
        · rw [List.headD_eq_head?_getD, List.head?_drop, hzi]; rfl
        · rw [← List.append_assoc, epo_last]
          exact kp _ ⟨rfl, rfl, rfl, rfl, rfl, rfl, trivial⟩
      · try simp only [decide_eq_true_eq, decide_eq_false_iff_not, Bool.not_eq_true', Bool.not_eq_false', Bool.not_eq_eq_eq_not, Bool.not_true, Bool.not_false, beq_iff_eq, bne_iff_ne, ne_eq, beq_eq_false_iff_ne, bne_eq_false_iff_eq, gt_iff_lt, ge_iff_le, Int.not_lt, Int.not_le] at hc102
        refine c_skip (x_then (hK16 _ _ ?_))
        clear hK16 K16
        refine forget [(0, _), (2, _), (11, _), (12, _), (13, _), (14, _)] ⟨rfl, rfl, rfl, rfl, rfl, rfl, trivial⟩ (fun e => ?_)
        refine c_seq (fun K19 hK19 => ?_)
        refine c_reg ?_ -- region 15 compm.go:228
        refine wl (ro_move rfl) ?_
        refine wl (ro_assign rfl) ?_
        refine wl_nil (x_then (hK19 _ _ ?_))
        clear hK19 K19
        refine c_reg ?_ -- region 16 compm.go:229
        refine wl (ro_move rfl) ?_
        refine wl (ro_arith rfl rfl rfl (Go.IntWalk.i64_in _ (by omega))) ?_
        refine wl (ro_assign rfl) ?_
        refine wl_nil (x_blk (x_then (hK14 _ _ ?_)))
        clear hK14 K14
        refine c_reg ?_ -- region 11 compm.go:223
        refine wl (ro_move rfl) ?_
        refine wl (ro_nilCheck rfl) ?_
        refine wl (ro_fieldAddr (k := 2) rfl fo_112_2) ?_
        refine wl (ro_loadB rfl sc_77 (by assumption) rfl) ?_
        refine wl (ro_move rfl) ?_
        refine wl (ro_indexAddr (et := 148) (k := 8) rfl rfl se_77 rfl (by omega)) ?_
        refine wl (ro_fieldAddr (k := 4) rfl fo_148_4) ?_
        refine wl (ro_loadB rfl sc_3 (hN) (row_get hpp (by decide))) ?_
        refine wl (ro_assign rfl) ?_
        refine wl_nil (x_then ?_)
        have hR2 := hR.newE (z := ⟨(nd G p).S, vNil, e'⟩) h98 (by rw [← hR.el]; exact he')
        rw [List.append_assoc] at hR2
        refine ⟨ps''.length, by omega, i + 1, (nd G p).Nx, (β ++ bs).length + 1, bs ++ [b98], _, _, f', ps'', rfl, hnx, by omega, fun b hb => by rw [ot_old (by omega)]; exact hX b hb, hF, hR2, by simp; omega, hstep vNil ?_, by omega, by omega, hN, by rw [ot_old (by omega)]; exact khN, hA, by rw [ot_old (by omega)]; exact khA, ?_⟩
        · rw [List.headD_eq_head?_getD, List.head?_drop, List.getElem?_eq_none (by omega)]; rfl
        · rw [← List.append_assoc, epo_last]
          exact kp _ ⟨rfl, rfl, rfl, rfl, rfl, rfl, trivial⟩
    · try simp only [decide_eq_true_eq, decide_eq_false_iff_not, Bool.not_eq_true', Bool.not_eq_false', Bool.not_eq_eq_eq_not, Bool.not_true, Bool.not_false, beq_iff_eq, bne_iff_ne, ne_eq, beq_eq_false_iff_ne, bne_eq_false_iff_eq, gt_iff_lt, ge_iff_le, Int.not_lt, Int.not_le] at hc79
      have hp0 : p = 0 := by omega
      subst hp0
      rw [bindP_zero] at hbi
      refine c_exit (x_thenX (x_thenX (x_blkX (x_then (hK10 _ _ ?_)))))
      clear hK12 K12 hK10 K10
      refine c_reg ?_ -- region 17 compm.go:231
      refine wl (ro_move rfl) ?_
      refine wl (ro_move rfl) ?_
      refine wl (ro_move rfl) ?_
      refine wl_call rfl en_55 (do55 (k := 1) (n := if cl.1 = 0 then root else (nd G cl.1).B) (x := 0) (e := e') hR.dr (EP.mk' he') (by omega)) ?_
      rintro _ u5 ⟨rfl, ow5, x5, f5, r5⟩
      obtain ⟨hN, khN⟩ := cm_loc x5 f5 hN khN
      obtain ⟨hA, khA⟩ := cm_loc x5 f5 hA khA
      have hs5 := hF.size
      replace hF := cm_trans hX hF f5
      replace hX := hX.trans hs5 x5
      replace hR := r5
      refine wl_nil ?_
      refine bp_end Tryz.results32 rfl ?_
      refine ⟨rfl, bs, _, hX, hF, ?_⟩
      rw [← hbi]
      exact hR
  · try simp only [decide_eq_true_eq, decide_eq_false_iff_not, Bool.not_eq_true', Bool.not_eq_false', Bool.not_eq_eq_eq_not, Bool.not_true, Bool.not_false, beq_iff_eq, bne_iff_ne, ne_eq, beq_eq_false_iff_ne, bne_eq_false_iff_eq, gt_iff_lt, ge_iff_le, Int.not_lt, Int.not_le] at hc65
    have hbd : (if cl.1 = 0 then root else (nd G cl.1).B) = (nd G cl.1).B := if_neg (by omega)
    refine c_skip (x_then (hK7 _ _ ?_))
    clear hK7 K7
    refine forget [(0, _), (2, _), (9, _), (10, _), (11, _)] ⟨rfl, rfl, rfl, rfl, rfl, trivial⟩ (fun e => ?_)
    refine c_seq (fun K20 hK20 => ?_)
    refine c_reg ?_ -- region 8 compm.go:222
    refine wl (ro_assign rfl) ?_
    refine wl_nil (x_then (hK20 _ _ ?_))
    clear hK20 K20
    refine c_seq (fun K21 hK21 => ?_)
    refine c_seq (fun K22 hK22 => ?_)
    refine c_reg ?_ -- region 9 compm.go:223
    refine wl (ro_move rfl) ?_
    refine wl (ro_nilCheck rfl) ?_
    refine wl (ro_fieldAddr (k := 2) rfl fo_112_2) ?_
    refine wl (ro_loadB rfl sc_77 (by assumption) rfl) ?_
    refine wl (ro_move rfl) ?_
    refine wl (ro_indexAddr (et := 148) (k := 8) rfl rfl se_77 rfl (by omega)) ?_
    refine wl (ro_fieldAddr (k := 1) rfl fo_148_1) ?_
    refine wl (ro_loadB rfl sc_3 (hN) (row_get hpn (by decide))) ?_
    refine wl (ro_assign rfl) ?_
    refine wl_nil (x_then (hK22 _ _ ?_))
    clear hK22 K22
    refine c_block ?_
    -- loop@r10: live slots [0, 2, 9, 11, 12, 13]
    refine c_loopG (fun mm a' w' => ∃ i p e' bs s' ow' f ps', mm = List.length ps' ∧ IsNm G p ps' ∧ ps'.length < f ∧ Xt w ow ow' ∧ Fram (tg ow cmT) w w' ∧ RM G root np tb rb (.slice (some ⟨gn, 0, none⟩) G.length capn) w' ow' (β ++ bs) τ (m + 1) s' ∧ e' ≤ (β ++ bs).length ∧ bindP G f p (zs.drop i) e' s' = bindP G 4 (nd G cl.1).A zs cl.2 (s.setT { s.th with depth := s.th.depth + 1, tasks := ⟨3, prot, s.th.vals.length, 0⟩ :: s.th.tasks }) ∧ i ≤ 3 - ps'.length ∧ ps'.length ≤ 3 ∧ Blk w'.heap gn ln 148 ∧ ow' gn = 67 ∧ Blk w'.heap ab la ta ∧ ow' ab = 66 ∧ ∃ e, a' = Fr 117 (upds e [(0, ptr rb), (2, .slice a zs.length cap), (9, .pointer (epo (β ++ bs) e')), (11, i64c (if cl.1 = 0 then root else (nd G cl.1).B)), (12, i64c i), (13, i64c p)]) []) ps.length ⟨0, _, cl.2, [], _, _, 4, ps, rfl, hps, by omega, hX, hF, by rw [List.append_nil]; exact hR, by rw [List.append_nil]; exact hceq, rfl, by omega, hp3, hN, khN, hA, khA, by rw [List.append_nil, hbd]; exact kp _ ⟨rfl, rfl, rfl, rfl, rfl, rfl, trivial⟩⟩ ?_
    clear hF hR hN hA khN khA hX hXr
    rintro mm a' u4 ⟨i, p, e', bs, s', ow4, f, ps', rfl, hnm, hf, hX, hF, hR, he', hbi, hi3, hps3, hN, khN, hA, khA, e, rfl⟩
    have hpl := hnm.lt hG
    obtain ⟨pp, hpp⟩ := hrow p hpl
    refine c_seq (fun K23 hK23 => ?_)
    refine c_seq (fun K24 hK24 => ?_)
    refine c_reg ?_ -- region 10 compm.go:223
    refine wl (ro_move rfl) ?_
    refine wl (ro_cmp rfl rfl rfl) ?_
    refine wl_nil (x_then (hK24 _ _ ?_))
    clear hK24 K24
    refine wc_cond rfl (fun hc79 => ?_) (fun hc79 => ?_)
    · try simp only [decide_eq_true_eq, decide_eq_false_iff_not, Bool.not_eq_true', Bool.not_eq_false', Bool.not_eq_eq_eq_not, Bool.not_true, Bool.not_false, beq_iff_eq, bne_iff_ne, ne_eq, beq_eq_false_iff_ne, bne_eq_false_iff_eq, gt_iff_lt, ge_iff_le, Int.not_lt, Int.not_le] at hc79
      obtain ⟨nm, ps'', rfl⟩ : ∃ nm ps'', ps' = nm :: ps'' := by
        cases ps' with
        | nil => have : p = 0 := hnm; omega
        | cons nm l => exact ⟨nm, l, rfl⟩
      have hnx : IsNm G (nd G p).Nx ps'' := hnm.2.2.2
      have hlc : (nm :: ps'').length = ps''.length + 1 := rfl
      obtain ⟨f', rfl⟩ : ∃ f', f = f' + 1 := ⟨f - 1, by omega⟩
      have hstep : ∀ v, (zs.drop i).headD vNil = v → bindP G f' (nd G p).Nx (zs.drop (i + 1)) ((β ++ bs).length + 1) (inew (nd G p).S v e' s') = bindP G 4 (nd G cl.1).A zs cl.2 (s.setT { s.th with depth := s.th.depth + 1, tasks := ⟨3, prot, s.th.vals.length, 0⟩ :: s.th.tasks }) := fun v hv => by
        rw [← hbi, bindP, if_neg (by omega)]
        simp only
        rw [hv, List.tail_drop, show (inew (nd G p).S v e' s').last = (β ++ bs).length + 1 by show (inew (nd G p).S v e' s').envs.length = _; rw [new_len, hR.el]]
      refine c_skip (x_then (hK23 _ _ ?_))
      clear hK23 K23
      refine forget [(0, _), (2, _), (9, _), (11, _), (12, _), (13, _)] ⟨rfl, rfl, rfl, rfl, rfl, rfl, trivial⟩ (fun e => ?_)
      refine c_seq (fun K25 hK25 => ?_)
      refine c_block ?_
      refine c_seq (fun K26 hK26 => ?_)
      obtain ⟨cv, hv_, a0, a1, a2, a3, a4, hXr, hq2, hq3, hq4⟩ := hR.r
      unfold rnc at hXr
      have hk70 := hR.t70
      refine c_reg ?_ -- region 12 compm.go:224
      refine wl (ro_move rfl) ?_
      refine wl (ro_nilCheck rfl) ?_
      refine wl (ro_fieldAddr (k := 2) rfl fo_112_2) ?_
      refine wl (ro_loadB rfl sc_77 (by assumption) rfl) ?_
      refine wl (ro_move rfl) ?_
      refine wl (ro_indexAddr (et := 148) (k := 8) rfl rfl se_77 rfl (by omega)) ?_
      refine wl (ro_fieldAddr (k := 6) rfl fo_148_6) ?_
      refine wl (ro_loadB rfl sc_9 (hN) (row_get hpp (by decide))) ?_
      refine wl (ro_move rfl) ?_
      refine wl (ro_build rfl bld_159_0_2) ?_
      refine wl_box (cs := (evc (β ++ bs) ⟨(nd G p).S, vNil, e'⟩)) rfl rfl (fun b98 w6 hbb98 h98 F6 => ?_)
      have hbsb98 := Nat.le_trans hF.size hbb98
      have hnegnb98 : gn < b98 := Nat.lt_of_lt_of_le hN.lt hbb98
      have hneabb98 : ab < b98 := Nat.lt_of_lt_of_le hA.lt hbb98
      have hnerbb98 : rb < b98 := Nat.lt_of_lt_of_le hXr.lt hbb98
      have kh98 := hR.df b98 hbb98
      replace hF := hF.thenDrew.thenN F6
      replace hR := hR.thruN ((Fram.refl none' _).thenDrew.thenN F6)
      replace hN := F6.blkN hN
      replace hA := F6.blkN hA
      replace hXr := F6.blkN hXr
      refine wl (ro_assign rfl) ?_
      refine wl_nil (x_then (hK26 _ _ ?_))
      clear hK26 K26
      refine c_seq (fun K27 hK27 => ?_)
      refine c_seq (fun K28 hK28 => ?_)
      refine c_reg ?_ -- region 13 compm.go:225
      refine wl (ro_move rfl) ?_
      refine wl (ro_move rfl) ?_
      refine wl (ro_lenL rfl se_83) ?_
      refine wl (ro_cmp rfl rfl rfl) ?_
      refine wl_nil (x_then (hK28 _ _ ?_))
      clear hK28 K28
      refine wc_cond rfl (fun hc102 => ?_) (fun hc102 => ?_)
      · try simp only [decide_eq_true_eq, decide_eq_false_iff_not, Bool.not_eq_true', Bool.not_eq_false', Bool.not_eq_eq_eq_not, Bool.not_true, Bool.not_false, beq_iff_eq, bne_iff_ne, ne_eq, beq_eq_false_iff_ne, bne_eq_false_iff_eq, gt_iff_lt, ge_iff_le, Int.not_lt, Int.not_le] at hc102
        obtain ⟨z, hzi⟩ : ∃ z, zs[i]? = some z := ⟨_, List.getElem?_eq_getElem (by omega)⟩
        obtain ⟨ha, hrz⟩ := hz i z hzi
        subst ha
        refine c_reg ?_ -- region 14 compm.go:226
        refine wl (ro_move rfl) ?_
        refine wl (ro_move rfl) ?_
        refine wl (ro_move rfl) ?_
        refine wl (ro_indexAddr (et := 119) (k := 3) rfl rfl se_83 rfl (by omega)) ?_
        refine wl (ro_loadAggB rfl ag_119 (hA) (rfl) (hrz)) ?_
        refine wl (ro_nilCheck rfl) ?_
        refine wl (ro_fieldAddr (k := 1) rfl fo_159_1) ?_
        refine wl_puta rfl rfl ((pvc_one _)) sz_119 (rfl) h98 ((by simp [evc])) (rfl) (fun w7 h98 F7 => ?_)
        replace hF := hF.thenDrew.thenO F7 (by first | exact .inr (by omega) | exact .inl rfl | exact .inl (by assumption) | assumption)
        replace hR := hR.hbput ((Fram.refl (one b98) _).thenDrew.thenO F7 (.inl rfl))
        replace hN := F7.blkO hN (by first | omega | exact ow_ne (by assumption) (by assumption) (by omega))
        replace hA := F7.blkO hA (by first | omega | exact ow_ne (by assumption) (by assumption) (by omega))
        replace hXr := F7.blkO hXr (by first | omega | exact ow_ne (by assumption) (by assumption) (by omega))
        refine wl_nil (x_then (hK27 _ _ ?_))
        clear hK27 K27
        refine forget [(0, _), (2, _), (11, _), (12, _), (13, _), (14, _)] ⟨rfl, rfl, rfl, rfl, rfl, rfl, trivial⟩ (fun e => ?_)
        refine c_seq (fun K29 hK29 => ?_)
        refine c_reg ?_ -- region 15 compm.go:228
        refine wl (ro_move rfl) ?_
        refine wl (ro_assign rfl) ?_
        refine wl_nil (x_then (hK29 _ _ ?_))
        clear hK29 K29
        refine c_reg ?_ -- region 16 compm.go:229
        refine wl (ro_move rfl) ?_
        refine wl (ro_arith rfl rfl rfl (Go.IntWalk.i64_in _ (by omega))) ?_
        refine wl (ro_assign rfl) ?_
        refine wl_nil (x_blk (x_then (hK25 _ _ ?_)))
        clear hK25 K25
        refine c_reg ?_ -- region 11 compm.go:223
        refine wl (ro_move rfl) ?_
        refine wl (ro_nilCheck rfl) ?_
        refine wl (ro_fieldAddr (k := 2) rfl fo_112_2) ?_
        refine wl (ro_loadB rfl sc_77 (by assumption) rfl) ?_
        refine wl (ro_move rfl) ?_
        refine wl (ro_indexAddr (et := 148) (k := 8) rfl rfl se_77 rfl (by omega)) ?_
        refine wl (ro_fieldAddr (k := 4) rfl fo_148_4) ?_
        refine wl (ro_loadB rfl sc_3 (hN) (row_get hpp (by decide))) ?_
        refine wl (ro_assign rfl) ?_
        refine wl_nil (x_then ?_)
        have hR2 := hR.newE (z := ⟨(nd G p).S, z, e'⟩) h98 (by rw [← hR.el]; exact he')
        rw [List.append_assoc] at hR2
        refine ⟨ps''.length, by omega, i + 1, (nd G p).Nx, (β ++ bs).length + 1, bs ++ [b98], _, _, f', ps'', rfl, hnx, by omega, fun b hb => by rw [ot_old (by omega)]; exact hX b hb, hF, hR2, by simp; omega, hstep z ?_, by omega, by omega, hN, by rw [ot_old (by omega)]; exact khN, hA, by rw [ot_old (by omega)]; exact khA, ?_⟩
        · rw [List.headD_eq_head?_getD, List.head?_drop, hzi]; rfl
        · rw [← List.append_assoc, epo_last]
          exact kp _ ⟨rfl, rfl, rfl, rfl, rfl, rfl, trivial⟩
      · try simp only [decide_eq_true_eq, decide_eq_false_iff_not, Bool.not_eq_true', Bool.not_eq_false', Bool.not_eq_eq_eq_not, Bool.not_true, Bool.not_false, beq_iff_eq, bne_iff_ne, ne_eq, beq_eq_false_iff_ne, bne_eq_false_iff_eq, gt_iff_lt, ge_iff_le, Int.not_lt, Int.not_le] at hc102
        refine c_skip (x_then (hK27 _ _ ?_))
        clear hK27 K27
        refine forget [(0, _), (2, _), (11, _), (12, _), (13, _), (14, _)] ⟨rfl, rfl, rfl, rfl, rfl, rfl, trivial⟩ (fun e => ?_)
        refine c_seq (fun K30 hK30 => ?_)
        refine c_reg ?_ -- region 15 compm.go:228
        refine wl (ro_move rfl) ?_
        refine wl (ro_assign rfl) ?_
        refine wl_nil (x_then (hK30 _ _ ?_))
        clear hK30 K30
        refine c_reg ?_ -- region 16 compm.go:229
        refine wl (ro_move rfl) ?_
        refine wl (ro_arith rfl rfl rfl (Go.IntWalk.i64_in _ (by omega))) ?_
        refine wl (ro_assign rfl) ?_
        refine wl_nil (x_blk (x_then (hK25 _ _ ?_)))
        clear hK25 K25
        refine c_reg ?_ -- region 11 compm.go:223
        refine wl (ro_move rfl) ?_
        refine wl (ro_nilCheck rfl) ?_
        refine wl (ro_fieldAddr (k := 2) rfl fo_112_2) ?_
        refine wl (ro_loadB rfl sc_77 (by assumption) rfl) ?_
        refine wl (ro_move rfl) ?_
        refine wl (ro_indexAddr (et := 148) (k := 8) rfl rfl se_77 rfl (by omega)) ?_
        refine wl (ro_fieldAddr (k := 4) rfl fo_148_4) ?_
        refine wl (ro_loadB rfl sc_3 (hN) (row_get hpp (by decide))) ?_
        refine wl (ro_assign rfl) ?_
        refine wl_nil (x_then ?_)
        have hR2 := hR.newE (z := ⟨(nd G p).S, vNil, e'⟩) h98 (by rw [← hR.el]; exact he')
        rw [List.append_assoc] at hR2
        refine ⟨ps''.length, by omega, i + 1, (nd G p).Nx, (β ++ bs).length + 1, bs ++ [b98], _, _, f', ps'', rfl, hnx, by omega, fun b hb => by rw [ot_old (by omega)]; exact hX b hb, hF, hR2, by simp; omega, hstep vNil ?_, by omega, by omega, hN, by rw [ot_old (by omega)]; exact khN, hA, by rw [ot_old (by omega)]; exact khA, ?_⟩
        · rw [List.headD_eq_head?_getD, List.head?_drop, List.getElem?_eq_none (by omega)]; rfl
        · rw [← List.append_assoc, epo_last]
          exact kp _ ⟨rfl, rfl, rfl, rfl, rfl, rfl, trivial⟩
    · try simp only [decide_eq_true_eq, decide_eq_false_iff_not, Bool.not_eq_true', Bool.not_eq_false', Bool.not_eq_eq_eq_not, Bool.not_true, Bool.not_false, beq_iff_eq, bne_iff_ne, ne_eq, beq_eq_false_iff_ne, bne_eq_false_iff_eq, gt_iff_lt, ge_iff_le, Int.not_lt, Int.not_le] at hc79
      have hp0 : p = 0 := by omega
      subst hp0
      rw [bindP_zero] at hbi
      refine c_exit (x_thenX (x_thenX (x_blkX (x_then (hK21 _ _ ?_)))))
      clear hK23 K23 hK21 K21
      refine c_reg ?_ -- region 17 compm.go:231
      refine wl (ro_move rfl) ?_
      refine wl (ro_move rfl) ?_
      refine wl (ro_move rfl) ?_
      refine wl_call rfl en_55 (do55 (k := 1) (n := if cl.1 = 0 then root else (nd G cl.1).B) (x := 0) (e := e') hR.dr (EP.mk' he') (by omega)) ?_
      rintro _ u8 ⟨rfl, ow8, x8, f8, r8⟩
      obtain ⟨hN, khN⟩ := cm_loc x8 f8 hN khN
      obtain ⟨hA, khA⟩ := cm_loc x8 f8 hA khA
      have hs8 := hF.size
      replace hF := cm_trans hX hF f8
      replace hX := hX.trans hs8 x8
      replace hR := r8
      refine wl_nil ?_
      refine bp_end Tryz.results32 rfl ?_
      refine ⟨rfl, bs, _, hX, hF, ?_⟩
      rw [← hbi]
      exact hR

end Go.Proofs.Qxb6500568aGreatDoor
