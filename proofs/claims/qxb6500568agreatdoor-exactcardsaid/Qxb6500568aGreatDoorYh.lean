import Derived.Test.Qxb6500568aGreatDoorYg
/- The interpreter: pop, burn, finish, find, pushBool, pushStr. -/
namespace Go.Proofs.Qxb6500568aGreatDoor
open Ieee
set_option linter.unusedVariables false
set_option linter.unusedSimpArgs false
set_option linter.unusedSectionVars false

section
variable {G : Arena} {root : Nat} {np : Value} {tb rb : Nat} {nv : Value} {w w' w1 u1 u2 : World} {ow ow' : Nat → Nat} {β τ : List Nat} {m : Nat} {s : IS} {F : Nat → Prop} {i : Nat} {x : ITh} {b : Nat} {tv vv v' : Value}
/-- the thread's structure put anew. -/
theorem RM.thr' (h : RM G root np tb rb nv w ow β τ m s) (hb : τ[s.cur]? = some b) (hk : ow b = 75 + s.cur) {y : ITh} {tv' vv' : Value} (ht : OwT w ow (80 + s.cur) tv' 161 4 y.tasks.length (rws (tsc β) y.tasks.reverse)) (hv : OwT w ow (85 + s.cur) vv' 119 3 y.vals.length (rws pvc y.vals.reverse))
    (f : Fram (one b) w w') (hB : Blk w'.heap b [i64c y.st, i64c y.fn, i64c y.depth, tv', vv'] 126) (hte : ∀ t ∈ y.tasks, t.e ≤ s.envs.length) (hl : y.tasks.length ≤ m ∧ y.vals.length ≤ m) : RM G root np tb rb nv w' ow β τ m (s.setT y) := by
  have hf : Fram (tg ow (thT s.cur)) w w' := f.mono (fun c _ q => by have q : c = b := q; show thT s.cur (ow c); rw [q]; exact .inl hk)
  refine h.turnT hf (Xt.refl _ _) (h.dfN f) hb ⟨hB, hk, ht.far f (fun c q _ z => ?_) (Xt.refl _ _), hv.far f (fun c q _ z => ?_) (Xt.refl _ _)⟩ hte (Nat.le_refl _) hl
  · have z : c = b := z
    rw [z, hk] at q; omega
  · have z : c = b := z
    rw [z, hk] at q; omega
theorem RM.tem (h : RM G root np tb rb nv w ow β τ m s) : ∀ t ∈ s.th.tasks, t.e ≤ s.envs.length := h.te _ (List.mem_of_getElem? (th_at h.cl))
theorem RM.bdm (h : RM G root np tb rb nv w ow β τ m s) : s.th.tasks.length ≤ m ∧ s.th.vals.length ≤ m := h.bd _ (List.mem_of_getElem? (th_at h.cl))
theorem RM.cutV (h : RM G root np tb rb nv w ow β τ m s) (hb : τ[s.cur]? = some b) (hk : ow b = 75 + s.cur) {a : Option Addr} {cap : Nat} (ht : OwT w ow (80 + s.cur) tv 161 4 s.th.tasks.length (rws (tsc β) s.th.tasks.reverse)) (hv : OwT w ow (85 + s.cur) (.slice a s.th.vals.length cap) 119 3 s.th.vals.length (rws pvc s.th.vals.reverse)) (j : Nat)
    (f : Fram (one b) w w') (hB : Blk w'.heap b [i64c s.th.st, i64c s.th.fn, i64c s.th.depth, tv, .slice a (s.th.vals.length - j) cap] 126) : RM G root np tb rb nv w' ow β τ m (idrop j s) :=
  h.thr' (y := { s.th with vals := s.th.vals.drop j }) hb hk ht (hv.dropR pvc_len j) f hB h.tem (by have := h.bdm; refine ⟨this.1, ?_⟩; show (s.th.vals.drop j).length ≤ m; rw [List.length_drop]; omega)
theorem RM.mem_b (h : RM G root np tb rb nv w ow β τ m s) {i : Nat} (hi : i < s.ths.length) (hk : ow b = 75 + i) : tg ow cmT b := thT_cm (c := i) (by have := h.t5; omega) (.inl hk)
theorem RM.mem_r (h : RM G root np tb rb nv w ow β τ m s) : tg ow cmT rb := by show cmT (ow rb); rw [h.t70]; unfold cmT; omega
end

set_option maxHeartbeats 4000000 in
theorem pop59 {G : Arena} {root : Nat} {np : Value} {tb rb : Nat} {nv : Value} {w : World} {ow : Nat → Nat} {β τ : List Nat} {m : Nat} {s : IS} (hR : RM G root np tb rb nv w ow β τ m s) (hv0 : 0 < s.th.vals.length) (hm : m ≤ 20000) :
    Ret Tryz.prog 59 [ptr rb] w (fun r w' => r = pv (s.top 0) ∧ RP G root np tb rb nv w ow β τ m (idrop 1 s) w') := by
  obtain ⟨cv, a0, a1, a2, a3, a4, g, cap, l, b, tv, vv, hX, hO, hl, hcap, hb, hT, hg⟩ := hR.open
  have hc := hR.cl
  have hF : Fram (tg ow cmT) w w := Fram.refl _ _
  have hF0 : Fram none' w w := Fram.refl _ _
  have hB := hT.k
  have hbd := hR.bdm.2
  have hmb := hR.mem_b hc hT.t
  unfold rnc at hX
  have ht0 : s.th.vals[0]? = some (s.top 0) := by unfold IS.top; rw [List.getD_eq_getElem?_getD, List.getElem?_eq_getElem hv0]; rfl
  obtain ⟨gv, capv, lv, rfl, hV, q1, q2, q3, q4⟩ := hT.vs.atR pvc_len ht0
  refine ret_of Tryz.func59 rfl Tryz.ntmps59 rfl ?_
  refine c_seq (fun K1 hK1 => ?_)
  refine c_reg ?_ -- region 0 compm.go:120
  refine wl_new (ze_119) (fun b2 w1 hbb2 h2 F1 => ?_)
  have hnerbb2 : rb < b2 := Nat.lt_of_lt_of_le hX.lt hbb2
  have hnegb2 : g < b2 := Nat.lt_of_lt_of_le hO.lt hbb2
  have hbsb2 := Nat.le_trans hF.size hbb2
  have hbsb2 := Nat.le_trans hF0.size hbb2
  have hnebb2 : b < b2 := Nat.lt_of_lt_of_le hB.lt hbb2
  have hnegvb2 : gv < b2 := Nat.lt_of_lt_of_le hV.lt hbb2
  have kh2 := hR.df b2 hbb2
  replace hX := F1.blkN hX
  replace hO := F1.blkN hO
  replace hF := hF.thenDrew.thenN F1
  replace hF0 := hF0.thenDrew.thenN F1
  replace hB := F1.blkN hB
  replace hV := F1.blkN hV
  replace hR := hR.thruN ((Fram.refl none' _).thenDrew.thenN F1)
  refine wl_nil (x_then (hK1 _ _ ?_))
  clear hK1 K1
  refine forget [(0, _), (2, _)] ⟨rfl, rfl, trivial⟩ (fun e => ?_)
  refine c_seq (fun K2 hK2 => ?_)
  refine c_pi [(0, false), (1, false), (2, false), (3, false), (4, false), (5, false), (6, false), (7, false), (8, false), (9, false), (10, false)] (SameH _) mixed (by kernel_rfl) rfl (by kernel_rfl) (po_then (po_bp)) (sameH_now _ _) ?_ -- region 1 compm.go:121
  refine pi_ro rfl (fun w hS => ro_move rfl) ?_
  refine pi_ro rfl (fun w hS => ro_nilCheck rfl) ?_
  refine pi_ro rfl (fun w hS => ro_fieldAddr (k := 5) rfl fo_112_5) ?_
  refine pi_ro rfl (fun w hS => ro_loadB rfl sc_109 (Blk.of_heap (by assumption) hS) rfl) ?_
  refine pi_ro rfl (fun w hS => ro_move rfl) ?_
  refine pi_ro rfl (fun w hS => ro_nilCheck rfl) ?_
  refine pi_ro rfl (fun w hS => ro_fieldAddr (k := 12) rfl fo_112_8) ?_
  refine pi_ro rfl (fun w hS => ro_loadB rfl sc_3 (Blk.of_heap (by assumption) hS) rfl) ?_
  refine pi_ro rfl (fun w hS => ro_indexAddr (et := 123) (k := 1) rfl rfl se_109 rfl (by omega)) ?_
  refine pi_ro rfl (fun w hS => ro_loadB rfl sc_123 (Blk.of_heap hO hS) (hl)) ?_
  refine pi_ro rfl (fun w hS => ro_assign rfl) ?_
  refine pi_nil (x_then (hK2 _ _ ?_))
  clear hK2 K2
  refine forget [(2, _), (3, _)] ⟨rfl, rfl, trivial⟩ (fun e => ?_)
  refine c_seq (fun K3 hK3 => ?_)
  refine c_piL 13 [(0, false), (1, false), (2, false), (3, false), (4, false), (5, false), (6, false), (7, false), (8, false), (9, false), (10, false), (11, false), (12, true)] (fun u => Blk u.heap b [i64c s.th.st, i64c s.th.fn, i64c s.th.depth, tv, .slice (some ⟨gv, 0, none⟩) s.th.vals.length capv] 126 ∧ Blk u.heap gv lv 119) mixed (by kernel_rfl) rfl (by kernel_rfl) (po_then (po_bp)) (⟨hB, hV⟩) ?_ -- region 2 compm.go:122
  refine ql_ro rfl (fun w hS => ro_move rfl) ?_
  refine ql_ro rfl (fun w hS => ro_nilCheck rfl) ?_
  refine ql_ro rfl (fun w hS => ro_fieldAddr (k := 4) rfl fo_126_4) ?_
  refine ql_ro rfl (fun w hS => ro_loadB rfl sc_83 (hS.1) rfl) ?_
  refine ql_ro rfl (fun w hS => ro_move rfl) ?_
  refine ql_ro rfl (fun w hS => ro_nilCheck rfl) ?_
  refine ql_ro rfl (fun w hS => ro_fieldAddr (k := 4) rfl fo_126_4) ?_
  refine ql_ro rfl (fun w hS => ro_loadB rfl sc_83 (hS.1) rfl) ?_
  refine ql_ro rfl (fun w hS => ro_lenL rfl se_83) ?_
  refine ql_ro rfl (fun w hS => ro_arith rfl rfl rfl (Go.IntWalk.i64_in _ (by omega))) ?_
  refine ql_ro rfl (fun w hS => ro_indexAddr (et := 119) (k := 3) rfl rfl se_83 ((show ((s.th.vals.length : Int) - 1) = ((s.th.vals.length - 1 - 0 : Nat) : Int) by omega)) ((by omega))) ?_
  refine ql_ro rfl (fun w hS => ro_loadAggB rfl ag_119 (hS.2) (rfl) (q4)) ?_
  refine ql_new rfl ze_119 (fun w1 F ↦ ⟨F.blkN hB, F.blkN hV⟩) ?_
  intro b4 w2 hbb4 h4 F2
  have hnerbb4 : rb < b4 := Nat.lt_of_lt_of_le hX.lt hbb4
  have hnegb4 : g < b4 := Nat.lt_of_lt_of_le hO.lt hbb4
  have hbsb4 := Nat.le_trans hF.size hbb4
  have hbsb4 := Nat.le_trans hF0.size hbb4
  have hnebb4 : b < b4 := Nat.lt_of_lt_of_le hB.lt hbb4
  have hnegvb4 : gv < b4 := Nat.lt_of_lt_of_le hV.lt hbb4
  have hneb2b4 : b2 < b4 := Nat.lt_of_lt_of_le h2.lt hbb4
  have kh4 := hR.df b4 hbb4
  replace hX := F2.blkN hX
  replace hO := F2.blkN hO
  replace hF := hF.thenDrew.thenN F2
  replace hF0 := hF0.thenDrew.thenN F2
  replace hB := F2.blkN hB
  replace hV := F2.blkN hV
  replace hR := hR.thruN ((Fram.refl none' _).thenDrew.thenN F2)
  replace h2 := F2.blkN h2
  refine ql_puta rfl rfl rfl ((pvc_one _)) sz_119 (rfl) h4 ((by simp)) (rfl) (fun w3 h4 F3 => ?_)
  replace hX := F3.blkO hX (by first | omega | exact ow_ne (by assumption) (by assumption) (by omega))
  replace hO := F3.blkO hO (by first | omega | exact ow_ne (by assumption) (by assumption) (by omega))
  replace hF := hF.thenDrew.thenO F3 (by first | exact .inr (by omega) | exact .inl rfl | exact .inl (by assumption) | assumption)
  replace hF0 := hF0.thenDrew.thenO F3 (by first | exact .inr (by omega) | exact .inl rfl | exact .inl (by assumption) | assumption)
  replace hB := F3.blkO hB (by first | omega | exact ow_ne (by assumption) (by assumption) (by omega))
  replace hV := F3.blkO hV (by first | omega | exact ow_ne (by assumption) (by assumption) (by omega))
  replace hR := hR.hbput ((Fram.refl (one b4) _).thenDrew.thenO F3 (.inl rfl))
  replace h2 := F3.blkO h2 (by first | omega | exact ow_ne (by assumption) (by assumption) (by omega))
  refine x_then (hK3 _ _ ?_)
  clear hK3 K3
  refine forget [(2, _), (3, _), (4, _)] ⟨rfl, rfl, rfl, trivial⟩ (fun e => ?_)
  refine c_seq (fun K4 hK4 => ?_)
  refine c_piL 14 [(0, false), (1, false), (2, false), (3, false), (4, false), (5, false), (6, false), (7, false), (8, false), (9, false), (10, false), (11, false), (12, false), (13, false)] (SameH _) mixed (by kernel_rfl) rfl (by kernel_rfl) (po_then (po_bp)) (sameH_now _ _) ?_ -- region 3 compm.go:123
  refine ql_ro rfl (fun w hS => ro_move rfl) ?_
  refine ql_ro rfl (fun w hS => ro_move rfl) ?_
  refine ql_ro rfl (fun w hS => ro_nilCheck rfl) ?_
  refine ql_ro rfl (fun w hS => ro_fieldAddr (k := 4) rfl fo_126_4) ?_
  refine ql_ro rfl (fun w hS => ro_loadB rfl sc_83 (Blk.of_heap (by assumption) hS) rfl) ?_
  refine ql_ro rfl (fun w hS => ro_move rfl) ?_
  refine ql_ro rfl (fun w hS => ro_nilCheck rfl) ?_
  refine ql_ro rfl (fun w hS => ro_fieldAddr (k := 4) rfl fo_126_4) ?_
  refine ql_ro rfl (fun w hS => ro_loadB rfl sc_83 (Blk.of_heap (by assumption) hS) rfl) ?_
  refine ql_ro rfl (fun w hS => ro_lenL rfl se_83) ?_
  refine ql_ro rfl (fun w hS => ro_arith rfl rfl rfl (Go.IntWalk.i64_in _ (by omega))) ?_
  refine ql_ro rfl (fun w hS => ro_sliceH (h := s.th.vals.length - 1) rfl rfl se_83 (by omega) (by omega)) ?_
  refine ql_ro rfl (fun w hS => ro_nilCheck rfl) ?_
  refine ql_ro rfl (fun w hS => ro_fieldAddr (k := 4) rfl fo_126_4) ?_
  refine ql_put rfl rfl rfl rfl sz_83 hB ((by simp)) (rfl) (fun w4 hB F4 => ?_)
  replace hF := hF.thenDrew.thenO F4 (by first | exact .inr (by omega) | exact .inl rfl | exact .inl (by assumption) | assumption)
  replace h2 := F4.blkO h2 (by first | omega | exact ow_ne (by assumption) (by assumption) (by omega))
  replace h4 := F4.blkO h4 (by first | omega | exact ow_ne (by assumption) (by assumption) (by omega))
  have hR2 := hR.cutV hb hT.t (hT.ts.far hF0 (fun _ _ _ q => q) (Xt.refl _ _)) (hT.vs.far hF0 (fun _ _ _ q => q) (Xt.refl _ _)) 1 ((Fram.refl (one b) _).thenDrew.thenO F4 (.inl rfl)) hB
  replace hR := hR2
  refine x_then (hK4 _ _ ?_)
  clear hK4 K4
  refine forget [(2, _), (4, _)] ⟨rfl, rfl, trivial⟩ (fun e => ?_)
  refine c_seq (fun K5 hK5 => ?_)
  refine c_reg ?_ -- region 4 compm.go:124
  refine wl (ro_loadAggB rfl ag_119 (by assumption) rfl rfl) ?_
  refine wl_puta rfl rfl ((pvc_one _)) sz_119 (rfl) h2 ((by simp)) (rfl) (fun w5 h2 F5 => ?_)
  replace hF := hF.thenDrew.thenO F5 (by first | exact .inr (by omega) | exact .inl rfl | exact .inl (by assumption) | assumption)
  replace h4 := F5.blkO h4 (by first | omega | exact ow_ne (by assumption) (by assumption) (by omega))
  replace hR := hR.hbput ((Fram.refl (one b2) _).thenDrew.thenO F5 (.inl rfl))
  refine wl_nil (x_then (hK5 _ _ ?_))
  clear hK5 K5
  refine c_ret ?_
  refine bq_ret (res1 Tryz.results59 (rv_c rfl ag_119 (h2) (rfl))) ?_
  exact ⟨rfl, ow, Xt.refl _ _, hF, hR⟩

set_option maxHeartbeats 4000000 in
theorem finish109 {G : Arena} {root : Nat} {np : Value} {tb rb : Nat} {nv : Value} {w : World} {ow : Nat → Nat} {β τ : List Nat} {m : Nat} {s : IS} (hR : RM G root np tb rb nv w ow β τ m s) {e : Nat} {tl : Str} :
    Ret Tryz.prog 109 [ptr rb, i64c e, S tl] w (fun r w' => r = .tuple #[] ∧ RP G root np tb rb nv w ow β τ m (ifin e tl s) w') := by
  obtain ⟨cv, hv, a0, a1, a2, a3, a4, hX0, q2, q3, q4⟩ := hR.r
  have hF : Fram (tg ow cmT) w w := Fram.refl _ _
  have hG : Fram (one rb) w w := Fram.refl _ _
  have hmr := hR.mem_r
  have hX := hX0
  unfold rnc at hX
  refine ret_of Tryz.func109 rfl Tryz.ntmps109 rfl ?_
  refine c_seq (fun K1 hK1 => ?_)
  refine c_reg ?_ -- region 0 compm.go:133
  refine wl (ro_move rfl) ?_
  refine wl (ro_nilCheck rfl) ?_
  refine wl (ro_fieldAddr (k := 16) rfl fo_112_12) ?_
  refine wl_put rfl rfl rfl sz_4 hX ((by simp)) (rfl) (fun w1 hX F1 => ?_)
  replace hF := hF.thenDrew.thenO F1 (by first | exact .inr (by omega) | exact .inl rfl | exact .inl (by assumption) | assumption)
  replace hG := hG.thenDrew.thenO F1 (by first | exact .inr (by omega) | exact .inl rfl | exact .inl (by assumption) | assumption)
  refine wl_nil (x_then (hK1 _ _ ?_))
  clear hK1 K1
  refine c_piL 18 [(0, false), (1, false), (2, false), (3, false), (4, false), (5, false), (6, false), (7, false), (8, false), (9, false), (10, false), (11, false), (12, false), (13, false), (14, false), (15, false), (16, false), (17, false)] (SameH _) mixed (by kernel_rfl) rfl (by kernel_rfl) (po_bp) (sameH_now _ _) ?_ -- region 1 compm.go:134
  refine ql_ro rfl (fun w hS => ro_move rfl) ?_
  refine ql_ro rfl (fun w hS => ro_move rfl) ?_
  refine ql_ro rfl (fun w hS => ro_move rfl) ?_
  refine ql_ro rfl (fun w hS => ro_nilCheck rfl) ?_
  refine ql_ro rfl (fun w hS => ro_fieldAddr (k := 13) rfl fo_112_9) ?_
  refine ql_ro rfl (fun w hS => ro_loadB rfl sc_3 (Blk.of_heap (by assumption) hS) rfl) ?_
  refine ql_ro rfl (fun w hS => ro_move rfl) ?_
  refine ql_ro rfl (fun w hS => ro_nilCheck rfl) ?_
  refine ql_ro rfl (fun w hS => ro_fieldAddr (k := 14) rfl fo_112_10) ?_
  refine ql_ro rfl (fun w hS => ro_loadB rfl sc_3 (Blk.of_heap (by assumption) hS) rfl) ?_
  refine ql_ro rfl (fun w hS => ro_move rfl) ?_
  refine ql_ro rfl (fun w hS => ro_nilCheck rfl) ?_
  refine ql_ro rfl (fun w hS => ro_fieldAddr (k := 15) rfl fo_112_11) ?_
  refine ql_ro rfl (fun w hS => ro_loadB rfl sc_9 (Blk.of_heap (by assumption) hS) rfl) ?_
  refine ql_ro rfl (fun w hS => ro_move rfl) ?_
  refine ql_ro rfl (fun w hS => ro_build rfl bld_56_0_1_2_3_4) ?_
  refine ql_ro rfl (fun w hS => ro_nilCheck rfl) ?_
  refine ql_ro rfl (fun w hS => ro_fieldAddr (k := 17) rfl fo_112_13) ?_
  refine ql_puta rfl rfl rfl ((by simp [Value.oneCell', i64c, S])) sz_56 (rfl) hX ((by simp)) (rfl) (fun w2 hX F2 => ?_)
  replace hF := hF.thenDrew.thenO F2 (by first | exact .inr (by omega) | exact .inl rfl | exact .inl (by assumption) | assumption)
  replace hG := hG.thenDrew.thenO F2 (by first | exact .inr (by omega) | exact .inl rfl | exact .inl (by assumption) | assumption)
  refine ?_
  refine bp_end Tryz.results109 rfl ?_
  exact ⟨rfl, ow, Xt.refl _ _, hF, hR.turnR hG (s' := ifin e tl s) rfl rfl rfl rfl (c' := hv) (v' := hv) hX0 hX q4 hR.cl hR.sk hR.fu⟩

set_option maxHeartbeats 4000000 in
theorem burn63 {G : Arena} {root : Nat} {np : Value} {tb rb : Nat} {nv : Value} {w : World} {ow : Nat → Nat} {β τ : List Nat} {m : Nat} {s : IS} (hR : RM G root np tb rb nv w ow β τ m s) :
    Ret Tryz.prog 63 [ptr rb] w (fun r w' => r = .bool (decide (s.fuel ≠ 0)) ∧ RP G root np tb rb nv w ow β τ m (iburn s) w') := by
  obtain ⟨cv, hv, a0, a1, a2, a3, a4, hX0, q2, q3, q4⟩ := hR.r
  have hF : Fram (tg ow cmT) w w := Fram.refl _ _
  have hX : Xt w ow ow := Xt.refl _ _
  have hG : Fram (one rb) w w := Fram.refl _ _
  have hmr := hR.mem_r
  have hfu := hR.fu
  have hXr := hX0
  unfold rnc at hXr
  refine ret_of Tryz.func63 rfl Tryz.ntmps63 rfl ?_
  refine c_seq (fun K1 hK1 => ?_)
  refine c_reg ?_ -- region 0 compm.go:138
  refine wl (ro_assign rfl) ?_
  refine wl_nil (x_then (hK1 _ _ ?_))
  clear hK1 K1
  refine c_seq (fun K2 hK2 => ?_)
  refine c_seq (fun K3 hK3 => ?_)
  refine c_reg ?_ -- region 1 compm.go:139
  refine wl (ro_move rfl) ?_
  refine wl (ro_nilCheck rfl) ?_
  refine wl (ro_fieldAddr (k := 13) rfl fo_112_9) ?_
  refine wl (ro_loadB rfl sc_3 (by assumption) rfl) ?_
  refine wl (ro_cmp rfl rfl rfl) ?_
  refine wl_nil (x_then (hK3 _ _ ?_))
  clear hK3 K3
  refine wc_cond rfl (fun hc7 => ?_) (fun hc7 => ?_)
  · try simp only [decide_eq_true_eq, decide_eq_false_iff_not, Bool.not_eq_true', Bool.not_eq_false', Bool.not_eq_eq_eq_not, Bool.not_true, Bool.not_false, beq_iff_eq, bne_iff_ne, ne_eq, beq_eq_false_iff_ne, bne_eq_false_iff_eq, gt_iff_lt, ge_iff_le, Int.not_lt, Int.not_le] at hc7
    refine c_seq (fun K4 hK4 => ?_)
    refine c_reg ?_ -- region 2 compm.go:140
    refine wl (ro_move rfl) ?_
    refine wl_call rfl en_109 (finish109 hR.dr) ?_
    rintro _ u1 ⟨rfl, ow1, x1, f1, r1⟩
    have hs1 := hF.size
    replace hF := cm_trans hX hF f1
    replace hX := hX.trans hs1 x1
    replace hR := r1
    refine wl_nil (x_then (hK4 _ _ ?_))
    clear hK4 K4
    refine forget [] trivial (fun e => ?_)
    refine c_seq (fun K5 hK5 => ?_)
    refine c_reg ?_ -- region 3 compm.go:141
    refine wl (ro_assign rfl) ?_
    refine wl_nil (x_then (hK5 _ _ ?_))
    clear hK5 K5
    refine c_ret (x_thenR ?_)
    refine bp_ret Tryz.results63 rfl ?_
    refine ⟨by rw [decide_eq_false (by omega)], _, hX, hF, ?_⟩
    unfold iburn
    rw [if_pos (by omega)]
    exact hR
  · try simp only [decide_eq_true_eq, decide_eq_false_iff_not, Bool.not_eq_true', Bool.not_eq_false', Bool.not_eq_eq_eq_not, Bool.not_true, Bool.not_false, beq_iff_eq, bne_iff_ne, ne_eq, beq_eq_false_iff_ne, bne_eq_false_iff_eq, gt_iff_lt, ge_iff_le, Int.not_lt, Int.not_le] at hc7
    refine c_skip (x_then (hK2 _ _ ?_))
    clear hK2 K2
    refine forget [(0, _)] ⟨rfl, trivial⟩ (fun e => ?_)
    refine c_seq (fun K6 hK6 => ?_)
    refine c_reg ?_ -- region 4 compm.go:143
    refine wl (ro_move rfl) ?_
    refine wl (ro_nilCheck rfl) ?_
    refine wl (ro_fieldAddr (k := 13) rfl fo_112_9) ?_
    refine wl (ro_loadB rfl sc_3 (by assumption) rfl) ?_
    refine wl (ro_arith rfl rfl rfl (Go.IntWalk.i64_in _ (by omega))) ?_
    refine wl (ro_nilCheck rfl) ?_
    refine wl (ro_fieldAddr (k := 13) rfl fo_112_9) ?_
    refine wl_put rfl rfl rfl sz_3 hXr ((by simp)) (rfl) (fun w2 hXr F2 => ?_)
    replace hF := hF.thenDrew.thenO F2 (by first | exact .inr (by omega) | exact .inl rfl | exact .inl (by assumption) | assumption)
    replace hG := hG.thenDrew.thenO F2 (by first | exact .inr (by omega) | exact .inl rfl | exact .inl (by assumption) | assumption)
    refine wl_nil (x_then (hK6 _ _ ?_))
    clear hK6 K6
    refine forget [] trivial (fun e => ?_)
    refine c_seq (fun K7 hK7 => ?_)
    refine c_reg ?_ -- region 5 compm.go:144
    refine wl (ro_assign rfl) ?_
    refine wl_nil (x_then (hK7 _ _ ?_))
    clear hK7 K7
    refine c_ret ?_
    refine bp_ret Tryz.results63 rfl ?_
    refine ⟨by rw [decide_eq_true (by omega)], ow, Xt.refl _ _, hF, ?_⟩
    unfold iburn
    rw [if_neg (by omega)]
    have e : ((s.fuel : Int) - 1) = ((s.fuel - 1 : Nat) : Int) := by omega
    rw [e] at hXr
    exact hR.turnR hG (s' := { s with fuel := s.fuel - 1 }) rfl rfl rfl rfl (c' := hv) (v' := hv) hX0 hXr q4 hR.cl hR.sk (by show s.fuel - 1 < _; omega)

theorem pushBool124 {G : Arena} {root : Nat} {np : Value} {tb rb : Nat} {nv : Value} {w : World} {ow : Nat → Nat} {β τ : List Nat} {m : Nat} {s : IS} (hR : RM G root np tb rb nv w ow β τ m s) {b : Bool} (hm : m ≤ 20000) :
    Ret Tryz.prog 124 [ptr rb, .bool b] w (fun r w' => r = .tuple #[] ∧ RP G root np tb rb nv w ow β τ (m + 1) (ipush (vBool b) s) w') := by
  have hF : Fram (tg ow cmT) w w := Fram.refl _ _
  have hX : Xt w ow ow := Xt.refl _ _
  refine ret_of Tryz.func124 rfl Tryz.ntmps124 rfl ?_
  refine c_seq (fun K1 hK1 => ?_)
  refine c_seq (fun K2 hK2 => ?_)
  refine c_reg ?_ -- region 0 compm.go:109
  refine wl (ro_move rfl) ?_
  refine wl_nil (x_then (hK2 _ _ ?_))
  clear hK2 K2
  refine wc_cond rfl (fun hc4 => ?_) (fun hc4 => ?_)
  · try simp only [decide_eq_true_eq, decide_eq_false_iff_not, Bool.not_eq_true', Bool.not_eq_false', Bool.not_eq_eq_eq_not, Bool.not_true, Bool.not_false, beq_iff_eq, bne_iff_ne, ne_eq, beq_eq_false_iff_ne, bne_eq_false_iff_eq, gt_iff_lt, ge_iff_le, Int.not_lt, Int.not_le] at hc4
    refine c_seq (fun K3 hK3 => ?_)
    refine c_reg ?_ -- region 1 compm.go:110
    refine wl (ro_move rfl) ?_
    refine wl (ro_build rfl bld_119_0_1) ?_
    refine wl_call rfl en_67 (push67 (v := vBool true) hR.dr hm) ?_
    rintro _ u1 ⟨rfl, ow1, x1, f1, r1⟩
    have hs1 := hF.size
    replace hF := cm_trans hX hF f1
    replace hX := hX.trans hs1 x1
    replace hR := r1
    refine wl_nil (x_then (hK3 _ _ ?_))
    clear hK3 K3
    refine c_ret (x_thenR ?_)
    refine bp_ret Tryz.results124 rfl ?_
    have hc4 : b = true := by simpa using hc4
    subst hc4
    exact ⟨rfl, _, hX, hF, hR⟩
  · try simp only [decide_eq_true_eq, decide_eq_false_iff_not, Bool.not_eq_true', Bool.not_eq_false', Bool.not_eq_eq_eq_not, Bool.not_true, Bool.not_false, beq_iff_eq, bne_iff_ne, ne_eq, beq_eq_false_iff_ne, bne_eq_false_iff_eq, gt_iff_lt, ge_iff_le, Int.not_lt, Int.not_le] at hc4
    refine c_skip (x_then (hK1 _ _ ?_))
    clear hK1 K1
    refine c_reg ?_ -- region 2 compm.go:113
    refine wl (ro_move rfl) ?_
    refine wl (ro_build rfl bld_119_0) ?_
    refine wl_call rfl en_67 (push67 (v := vBool false) hR.dr hm) ?_
    rintro _ u2 ⟨rfl, ow2, x2, f2, r2⟩
    have hs2 := hF.size
    replace hF := cm_trans hX hF f2
    replace hX := hX.trans hs2 x2
    replace hR := r2
    refine wl_nil ?_
    refine bp_end Tryz.results124 rfl ?_
    have hc4 : b = false := by simpa using hc4
    subst hc4
    exact ⟨rfl, _, hX, hF, hR⟩
theorem pushStr108 {G : Arena} {root : Nat} {np : Value} {tb rb : Nat} {nv : Value} {w : World} {ow : Nat → Nat} {β τ : List Nat} {m : Nat} {s : IS} (hR : RM G root np tb rb nv w ow β τ m s) {z : Str} (hm : m ≤ 20000) :
    Ret Tryz.prog 108 [ptr rb, S z] w (fun r w' => r = .tuple #[] ∧ RP G root np tb rb nv w ow β τ (m + 1) (ipush (vStr z) s) w') := by
  have hF : Fram (tg ow cmT) w w := Fram.refl _ _
  have hX : Xt w ow ow := Xt.refl _ _
  refine ret_of Tryz.func108 rfl Tryz.ntmps108 rfl ?_
  refine c_reg ?_ -- region 0 compm.go:116
  refine wl (ro_move rfl) ?_
  refine wl (ro_move rfl) ?_
  refine wl (ro_build rfl bld_119_0_2) ?_
  refine wl_call rfl en_67 (push67 (v := vStr z) hR.dr hm) ?_
  rintro _ u1 ⟨rfl, ow1, x1, f1, r1⟩
  have hs1 := hF.size
  replace hF := cm_trans hX hF f1
  replace hX := hX.trans hs1 x1
  replace hR := r1
  refine wl_nil ?_
  refine bp_end Tryz.results108 rfl ?_
  exact ⟨rfl, _, hX, hF, hR⟩

theorem find_fuel {es : List Env} {nm : Str} (hu : ∀ (k : Nat) (z : Env), es[k]? = some z → z.up ≤ k) : ∀ (f e : Nat), e < f → ∀ f', e < f' → findE f es e nm = findE f' es e nm
  | 0, e, h, _, _ => absurd h (Nat.not_lt_zero _)
  | f + 1, e, h, 0, h' => absurd h' (Nat.not_lt_zero _)
  | f + 1, e, h, f' + 1, h' => by
    unfold findE
    by_cases h0 : e = 0
    · rw [if_pos h0, if_pos h0]
    · rw [if_neg h0, if_neg h0]
      cases hx : es[e - 1]? with
      | none => rfl
      | some x =>
        have := hu _ _ hx
        simp only
        rw [find_fuel hu f x.up (by omega) f' (by omega)]
theorem RM.find_eq {G : Arena} {root : Nat} {np : Value} {tb rb : Nat} {nv : Value} {w : World} {ow : Nat → Nat} {β τ : List Nat} {m : Nat} {s : IS} (hR : RM G root np tb rb nv w ow β τ m s) {e : Nat} {nm : Str} (he : e ≤ β.length) : s.find e nm = findE (e + 1) s.envs e nm := find_fuel hR.up _ _ (by have := hR.el; omega) _ (by omega)
theorem find_le {es : List Env} {nm : Str} (hu : ∀ (k : Nat) (z : Env), es[k]? = some z → z.up ≤ k) : ∀ (f e : Nat), findE f es e nm ≤ e
  | 0, e => Nat.zero_le _
  | f + 1, e => by
    unfold findE
    by_cases h0 : e = 0
    · rw [if_pos h0]; exact Nat.zero_le _
    · rw [if_neg h0]
      cases hx : es[e - 1]? with
      | none => exact Nat.zero_le _
      | some x =>
        have := hu _ _ hx
        simp only
        split
        · exact Nat.le_refl _
        · have := find_le hu f x.up (nm := nm); omega
set_option maxHeartbeats 4000000 in
theorem find60 {G : Arena} {root : Nat} {np : Value} {tb rb : Nat} {nv : Value} {w : World} {ow : Nat → Nat} {β τ : List Nat} {m : Nat} {s : IS} (hR : RM G root np tb rb nv w ow β τ m s) {e0 : Nat} {o : Option Addr} {nm : Str} (he : EP β e0 o) :
    Ret Tryz.prog 60 [.pointer o, S nm] w (fun r w' => r = .pointer (epo β (s.find e0 nm)) ∧ w' = w) := by
  obtain ⟨rfl, he⟩ := he
  rw [hR.find_eq he]
  refine ret_of Tryz.func60 rfl Tryz.ntmps60 rfl ?_
  refine c_seq (fun K1 hK1 => ?_)
  refine c_reg ?_ -- region 0 compm.go:234
  refine wl (ro_assign rfl) ?_
  refine wl_nil (x_then (hK1 _ _ ?_))
  clear hK1 K1
  refine forget [(0, _), (1, _)] ⟨rfl, rfl, trivial⟩ (fun e => ?_)
  refine c_seq (fun K2 hK2 => ?_)
  refine c_block ?_
  -- loop@r1: live slots [0, 1]
  refine c_loopG (fun m a' w' => ∃ e', m = e' ∧ e' ≤ β.length ∧ findE (e' + 1) s.envs e' nm = findE (e0 + 1) s.envs e0 nm ∧ w' = w ∧ ∃ e, a' = Fr 20 (upds e [(0, .pointer (epo β e')), (1, S nm)]) []) e0 ⟨e0, rfl, he, rfl, rfl, kp _ ⟨rfl, rfl, trivial⟩⟩ ?_
  rintro m a' u1 ⟨e', rfl, hle, hfe, rfl, e, rfl⟩
  refine c_seq (fun K3 hK3 => ?_)
  refine c_seq (fun K4 hK4 => ?_)
  rcases Nat.eq_zero_or_pos m with h0 | h0
  · skip
    subst h0
    refine c_reg ?_ -- region 1 compm.go:235
    refine wl (ro_move rfl) ?_
    refine wl (ro_eqPtrNil rfl pt_120 rfl) ?_
    refine wl (ro_move rfl) ?_
    refine wlg_no rfl ?_
    refine wlg_no rfl ?_
    refine wlg_no rfl ?_
    refine wlg_no rfl ?_
    refine wlg_no rfl ?_
    refine wlg_no rfl ?_
    refine wl (ro_pick rfl rfl rfl) ?_
    refine wl_nil (x_then (hK4 _ _ ?_))
    clear hK4 K4
    refine wc_condF rfl ?_
    refine c_exit (x_thenX (x_thenX (x_blkX (x_then (hK2 _ _ ?_)))))
    clear hK3 K3 hK2 K2
    refine forget [(0, _)] ⟨rfl, trivial⟩ (fun e => ?_)
    refine c_seq (fun K5 hK5 => ?_)
    refine c_reg ?_ -- region 3 compm.go:238
    refine wl (ro_move rfl) ?_
    refine wl (ro_assign rfl) ?_
    refine wl_nil (x_then (hK5 _ _ ?_))
    clear hK5 K5
    refine c_ret ?_
    refine bp_ret Tryz.results60 rfl ?_
    exact ⟨by rw [← hfe]; rfl, rfl⟩
  · skip
    obtain ⟨k, rfl⟩ : ∃ k, m = k + 1 := ⟨m - 1, by omega⟩
    obtain ⟨z, hz⟩ : ∃ z, s.envs[k]? = some z := ⟨_, List.getElem?_eq_getElem (by have := hR.el; omega)⟩
    obtain ⟨b, hb, hE, ht⟩ := hR.E k z hz
    have heb := epo_pos hb
    rw [heb]
    have hup := hR.up k z hz
    have hst : findE (k + 1 + 1) s.envs (k + 1) nm = if z.name = nm then k + 1 else findE (k + 1) s.envs z.up nm := by
      rw [findE, if_neg (by omega), Nat.add_sub_cancel, hz]
    refine c_reg ?_ -- region 1 compm.go:235
    refine wl (ro_move rfl) ?_
    refine wl (ro_eqPtrNil rfl pt_120 rfl) ?_
    refine wl (ro_move rfl) ?_
    refine wlg_yes rfl (ro_move rfl) ?_
    refine wlg_yes rfl (ro_nilCheck rfl) ?_
    refine wlg_yes rfl (ro_fieldAddr (k := 0) rfl fo_159_0) ?_
    refine wlg_yes rfl (ro_loadB rfl sc_9 (by assumption) rfl) ?_
    refine wlg_yes rfl (ro_move rfl) ?_
    refine wlg_yes rfl (ro_eqS rfl rfl rfl) ?_
    refine wl (ro_pick rfl rfl rfl) ?_
    refine wl_nil (x_then (hK4 _ _ ?_))
    clear hK4 K4
    refine wc_cond rfl (fun hc14 => ?_) (fun hc14 => ?_)
    · try simp only [decide_eq_true_eq, decide_eq_false_iff_not, Bool.not_eq_true', Bool.not_eq_false', Bool.not_eq_eq_eq_not, Bool.not_true, Bool.not_false, beq_iff_eq, bne_iff_ne, ne_eq, beq_eq_false_iff_ne, bne_eq_false_iff_eq, gt_iff_lt, ge_iff_le, Int.not_lt, Int.not_le] at hc14
      refine c_skip (x_then (hK3 _ _ ?_))
      clear hK3 K3
      refine c_block ?_
      refine c_reg ?_ -- region 2 compm.go:236
      refine wl (ro_move rfl) ?_
      refine wl (ro_nilCheck rfl) ?_
      refine wl (ro_fieldAddr (k := 4) rfl fo_159_2) ?_
      refine wl (ro_loadB rfl sc_120 (by assumption) rfl) ?_
      refine wl (ro_assign rfl) ?_
      refine wl_nil (x_blk (x_then ?_))
      refine ⟨z.up, by omega, z.up, rfl, by omega, ?_, rfl, kp _ ⟨rfl, rfl, trivial⟩⟩
      rw [← hfe, hst, if_neg hc14]
      exact find_fuel hR.up _ _ (by omega) _ (by omega)
    · try simp only [decide_eq_true_eq, decide_eq_false_iff_not, Bool.not_eq_true', Bool.not_eq_false', Bool.not_eq_eq_eq_not, Bool.not_true, Bool.not_false, beq_iff_eq, bne_iff_ne, ne_eq, beq_eq_false_iff_ne, bne_eq_false_iff_eq, gt_iff_lt, ge_iff_le, Int.not_lt, Int.not_le] at hc14
      refine c_exit (x_thenX (x_thenX (x_blkX (x_then (hK2 _ _ ?_)))))
      clear hK3 K3 hK2 K2
      refine forget [(0, _)] ⟨rfl, trivial⟩ (fun e => ?_)
      refine c_seq (fun K6 hK6 => ?_)
      refine c_reg ?_ -- region 3 compm.go:238
      refine wl (ro_move rfl) ?_
      refine wl (ro_assign rfl) ?_
      refine wl_nil (x_then (hK6 _ _ ?_))
      clear hK6 K6
      refine c_ret ?_
      refine bp_ret Tryz.results60 rfl ?_
      refine ⟨?_, rfl⟩
      rw [← hfe, hst, if_pos hc14, heb]

end Go.Proofs.Qxb6500568aGreatDoor
