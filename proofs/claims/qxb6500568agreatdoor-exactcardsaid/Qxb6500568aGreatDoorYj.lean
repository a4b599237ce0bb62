import Derived.Test.Qxb6500568aGreatDoorYi
/- The interpreter: throw, raise, ret. -/
namespace Go.Proofs.Qxb6500568aGreatDoor
open Ieee
set_option linter.unusedVariables false
set_option linter.unusedSimpArgs false
set_option linter.unusedSectionVars false

section
variable {G : Arena} {root : Nat} {np : Value} {tb rb : Nat} {nv : Value} {w w' : World} {ow : Nat → Nat} {β τ : List Nat} {m : Nat} {s : IS} {b : Nat} {v : PV}
theorem setT_setT (s : IS) (a b : ITh) : (s.setT a).setT b = s.setT b := by simp [IS.setT]
theorem setT_self (hc : s.cur < s.ths.length) : s.setT s.th = s := by
  have : s.ths.set s.cur s.th = s.ths := by
    apply List.ext_getElem?
    intro j
    rw [List.getElem?_set]
    by_cases e : s.cur = j
    · subst e; rw [if_pos rfl, if_pos hc, th_at hc]
    · rw [if_neg e]
  unfold IS.setT
  rw [this]
theorem push_setT (hc : s.cur < s.ths.length) (y : ITh) (v : PV) : ipush v (s.setT y) = s.setT { y with vals := v :: y.vals } := by
  unfold ipush
  rw [th_setT hc, setT_setT]
theorem RM.thb (hR : RM G root np tb rb nv w ow β τ m s) (hb : τ[s.cur]? = some b) : ∃ tv vv, ThV w ow s.cur β s.th b tv vv := by
  obtain ⟨b', tv, vv, h1, h2⟩ := hR.T s.cur s.th (th_at hR.cl)
  rw [hb] at h1
  cases h1
  exact ⟨tv, vv, h2⟩
theorem RM.thbT (hc : s.cur < s.ths.length) {y : ITh} (hR : RM G root np tb rb nv w ow β τ m (s.setT y)) (hb : τ[s.cur]? = some b) : ∃ tv vv, ThV w ow s.cur β y b tv vv := by
  obtain ⟨tv, vv, h⟩ := hR.thb hb
  rw [th_setT hc] at h
  exact ⟨tv, vv, h⟩
theorem RM.thrT (hc : s.cur < s.ths.length) {y : ITh} (h : RM G root np tb rb nv w ow β τ m (s.setT y)) (hb : τ[s.cur]? = some b) (hk : ow b = 75 + s.cur) {y' : ITh} {tv' vv' : Value} (ht : OwT w ow (80 + s.cur) tv' 161 4 y'.tasks.length (rws (tsc β) y'.tasks.reverse)) (hv : OwT w ow (85 + s.cur) vv' 119 3 y'.vals.length (rws pvc y'.vals.reverse))
    (f : Fram (one b) w w') (hB : Blk w'.heap b [i64c y'.st, i64c y'.fn, i64c y'.depth, tv', vv'] 126) (hte : ∀ t ∈ y'.tasks, t.e ≤ s.envs.length) (hl : y'.tasks.length ≤ m ∧ y'.vals.length ≤ m) : RM G root np tb rb nv w' ow β τ m (s.setT y') := by
  have := RM.thr' h hb hk ht hv f hB hte hl
  rw [setT_setT] at this
  exact this
theorem OwT.capge {tag : Nat} {a : Option Addr} {e k n cap : Nat} {xs : List Value} (h : OwT w ow tag (.slice a n cap) e k n xs) : n ≤ cap := by
  rcases h.o.2 with ⟨h1, _⟩ | ⟨g, c, l, h1, _, h3, _⟩
  · cases h1; exact Nat.le_refl _
  · cases h1; exact h3
theorem OwT.cutTo {tag cap : Nat} {a : Option Addr} {L : List PV} (h : OwT w ow tag (.slice a L.length cap) 119 3 L.length (rws pvc L.reverse)) {x : Nat} (hx : x ≤ L.length) : OwT w ow tag (.slice a x cap) 119 3 (cutTo x L).length (rws pvc (cutTo x L).reverse) := by
  have := h.dropR pvc_len (L.length - x)
  rw [show L.length - (L.length - x) = x by omega] at this
  exact this
theorem wf_len {v : PV} (hv : wfV v = true) : v.S.length ≤ 40 := by
  unfold wfV at hv
  split at hv
  · simp at hv; exact hv.2
  · split at hv
    · rename_i h3; rw [h3.1]; simp
    · cases hv
theorem nR_le : ∀ (T : List Tk), nR T ≤ T.length
  | [] => Nat.le_refl _
  | t :: r => by
    have := nR_le r
    rw [nR, List.length_cons]
    split <;> omega
/-- what a return needs of the thread at hand. -/
structure RtP (s : IS) : Prop where
  d : s.th.depth = nR s.th.tasks
  x : ∀ t ∈ s.th.tasks, t.k = 3 → t.x ≤ s.th.vals.length
  k : ∀ c ∈ s.stack, c < s.ths.length
end

set_option maxHeartbeats 4000000 in
theorem throw111 {G : Arena} {root : Nat} {np : Value} {tb rb : Nat} {nv : Value} {w : World} {ow : Nat → Nat} {β τ : List Nat} {m : Nat} {s : IS} (hR : RM G root np tb rb nv w ow β τ m s) {v : PV} (hv : wfV v = true) (hN : W64 v.N) (hP : RtP s) (hm : m ≤ 19990) :
    Ret Tryz.prog 111 [ptr rb, pv v] w (fun r w' => r = .tuple #[] ∧ RP G root np tb rb nv w ow β τ (m + 2) (ithrow v s) w') := by
  have hF : Fram (tg ow cmT) w w := Fram.refl _ _
  have hX : Xt w ow ow := Xt.refl _ _
  obtain ⟨cv, a0, a1, a2, a3, a4, g, cap, l, b, tv0, vv0, hXr, hO, hl, hcap, hb, hT0, hg⟩ := hR.open
  have hc := hR.cl
  have hkb := hT0.t
  have hmb := hR.mem_b hc hkb
  have hvm := hR.bdm.2
  unfold rnc at hXr
  refine ret_of Tryz.func111 rfl Tryz.ntmps111 rfl ?_
  refine c_seq (fun K1 hK1 => ?_)
  refine c_reg ?_ -- region 0 compm.go:165
  refine wl_box (cs := (pvc v)) rfl rfl (fun b3 w1 hbb3 h3 F1 => ?_)
  have hnerbb3 : rb < b3 := Nat.lt_of_lt_of_le hXr.lt hbb3
  have hnegb3 : g < b3 := Nat.lt_of_lt_of_le hO.lt hbb3
  have hbsb3 := Nat.le_trans hF.size hbb3
  have kh3 := hR.df b3 hbb3
  replace hXr := F1.blkN hXr
  replace hO := F1.blkN hO
  replace hF := hF.thenDrew.thenN F1
  replace hR := hR.thruN ((Fram.refl none' _).thenDrew.thenN F1)
  refine wl_nil (x_then (hK1 _ _ ?_))
  clear hK1 K1
  refine forget [(0, _), (3, _)] ⟨rfl, rfl, trivial⟩ (fun e => ?_)
  refine c_seq (fun K2 hK2 => ?_)
  refine c_pi [(0, false), (1, false), (2, false), (3, false), (4, false), (5, false), (6, false), (7, false), (8, false), (9, false), (10, false)] (SameH _) mixed (by kernel_rfl) rfl (by kernel_rfl) (po_then (po_bp)) (sameH_now _ _) ?_ -- region 1 compm.go:166
  refine pi_ro rfl (fun w hS => ro_move rfl) ?_
  refine pi_ro rfl (fun w hS => ro_nilCheck rfl) ?_
  refine pi_ro rfl (fun w hS => ro_fieldAddr (k := 5) rfl fo_112_5) ?_
  refine pi_ro rfl (fun w hS => ro_loadB rfl sc_109 (Blk.of_heap (by assumption) hS) rfl) ?_
  refine pi_ro rfl (fun w hS => ro_move rfl) ?_
  refine pi_ro rfl (fun w hS => ro_nilCheck rfl) ?_
  refine pi_ro rfl (fun w hS => ro_fieldAddr (k := 12) rfl fo_112_8) ?_
  refine pi_ro rfl (fun w hS => ro_loadB rfl sc_3 (Blk.of_heap (by assumption) hS) rfl) ?_
  refine pi_ro rfl (fun w hS => ro_indexAddr (et := 123) (k := 1) rfl rfl se_109 rfl (by omega)) ?_
  refine pi_ro rfl (fun w hS => ro_loadB rfl sc_123 (Blk.of_heap hO hS) (hl)) ?_
  refine pi_ro rfl (fun w hS => ro_assign rfl) ?_
  refine pi_nil (x_then (hK2 _ _ ?_))
  clear hK2 K2
  refine forget [(0, _), (3, _), (4, _)] ⟨rfl, rfl, rfl, trivial⟩ (fun e => ?_)
  refine c_seq (fun K3 hK3 => ?_)
  refine c_block ?_
  -- loop@r2: live slots [0, 3, 4]
  refine c_loopG (fun mm a' w' => ∃ T d, mm = T.length ∧ thrL T d = thrL s.th.tasks s.th.depth ∧ d = nR T ∧ (∀ t ∈ T, t.e ≤ s.envs.length) ∧ (∀ t ∈ T, t.k = 3 → t.x ≤ s.th.vals.length) ∧ T.length ≤ m ∧ Blk w'.heap b3 (pvc v) 119 ∧ Fram (tg ow cmT) w w' ∧ RM G root np tb rb nv w' ow β τ m (s.setT { s.th with tasks := T, depth := d }) ∧ ∃ e, a' = Fr 86 (upds e [(0, ptr rb), (3, ptr b3), (4, ptr b)]) []) s.th.tasks.length ⟨s.th.tasks, s.th.depth, rfl, rfl, hP.d, hR.tem, hP.x, hR.bdm.1, h3, hF.thenDrew, by rw [show ({ s.th with tasks := s.th.tasks, depth := s.th.depth } : ITh) = s.th from rfl, setT_self hc]; exact hR.thruN ((Fram.refl none' _).thenDrew), kp _ ⟨rfl, rfl, rfl, trivial⟩⟩ ?_
  clear hR h3 hF hXr hO
  rintro mm a' u1 ⟨T, d, rfl, hthr, hd, hte, hx, hTm, h3, hF, hR, e, rfl⟩
  obtain ⟨tv, vv, hT⟩ := RM.thbT hc hR hb
  have hB : Blk u1.heap b [i64c s.th.st, i64c s.th.fn, i64c d, tv, vv] 126 := hT.k
  have hts : OwT u1 ow (80 + s.cur) tv 161 4 T.length (rws (tsc β) T.reverse) := hT.ts
  have hvs : OwT u1 ow (85 + s.cur) vv 119 3 s.th.vals.length (rws pvc s.th.vals.reverse) := hT.vs
  clear hT
  have hQ := Fram.refl (one b) u1
  obtain ⟨ta, tc, rfl⟩ := hts.form
  obtain ⟨va, vc, rfl⟩ := hvs.form
  have hvc := hvs.capge
  refine c_seq (fun K4 hK4 => ?_)
  refine c_seq (fun K5 hK5 => ?_)
  refine c_reg ?_ -- region 2 compm.go:167
  refine wl (ro_move rfl) ?_
  refine wl (ro_nilCheck rfl) ?_
  refine wl (ro_fieldAddr (k := 3) rfl fo_126_3) ?_
  refine wl (ro_loadB rfl sc_124 (by assumption) rfl) ?_
  refine wl (ro_lenL rfl se_124) ?_
  refine wl (ro_cmp rfl rfl rfl) ?_
  refine wl_nil (x_then (hK5 _ _ ?_))
  clear hK5 K5
  refine wc_cond rfl (fun hc21 => ?_) (fun hc21 => ?_)
  · try simp only [decide_eq_true_eq, decide_eq_false_iff_not, Bool.not_eq_true', Bool.not_eq_false', Bool.not_eq_eq_eq_not, Bool.not_true, Bool.not_false, beq_iff_eq, bne_iff_ne, ne_eq, beq_eq_false_iff_ne, bne_eq_false_iff_eq, gt_iff_lt, ge_iff_le, Int.not_lt, Int.not_le] at hc21
    obtain ⟨t, r, rfl⟩ : ∃ t r, T = t :: r := by
      cases T with
      | nil => simp at hc21
      | cons t r => exact ⟨t, r, rfl⟩
    obtain ⟨gt, capt, lt, e1, hV, q1, q2, q3, q4⟩ := hts.atR (tsc_len β) (j := 0) rfl
    cases e1
    have htr : OwT u1 ow (80 + s.cur) (.slice (some ⟨gt, 0, none⟩) r.length tc) 161 4 r.length (rws (tsc β) r.reverse) := hts.dropR (tsc_len β) 1
    have hrl : (t :: r).length = r.length + 1 := rfl
    have hnl := nR_le (t :: r)
    have hte' : ∀ z ∈ r, z.e ≤ s.envs.length := fun z hz => hte z (List.mem_cons_of_mem _ hz)
    have hx' : ∀ z ∈ r, z.k = 3 → z.x ≤ s.th.vals.length := fun z hz => hx z (List.mem_cons_of_mem _ hz)
    refine c_skip (x_then (hK4 _ _ ?_))
    clear hK4 K4
    refine c_block ?_
    refine forget [(0, _), (3, _), (4, _)] ⟨rfl, rfl, rfl, trivial⟩ (fun e => ?_)
    refine c_seq (fun K6 hK6 => ?_)
    refine c_piL 13 [(0, false), (1, false), (2, false), (3, false), (4, false), (5, false), (6, false), (7, false), (8, false), (9, false), (10, false), (11, false), (12, true)] (fun u => Blk u.heap b [i64c s.th.st, i64c s.th.fn, i64c d, .slice (some ⟨gt, 0, none⟩) (t :: r).length tc, .slice va s.th.vals.length vc] 126 ∧ Blk u.heap gt lt 161) mixed (by kernel_rfl) rfl (by kernel_rfl) (po_then (po_blk (po_then (po_blk (po_then (po_bp)))))) (⟨hB, hV⟩) ?_ -- region 3 compm.go:168
    refine ql_ro rfl (fun w hS => ro_move rfl) ?_
    refine ql_ro rfl (fun w hS => ro_nilCheck rfl) ?_
    refine ql_ro rfl (fun w hS => ro_fieldAddr (k := 3) rfl fo_126_3) ?_
    refine ql_ro rfl (fun w hS => ro_loadB rfl sc_124 (hS.1) rfl) ?_
    refine ql_ro rfl (fun w hS => ro_move rfl) ?_
    refine ql_ro rfl (fun w hS => ro_nilCheck rfl) ?_
    refine ql_ro rfl (fun w hS => ro_fieldAddr (k := 3) rfl fo_126_3) ?_
    refine ql_ro rfl (fun w hS => ro_loadB rfl sc_124 (hS.1) rfl) ?_
    refine ql_ro rfl (fun w hS => ro_lenL rfl se_124) ?_
    refine ql_ro rfl (fun w hS => ro_arith rfl rfl rfl (Go.IntWalk.i64_in _ (by omega))) ?_
    refine ql_ro rfl (fun w hS => ro_indexAddr (et := 161) (k := 4) rfl rfl se_124 ((show (((t :: r).length : Int) - 1) = (((t :: r).length - 1 - 0 : Nat) : Int) by omega)) ((by omega))) ?_
    refine ql_ro rfl (fun w hS => ro_loadAggB rfl ag_161 (hS.2) (rfl) (q4)) ?_
    refine ql_new rfl ze_161 (fun w1 F ↦ ⟨F.blkN hB, F.blkN hV⟩) ?_
    intro b5 w2 hbb5 h5 F2
    have hbsb5 := Nat.le_trans hF.size hbb5
    have hbsb5 := Nat.le_trans hQ.size hbb5
    have hneb3b5 : b3 < b5 := Nat.lt_of_lt_of_le h3.lt hbb5
    have hnebb5 : b < b5 := Nat.lt_of_lt_of_le hB.lt hbb5
    have hnegtb5 : gt < b5 := Nat.lt_of_lt_of_le hV.lt hbb5
    replace hF := hF.thenDrew.thenN F2
    replace hQ := hQ.thenDrew.thenN F2
    replace h3 := F2.blkN h3
    replace hB := F2.blkN hB
    replace hV := F2.blkN hV
    refine ql_puta rfl rfl rfl ((tsc_one _ _)) sz_161 (rfl) h5 ((by simp)) (rfl) (fun w3 h5 F3 => ?_)
    replace hF := hF.thenDrew.thenO F3 (by first | exact .inr (by omega) | exact .inl rfl | exact .inl (by assumption) | assumption)
    replace hQ := hQ.thenDrew.thenO F3 (by first | exact .inr (by omega) | exact .inl rfl | exact .inl (by assumption) | assumption)
    replace h3 := F3.blkO h3 (by first | omega | exact ow_ne (by assumption) (by assumption) (by omega))
    replace hB := F3.blkO hB (by first | omega | exact ow_ne (by assumption) (by assumption) (by omega))
    replace hV := F3.blkO hV (by first | omega | exact ow_ne (by assumption) (by assumption) (by omega))
    refine x_then (hK6 _ _ ?_)
    clear hK6 K6
    refine forget [(0, _), (3, _), (4, _), (5, _)] ⟨rfl, rfl, rfl, rfl, trivial⟩ (fun e => ?_)
    refine c_seq (fun K7 hK7 => ?_)
    refine c_piL 14 [(0, false), (1, false), (2, false), (3, false), (4, false), (5, false), (6, false), (7, false), (8, false), (9, false), (10, false), (11, false), (12, false), (13, false)] (SameH _) mixed (by kernel_rfl) rfl (by kernel_rfl) (po_then (po_blk (po_then (po_blk (po_then (po_bp)))))) (sameH_now _ _) ?_ -- region 4 compm.go:169
    refine ql_ro rfl (fun w hS => ro_move rfl) ?_
    refine ql_ro rfl (fun w hS => ro_move rfl) ?_
    refine ql_ro rfl (fun w hS => ro_nilCheck rfl) ?_
    refine ql_ro rfl (fun w hS => ro_fieldAddr (k := 3) rfl fo_126_3) ?_
    refine ql_ro rfl (fun w hS => ro_loadB rfl sc_124 (Blk.of_heap (by assumption) hS) rfl) ?_
    refine ql_ro rfl (fun w hS => ro_move rfl) ?_
    refine ql_ro rfl (fun w hS => ro_nilCheck rfl) ?_
    refine ql_ro rfl (fun w hS => ro_fieldAddr (k := 3) rfl fo_126_3) ?_
    refine ql_ro rfl (fun w hS => ro_loadB rfl sc_124 (Blk.of_heap (by assumption) hS) rfl) ?_
    refine ql_ro rfl (fun w hS => ro_lenL rfl se_124) ?_
    refine ql_ro rfl (fun w hS => ro_arith rfl rfl rfl (Go.IntWalk.i64_in _ (by omega))) ?_
    refine ql_ro rfl (fun w hS => ro_sliceH (h := r.length) rfl rfl se_124 (by omega) (by omega)) ?_
    refine ql_ro rfl (fun w hS => ro_nilCheck rfl) ?_
    refine ql_ro rfl (fun w hS => ro_fieldAddr (k := 3) rfl fo_126_3) ?_
    refine ql_put rfl rfl rfl rfl sz_124 hB ((by simp)) (rfl) (fun w4 hB F4 => ?_)
    replace hF := hF.thenDrew.thenO F4 (by first | exact .inr (by omega) | exact .inl rfl | exact .inl (by assumption) | assumption)
    replace hQ := hQ.thenDrew.thenO F4 (by first | exact .inr (by omega) | exact .inl rfl | exact .inl (by assumption) | assumption)
    replace h3 := F4.blkO h3 (by first | omega | exact ow_ne (by assumption) (by assumption) (by omega))
    replace h5 := F4.blkO h5 (by first | omega | exact ow_ne (by assumption) (by assumption) (by omega))
    refine x_then (hK7 _ _ ?_)
    clear hK7 K7
    refine forget [(0, _), (3, _), (4, _), (5, _)] ⟨rfl, rfl, rfl, rfl, trivial⟩ (fun e => ?_)
    refine c_seq (fun K8 hK8 => ?_)
    refine c_reg ?_ -- region 5 compm.go:170
    refine wl (ro_fieldAddr (k := 0) rfl fo_161_0) ?_
    refine wl (ro_loadB rfl sc_3 (by assumption) rfl) ?_
    refine wl (ro_cmp rfl rfl rfl) ?_
    refine wl_nil (x_then (hK8 _ _ ?_))
    clear hK8 K8
    refine wc_cond rfl (fun hc50 => ?_) (fun hc50 => ?_)
    · try simp only [decide_eq_true_eq, decide_eq_false_iff_not, Bool.not_eq_true', Bool.not_eq_false', Bool.not_eq_eq_eq_not, Bool.not_true, Bool.not_false, beq_iff_eq, bne_iff_ne, ne_eq, beq_eq_false_iff_ne, bne_eq_false_iff_eq, gt_iff_lt, ge_iff_le, Int.not_lt, Int.not_le] at hc50
      have hk3 : t.k = 3 := by omega
      have hd1 : d = nR r + 1 := by rw [hd, nR, if_pos hk3]
      have hxt := hx t (by simp) hk3
      refine c_seq (fun K9 hK9 => ?_)
      refine c_reg ?_ -- region 6 compm.go:171
      refine wl (ro_move rfl) ?_
      refine wl (ro_nilCheck rfl) ?_
      refine wl (ro_fieldAddr (k := 2) rfl fo_126_2) ?_
      refine wl (ro_loadB rfl sc_3 (by assumption) rfl) ?_
      refine wl (ro_arith rfl rfl rfl (Go.IntWalk.i64_in _ (by omega))) ?_
      refine wl (ro_nilCheck rfl) ?_
      refine wl (ro_fieldAddr (k := 2) rfl fo_126_2) ?_
      refine wl_put rfl rfl rfl sz_3 hB ((by simp)) (rfl) (fun w5 hB F5 => ?_)
      replace hF := hF.thenDrew.thenO F5 (by first | exact .inr (by omega) | exact .inl rfl | exact .inl (by assumption) | assumption)
      replace hQ := hQ.thenDrew.thenO F5 (by first | exact .inr (by omega) | exact .inl rfl | exact .inl (by assumption) | assumption)
      replace h3 := F5.blkO h3 (by first | omega | exact ow_ne (by assumption) (by assumption) (by omega))
      replace h5 := F5.blkO h5 (by first | omega | exact ow_ne (by assumption) (by assumption) (by omega))
      have e6 : ((d : Int) - 1) = ((nR r : Nat) : Int) := by omega
      rw [e6] at hB
      refine wl_nil (x_then (hK9 _ _ ?_))
      clear hK9 K9
      refine forget [(0, _), (3, _), (4, _), (5, _)] ⟨rfl, rfl, rfl, rfl, trivial⟩ (fun e => ?_)
      refine c_seq (fun K10 hK10 => ?_)
      refine c_reg ?_ -- region 7 compm.go:172
      refine wl (ro_fieldAddr (k := 1) rfl fo_161_1) ?_
      refine wl (ro_loadB rfl sc_3 (by assumption) rfl) ?_
      refine wl (ro_cmp rfl rfl rfl) ?_
      refine wl_nil (x_then (hK10 _ _ ?_))
      clear hK10 K10
      refine wc_cond rfl (fun hc60 => ?_) (fun hc60 => ?_)
      · try simp only [decide_eq_true_eq, decide_eq_false_iff_not, Bool.not_eq_true', Bool.not_eq_false', Bool.not_eq_eq_eq_not, Bool.not_true, Bool.not_false, beq_iff_eq, bne_iff_ne, ne_eq, beq_eq_false_iff_ne, bne_eq_false_iff_eq, gt_iff_lt, ge_iff_le, Int.not_lt, Int.not_le] at hc60
        refine c_seq (fun K11 hK11 => ?_)
        refine c_piL 10 [(0, false), (1, false), (2, false), (3, false), (4, false), (5, false), (6, false), (7, false), (8, false), (9, false)] (SameH _) mixed (by kernel_rfl) rfl (by kernel_rfl) (po_then (po_blk (po_then (po_blk (po_then (po_bp)))))) (sameH_now _ _) ?_ -- region 8 compm.go:173
        refine ql_ro rfl (fun w hS => ro_move rfl) ?_
        refine ql_ro rfl (fun w hS => ro_move rfl) ?_
        refine ql_ro rfl (fun w hS => ro_nilCheck rfl) ?_
        refine ql_ro rfl (fun w hS => ro_fieldAddr (k := 4) rfl fo_126_4) ?_
        refine ql_ro rfl (fun w hS => ro_loadB rfl sc_83 (Blk.of_heap (by assumption) hS) rfl) ?_
        refine ql_ro rfl (fun w hS => ro_fieldAddr (k := 2) rfl fo_161_2) ?_
        refine ql_ro rfl (fun w hS => ro_loadB rfl sc_3 (Blk.of_heap (by assumption) hS) rfl) ?_
        refine ql_ro rfl (fun w hS => ro_sliceH (h := t.x) rfl rfl se_83 rfl (by omega)) ?_
        refine ql_ro rfl (fun w hS => ro_nilCheck rfl) ?_
        refine ql_ro rfl (fun w hS => ro_fieldAddr (k := 4) rfl fo_126_4) ?_
        refine ql_put rfl rfl rfl rfl sz_83 hB ((by simp)) (rfl) (fun w6 hB F6 => ?_)
        replace hF := hF.thenDrew.thenO F6 (by first | exact .inr (by omega) | exact .inl rfl | exact .inl (by assumption) | assumption)
        replace hQ := hQ.thenDrew.thenO F6 (by first | exact .inr (by omega) | exact .inl rfl | exact .inl (by assumption) | assumption)
        replace h3 := F6.blkO h3 (by first | omega | exact ow_ne (by assumption) (by assumption) (by omega))
        replace h5 := F6.blkO h5 (by first | omega | exact ow_ne (by assumption) (by assumption) (by omega))
        have hR2 := RM.thrT hc hR hb hkb (y' := { s.th with tasks := r, depth := nR r, vals := cutTo t.x s.th.vals }) htr (hvs.cutTo hxt) hQ hB hte' ⟨by show r.length ≤ m; omega, by show (cutTo t.x s.th.vals).length ≤ m; rw [cut_len hxt]; omega⟩
        replace hR := hR2
        refine x_then (hK11 _ _ ?_)
        clear hK11 K11
        refine forget [(0, _), (3, _)] ⟨rfl, rfl, trivial⟩ (fun e => ?_)
        refine c_seq (fun K12 hK12 => ?_)
        refine c_reg ?_ -- region 9 compm.go:174
        refine wl (ro_move rfl) ?_
        refine wl (ro_build rfl bld_119_0) ?_
        refine wl_call rfl en_67 (push67 (v := vBool false) hR.dr (by omega)) ?_
        rintro _ u7 ⟨rfl, ow7, x7, f7, r7⟩
        obtain ⟨h3, kh3⟩ := cm_loc x7 f7 h3 kh3
        have hs7 := hF.size
        replace hF := cm_trans hX hF f7
        replace hX := hX.trans hs7 x7
        replace hR := r7
        refine wl_nil (x_then (hK12 _ _ ?_))
        clear hK12 K12
        refine forget [(0, _), (3, _)] ⟨rfl, rfl, trivial⟩ (fun e => ?_)
        refine c_seq (fun K13 hK13 => ?_)
        refine c_reg ?_ -- region 10 compm.go:175
        refine wl (ro_move rfl) ?_
        refine wl (ro_loadAggB rfl ag_119 (by assumption) rfl rfl) ?_
        refine wl_call rfl en_67 (push67 (v := v) hR.dr (by omega)) ?_
        rintro _ u8 ⟨rfl, ow8, x8, f8, r8⟩
        obtain ⟨h3, kh3⟩ := cm_loc x8 f8 h3 kh3
        have hs8 := hF.size
        replace hF := cm_trans hX hF f8
        replace hX := hX.trans hs8 x8
        replace hR := r8
        refine wl_nil (x_then (hK13 _ _ ?_))
        clear hK13 K13
        refine c_ret (x_blkR (x_thenR (x_blkR (x_thenR ?_))))
        refine bp_ret Tryz.results111 rfl ?_
        refine ⟨rfl, _, hX, hF, ?_⟩
        unfold ithrow
        rw [← hthr, thrL, if_pos hk3, if_pos (by omega)]
        rw [push_setT hc, push_setT hc] at hR
        have e7 : d - 1 = nR r := by omega
        simp only
        rw [e7]
        exact hR
      · try simp only [decide_eq_true_eq, decide_eq_false_iff_not, Bool.not_eq_true', Bool.not_eq_false', Bool.not_eq_eq_eq_not, Bool.not_true, Bool.not_false, beq_iff_eq, bne_iff_ne, ne_eq, beq_eq_false_iff_ne, bne_eq_false_iff_eq, gt_iff_lt, ge_iff_le, Int.not_lt, Int.not_le] at hc60
        refine c_skip (x_blk (x_then ?_))
        refine ⟨r.length, by omega, r, nR r, rfl, ?_, rfl, hte', hx', by omega, h3, hF, RM.thrT hc hR hb hkb (y' := { s.th with tasks := r, depth := nR r }) htr hvs hQ hB hte' ⟨by show r.length ≤ m; omega, hvm⟩, kp _ ⟨rfl, rfl, rfl, trivial⟩⟩
        rw [← hthr, thrL, if_pos hk3, if_neg (by omega), show d - 1 = nR r by omega]
    · try simp only [decide_eq_true_eq, decide_eq_false_iff_not, Bool.not_eq_true', Bool.not_eq_false', Bool.not_eq_eq_eq_not, Bool.not_true, Bool.not_false, beq_iff_eq, bne_iff_ne, ne_eq, beq_eq_false_iff_ne, bne_eq_false_iff_eq, gt_iff_lt, ge_iff_le, Int.not_lt, Int.not_le] at hc50
      have hk3 : ¬ t.k = 3 := by omega
      have hd1 : d = nR r := by rw [hd, nR, if_neg hk3]
      refine c_skip (x_blk (x_then ?_))
      refine ⟨r.length, by omega, r, d, rfl, ?_, hd1, hte', hx', by omega, h3, hF, RM.thrT hc hR hb hkb (y' := { s.th with tasks := r, depth := d }) htr hvs hQ hB hte' ⟨by show r.length ≤ m; omega, hvm⟩, kp _ ⟨rfl, rfl, rfl, trivial⟩⟩
      rw [← hthr, thrL, if_neg hk3]
  · try simp only [decide_eq_true_eq, decide_eq_false_iff_not, Bool.not_eq_true', Bool.not_eq_false', Bool.not_eq_eq_eq_not, Bool.not_true, Bool.not_false, beq_iff_eq, bne_iff_ne, ne_eq, beq_eq_false_iff_ne, bne_eq_false_iff_eq, gt_iff_lt, ge_iff_le, Int.not_lt, Int.not_le] at hc21
    have hT0' : T = [] := List.eq_nil_of_length_eq_zero (by omega)
    subst hT0'
    refine c_exit (x_thenX (x_thenX (x_blkX (x_then (hK3 _ _ ?_)))))
    clear hK4 K4 hK3 K3
    refine forget [(0, _), (3, _), (4, _)] ⟨rfl, rfl, rfl, trivial⟩ (fun e => ?_)
    refine c_seq (fun K14 hK14 => ?_)
    refine c_reg ?_ -- region 11 compm.go:180
    refine wl (ro_move rfl) ?_
    refine wl (ro_nilCheck rfl) ?_
    refine wl (ro_fieldAddr (k := 0) rfl fo_126_0) ?_
    refine wl_put rfl rfl rfl sz_3 hB ((by simp)) (rfl) (fun w9 hB F9 => ?_)
    replace hF := hF.thenDrew.thenO F9 (by first | exact .inr (by omega) | exact .inl rfl | exact .inl (by assumption) | assumption)
    replace hQ := hQ.thenDrew.thenO F9 (by first | exact .inr (by omega) | exact .inl rfl | exact .inl (by assumption) | assumption)
    replace h3 := F9.blkO h3 (by first | omega | exact ow_ne (by assumption) (by assumption) (by omega))
    refine wl_nil (x_then (hK14 _ _ ?_))
    clear hK14 K14
    refine forget [(0, _), (3, _), (4, _)] ⟨rfl, rfl, rfl, trivial⟩ (fun e => ?_)
    refine c_seq (fun K15 hK15 => ?_)
    refine c_reg ?_ -- region 12 compm.go:181
    refine wl (ro_move rfl) ?_
    refine wl (ro_nilCheck rfl) ?_
    refine wl (ro_fieldAddr (k := 4) rfl fo_126_4) ?_
    refine wl_put rfl rfl rfl sz_83 hB ((by simp)) (rfl) (fun w10 hB F10 => ?_)
    replace hF := hF.thenDrew.thenO F10 (by first | exact .inr (by omega) | exact .inl rfl | exact .inl (by assumption) | assumption)
    replace hQ := hQ.thenDrew.thenO F10 (by first | exact .inr (by omega) | exact .inl rfl | exact .inl (by assumption) | assumption)
    replace h3 := F10.blkO h3 (by first | omega | exact ow_ne (by assumption) (by assumption) (by omega))
    refine wl_nil (x_then (hK15 _ _ ?_))
    clear hK15 K15
    have hR2 := RM.thrT hc hR hb hkb (y' := { s.th with tasks := [], depth := d, vals := [], st := 5 }) hts (OwT.nil _ _ _ _ _) hQ hB (fun t ht => by simp at ht) ⟨Nat.zero_le _, Nat.zero_le _⟩
    replace hR := hR2
    refine c_reg ?_ -- region 13 compm.go:182
    refine wl (ro_move rfl) ?_
    refine wl (ro_loadAggB rfl ag_119 (by assumption) rfl rfl) ?_
    refine wl_call rfl en_110 (back110 hR.dr hv hN (fun c hc ↦ by have := hP.k c hc; simpa [IS.setT] using this) (by omega)) ?_
    rintro _ u11 ⟨rfl, ow11, x11, f11, r11⟩
    obtain ⟨h3, kh3⟩ := cm_loc x11 f11 h3 kh3
    have hs11 := hF.size
    replace hF := cm_trans hX hF f11
    replace hX := hX.trans hs11 x11
    replace hR := r11
    refine wl_nil ?_
    refine bp_end Tryz.results111 rfl ?_
    refine ⟨rfl, _, hX, hF, ?_⟩
    unfold ithrow
    rw [← hthr]
    exact hR

theorem raise64 {G : Arena} {root : Nat} {np : Value} {tb rb : Nat} {nv : Value} {w : World} {ow : Nat → Nat} {β τ : List Nat} {m : Nat} {s : IS} (hR : RM G root np tb rb nv w ow β τ m s) {z : Str} (hz : z.length ≤ 40) (hP : RtP s) (hm : m ≤ 19990) :
    Ret Tryz.prog 64 [ptr rb, S z] w (fun r w' => r = .tuple #[] ∧ RP G root np tb rb nv w ow β τ (m + 2) (iraise z s) w') := by
  have hF : Fram (tg ow cmT) w w := Fram.refl _ _
  have hX : Xt w ow ow := Xt.refl _ _
  refine ret_of Tryz.func64 rfl Tryz.ntmps64 rfl ?_
  refine c_reg ?_ -- region 0 compm.go:118
  refine wl (ro_move rfl) ?_
  refine wl (ro_move rfl) ?_
  refine wl (ro_build rfl bld_119_0_2) ?_
  refine wl_call rfl en_111 (throw111 (v := vStr z) hR.dr (by simp [wfV, vStr, hz]) (by simp [vStr]) hP hm) ?_
  rintro _ u1 ⟨rfl, ow1, x1, f1, r1⟩
  have hs1 := hF.size
  replace hF := cm_trans hX hF f1
  replace hX := hX.trans hs1 x1
  replace hR := r1
  refine wl_nil ?_
  refine bp_end Tryz.results64 rfl ?_
  exact ⟨rfl, _, hX, hF, hR⟩

set_option maxHeartbeats 8000000 in
theorem ret58 {G : Arena} {root : Nat} {np : Value} {tb rb : Nat} {nv : Value} {w : World} {ow : Nat → Nat} {β τ : List Nat} {m : Nat} {s : IS} (hR : RM G root np tb rb nv w ow β τ m s) {va vb : PV} (hv : wfV va = true) (hN : W64 va.N) (hP : RtP s) (hm : m ≤ 19990) :
    Ret Tryz.prog 58 [ptr rb, pv va, pv vb] w (fun r w' => r = .tuple #[] ∧ RP G root np tb rb nv w ow β τ (m + 2) (iret va vb s) w') := by
  have hF : Fram (tg ow cmT) w w := Fram.refl _ _
  have hX : Xt w ow ow := Xt.refl _ _
  obtain ⟨cv, a0, a1, a2, a3, a4, g, cap, l, b, tv0, vv0, hXr, hO, hl, hcap, hb, hT0, hg⟩ := hR.open
  have hc := hR.cl
  have hkb := hT0.t
  have hmb := hR.mem_b hc hkb
  have hvm := hR.bdm.2
  have hdn := nR_le s.th.tasks
  have hdm := hR.bdm.1
  have hPd := hP.d
  unfold rnc at hXr
  refine ret_of Tryz.func58 rfl Tryz.ntmps58 rfl ?_
  refine c_seq (fun K1 hK1 => ?_)
  refine c_reg ?_ -- region 0 compm.go:185
  refine wl_box (cs := (pvc va)) rfl rfl (fun b4 w1 hbb4 h4 F1 => ?_)
  have hnerbb4 : rb < b4 := Nat.lt_of_lt_of_le hXr.lt hbb4
  have hnegb4 : g < b4 := Nat.lt_of_lt_of_le hO.lt hbb4
  have hbsb4 := Nat.le_trans hF.size hbb4
  have kh4 := hR.df b4 hbb4
  replace hXr := F1.blkN hXr
  replace hO := F1.blkN hO
  replace hF := hF.thenDrew.thenN F1
  replace hR := hR.thruN ((Fram.refl none' _).thenDrew.thenN F1)
  refine wl_box (cs := (pvc vb)) rfl rfl (fun b5 w2 hbb5 h5 F2 => ?_)
  have hnerbb5 : rb < b5 := Nat.lt_of_lt_of_le hXr.lt hbb5
  have hnegb5 : g < b5 := Nat.lt_of_lt_of_le hO.lt hbb5
  have hbsb5 := Nat.le_trans hF.size hbb5
  have hneb4b5 : b4 < b5 := Nat.lt_of_lt_of_le h4.lt hbb5
  have kh5 := hR.df b5 hbb5
  replace hXr := F2.blkN hXr
  replace hO := F2.blkN hO
  replace hF := hF.thenDrew.thenN F2
  replace hR := hR.thruN ((Fram.refl none' _).thenDrew.thenN F2)
  replace h4 := F2.blkN h4
  refine wl_nil (x_then (hK1 _ _ ?_))
  clear hK1 K1
  refine forget [(0, _), (4, _), (5, _)] ⟨rfl, rfl, rfl, trivial⟩ (fun e => ?_)
  refine c_seq (fun K2 hK2 => ?_)
  refine c_pi [(0, false), (1, false), (2, false), (3, false), (4, false), (5, false), (6, false), (7, false), (8, false), (9, false), (10, false)] (SameH _) mixed (by kernel_rfl) rfl (by kernel_rfl) (po_then (po_bp)) (sameH_now _ _) ?_ -- region 1 compm.go:186
  refine pi_ro rfl (fun w hS => ro_move rfl) ?_
  refine pi_ro rfl (fun w hS => ro_nilCheck rfl) ?_
  refine pi_ro rfl (fun w hS => ro_fieldAddr (k := 5) rfl fo_112_5) ?_
  refine pi_ro rfl (fun w hS => ro_loadB rfl sc_109 (Blk.of_heap (by assumption) hS) rfl) ?_
  refine pi_ro rfl (fun w hS => ro_move rfl) ?_
  refine pi_ro rfl (fun w hS => ro_nilCheck rfl) ?_
  refine pi_ro rfl (fun w hS => ro_fieldAddr (k := 12) rfl fo_112_8) ?_
  refine pi_ro rfl (fun w hS => ro_loadB rfl sc_3 (Blk.of_heap (by assumption) hS) rfl) ?_
  refine pi_ro rfl (fun w hS => ro_indexAddr (et := 123) (k := 1) rfl rfl se_109 rfl (by omega)) ?_
  refine pi_ro rfl (fun w hS => ro_loadB rfl sc_123 (Blk.of_heap hO hS) (hl)) ?_
  refine pi_ro rfl (fun w hS => ro_assign rfl) ?_
  refine pi_nil (x_then (hK2 _ _ ?_))
  clear hK2 K2
  refine c_block ?_
  -- loop@r2: live slots [0, 4, 5, 6]
  refine c_loopG (fun mm a' w' => ∃ T, mm = T.length ∧ retL T = retL s.th.tasks ∧ nR T = nR s.th.tasks ∧ (∀ t ∈ T, t.e ≤ s.envs.length) ∧ (∀ t ∈ T, t.k = 3 → t.x ≤ s.th.vals.length) ∧ T.length ≤ m ∧ Blk w'.heap b4 (pvc va) 119 ∧ Blk w'.heap b5 (pvc vb) 119 ∧ Fram (tg ow cmT) w w' ∧ RM G root np tb rb nv w' ow β τ m (s.setT { s.th with tasks := T }) ∧ ∃ e, a' = Fr 97 (upds e [(0, ptr rb), (4, ptr b4), (5, ptr b5), (6, ptr b)]) []) s.th.tasks.length ⟨s.th.tasks, rfl, rfl, rfl, hR.tem, hP.x, hR.bdm.1, h4, h5, hF.thenDrew, by rw [show ({ s.th with tasks := s.th.tasks } : ITh) = s.th from rfl, setT_self hc]; exact hR.thruN ((Fram.refl none' _).thenDrew), kp _ ⟨rfl, rfl, rfl, rfl, trivial⟩⟩ ?_
  clear hR h4 h5 hF hXr hO
  rintro mm a' u1 ⟨T, rfl, hret, hnR, hte, hx, hTm, h4, h5, hF, hR, e, rfl⟩
  obtain ⟨tv, vv, hT⟩ := RM.thbT hc hR hb
  have hB : Blk u1.heap b [i64c s.th.st, i64c s.th.fn, i64c s.th.depth, tv, vv] 126 := hT.k
  have hts : OwT u1 ow (80 + s.cur) tv 161 4 T.length (rws (tsc β) T.reverse) := hT.ts
  have hvs : OwT u1 ow (85 + s.cur) vv 119 3 s.th.vals.length (rws pvc s.th.vals.reverse) := hT.vs
  clear hT
  have hQ := Fram.refl (one b) u1
  obtain ⟨ta, tc, rfl⟩ := hts.form
  obtain ⟨va', vc, rfl⟩ := hvs.form
  have hvc := hvs.capge
  refine c_seq (fun K3 hK3 => ?_)
  refine c_seq (fun K4 hK4 => ?_)
  refine c_reg ?_ -- region 2 compm.go:187
  refine wl (ro_move rfl) ?_
  refine wl (ro_nilCheck rfl) ?_
  refine wl (ro_fieldAddr (k := 3) rfl fo_126_3) ?_
  refine wl (ro_loadB rfl sc_124 (by assumption) rfl) ?_
  refine wl (ro_lenL rfl se_124) ?_
  refine wl (ro_cmp rfl rfl rfl) ?_
  refine wl_nil (x_then (hK4 _ _ ?_))
  clear hK4 K4
  refine wc_cond rfl (fun hc23 => ?_) (fun hc23 => ?_)
  · try simp only [decide_eq_true_eq, decide_eq_false_iff_not, Bool.not_eq_true', Bool.not_eq_false', Bool.not_eq_eq_eq_not, Bool.not_true, Bool.not_false, beq_iff_eq, bne_iff_ne, ne_eq, beq_eq_false_iff_ne, bne_eq_false_iff_eq, gt_iff_lt, ge_iff_le, Int.not_lt, Int.not_le] at hc23
    obtain ⟨t, r, rfl⟩ : ∃ t r, T = t :: r := by
      cases T with
      | nil => simp at hc23
      | cons t r => exact ⟨t, r, rfl⟩
    obtain ⟨gt, capt, lt, e1, hV, q1, q2, q3, q4⟩ := hts.atR (tsc_len β) (j := 0) rfl
    cases e1
    have htr : OwT u1 ow (80 + s.cur) (.slice (some ⟨gt, 0, none⟩) r.length tc) 161 4 r.length (rws (tsc β) r.reverse) := hts.dropR (tsc_len β) 1
    have hrl : (t :: r).length = r.length + 1 := rfl
    have hte' : ∀ z ∈ r, z.e ≤ s.envs.length := fun z hz => hte z (List.mem_cons_of_mem _ hz)
    have hx' : ∀ z ∈ r, z.k = 3 → z.x ≤ s.th.vals.length := fun z hz => hx z (List.mem_cons_of_mem _ hz)
    refine c_skip (x_then (hK3 _ _ ?_))
    clear hK3 K3
    refine c_block ?_
    refine forget [(0, _), (4, _), (5, _), (6, _)] ⟨rfl, rfl, rfl, rfl, trivial⟩ (fun e => ?_)
    refine c_seq (fun K5 hK5 => ?_)
    refine c_piL 13 [(0, false), (1, false), (2, false), (3, false), (4, false), (5, false), (6, false), (7, false), (8, false), (9, false), (10, false), (11, false), (12, true)] (fun u => Blk u.heap b [i64c s.th.st, i64c s.th.fn, i64c s.th.depth, .slice (some ⟨gt, 0, none⟩) (t :: r).length tc, .slice va' s.th.vals.length vc] 126 ∧ Blk u.heap gt lt 161) mixed (by kernel_rfl) rfl (by kernel_rfl) (po_then (po_blk (po_then (po_blk (po_bp))))) (⟨hB, hV⟩) ?_ -- region 3 compm.go:188
    refine ql_ro rfl (fun w hS => ro_move rfl) ?_
    refine ql_ro rfl (fun w hS => ro_nilCheck rfl) ?_
    refine ql_ro rfl (fun w hS => ro_fieldAddr (k := 3) rfl fo_126_3) ?_
    refine ql_ro rfl (fun w hS => ro_loadB rfl sc_124 (hS.1) rfl) ?_
    refine ql_ro rfl (fun w hS => ro_move rfl) ?_
    refine ql_ro rfl (fun w hS => ro_nilCheck rfl) ?_
    refine ql_ro rfl (fun w hS => ro_fieldAddr (k := 3) rfl fo_126_3) ?_
    refine ql_ro rfl (fun w hS => ro_loadB rfl sc_124 (hS.1) rfl) ?_
    refine ql_ro rfl (fun w hS => ro_lenL rfl se_124) ?_
    refine ql_ro rfl (fun w hS => ro_arith rfl rfl rfl (Go.IntWalk.i64_in _ (by omega))) ?_
    refine ql_ro rfl (fun w hS => ro_indexAddr (et := 161) (k := 4) rfl rfl se_124 ((show (((t :: r).length : Int) - 1) = (((t :: r).length - 1 - 0 : Nat) : Int) by omega)) ((by omega))) ?_
    refine ql_ro rfl (fun w hS => ro_loadAggB rfl ag_161 (hS.2) (rfl) (q4)) ?_
    refine ql_new rfl ze_161 (fun w1 F ↦ ⟨F.blkN hB, F.blkN hV⟩) ?_
    intro b7 w3 hbb7 h7 F3
    have hbsb7 := Nat.le_trans hF.size hbb7
    have hbsb7 := Nat.le_trans hQ.size hbb7
    have hneb4b7 : b4 < b7 := Nat.lt_of_lt_of_le h4.lt hbb7
    have hneb5b7 : b5 < b7 := Nat.lt_of_lt_of_le h5.lt hbb7
    have hnebb7 : b < b7 := Nat.lt_of_lt_of_le hB.lt hbb7
    have hnegtb7 : gt < b7 := Nat.lt_of_lt_of_le hV.lt hbb7
    replace hF := hF.thenDrew.thenN F3
    replace hQ := hQ.thenDrew.thenN F3
    replace h4 := F3.blkN h4
    replace h5 := F3.blkN h5
    replace hB := F3.blkN hB
    replace hV := F3.blkN hV
    have kh7 := hR.df b7 hbb7
    refine ql_puta rfl rfl rfl ((tsc_one _ _)) sz_161 (rfl) h7 ((by simp)) (rfl) (fun w4 h7 F4 => ?_)
    replace hF := hF.thenDrew.thenO F4 (by first | exact .inr (by omega) | exact .inl rfl | exact .inl (by assumption) | assumption)
    replace hQ := hQ.thenDrew.thenO F4 (by first | exact .inr (by omega) | exact .inl rfl | exact .inl (by assumption) | assumption)
    replace h4 := F4.blkO h4 (by first | omega | exact ow_ne (by assumption) (by assumption) (by omega))
    replace h5 := F4.blkO h5 (by first | omega | exact ow_ne (by assumption) (by assumption) (by omega))
    replace hB := F4.blkO hB (by first | omega | exact ow_ne (by assumption) (by assumption) (by omega))
    replace hV := F4.blkO hV (by first | omega | exact ow_ne (by assumption) (by assumption) (by omega))
    refine x_then (hK5 _ _ ?_)
    clear hK5 K5
    refine forget [(0, _), (4, _), (5, _), (6, _), (7, _)] ⟨rfl, rfl, rfl, rfl, rfl, trivial⟩ (fun e => ?_)
    refine c_seq (fun K6 hK6 => ?_)
    refine c_piL 14 [(0, false), (1, false), (2, false), (3, false), (4, false), (5, false), (6, false), (7, false), (8, false), (9, false), (10, false), (11, false), (12, false), (13, false)] (SameH _) mixed (by kernel_rfl) rfl (by kernel_rfl) (po_then (po_blk (po_then (po_blk (po_bp))))) (sameH_now _ _) ?_ -- region 4 compm.go:189
    refine ql_ro rfl (fun w hS => ro_move rfl) ?_
    refine ql_ro rfl (fun w hS => ro_move rfl) ?_
    refine ql_ro rfl (fun w hS => ro_nilCheck rfl) ?_
    refine ql_ro rfl (fun w hS => ro_fieldAddr (k := 3) rfl fo_126_3) ?_
    refine ql_ro rfl (fun w hS => ro_loadB rfl sc_124 (Blk.of_heap (by assumption) hS) rfl) ?_
    refine ql_ro rfl (fun w hS => ro_move rfl) ?_
    refine ql_ro rfl (fun w hS => ro_nilCheck rfl) ?_
    refine ql_ro rfl (fun w hS => ro_fieldAddr (k := 3) rfl fo_126_3) ?_
    refine ql_ro rfl (fun w hS => ro_loadB rfl sc_124 (Blk.of_heap (by assumption) hS) rfl) ?_
    refine ql_ro rfl (fun w hS => ro_lenL rfl se_124) ?_
    refine ql_ro rfl (fun w hS => ro_arith rfl rfl rfl (Go.IntWalk.i64_in _ (by omega))) ?_
    refine ql_ro rfl (fun w hS => ro_sliceH (h := r.length) rfl rfl se_124 (by omega) (by omega)) ?_
    refine ql_ro rfl (fun w hS => ro_nilCheck rfl) ?_
    refine ql_ro rfl (fun w hS => ro_fieldAddr (k := 3) rfl fo_126_3) ?_
    refine ql_put rfl rfl rfl rfl sz_124 hB ((by simp)) (rfl) (fun w5 hB F5 => ?_)
    replace hF := hF.thenDrew.thenO F5 (by first | exact .inr (by omega) | exact .inl rfl | exact .inl (by assumption) | assumption)
    replace hQ := hQ.thenDrew.thenO F5 (by first | exact .inr (by omega) | exact .inl rfl | exact .inl (by assumption) | assumption)
    replace h4 := F5.blkO h4 (by first | omega | exact ow_ne (by assumption) (by assumption) (by omega))
    replace h5 := F5.blkO h5 (by first | omega | exact ow_ne (by assumption) (by assumption) (by omega))
    replace h7 := F5.blkO h7 (by first | omega | exact ow_ne (by assumption) (by assumption) (by omega))
    refine x_then (hK6 _ _ ?_)
    clear hK6 K6
    refine c_seq (fun K7 hK7 => ?_)
    refine c_seq (fun K8 hK8 => ?_)
    refine c_reg ?_ -- region 5 compm.go:190
    refine wl (ro_fieldAddr (k := 0) rfl fo_161_0) ?_
    refine wl (ro_loadB rfl sc_3 (by assumption) rfl) ?_
    refine wl (ro_cmp rfl rfl rfl) ?_
    refine wl_nil (x_then (hK8 _ _ ?_))
    clear hK8 K8
    refine wc_cond rfl (fun hc52 => ?_) (fun hc52 => ?_)
    · try simp only [decide_eq_true_eq, decide_eq_false_iff_not, Bool.not_eq_true', Bool.not_eq_false', Bool.not_eq_eq_eq_not, Bool.not_true, Bool.not_false, beq_iff_eq, bne_iff_ne, ne_eq, beq_eq_false_iff_ne, bne_eq_false_iff_eq, gt_iff_lt, ge_iff_le, Int.not_lt, Int.not_le] at hc52
      have hk3 : ¬ t.k = 3 := by omega
      refine c_exit (x_thenX (x_blkX (x_then ?_)))
      refine ⟨r.length, by omega, r, rfl, ?_, ?_, hte', hx', by omega, h4, h5, hF, RM.thrT hc hR hb hkb (y' := { s.th with tasks := r }) htr hvs hQ hB hte' ⟨by show r.length ≤ m; omega, hvm⟩, kp _ ⟨rfl, rfl, rfl, rfl, trivial⟩⟩
      · rw [← hret, retL, if_neg hk3]
      · rw [← hnR, nR, if_neg hk3]
    · try simp only [decide_eq_true_eq, decide_eq_false_iff_not, Bool.not_eq_true', Bool.not_eq_false', Bool.not_eq_eq_eq_not, Bool.not_true, Bool.not_false, beq_iff_eq, bne_iff_ne, ne_eq, beq_eq_false_iff_ne, bne_eq_false_iff_eq, gt_iff_lt, ge_iff_le, Int.not_lt, Int.not_le] at hc52
      have hk3 : t.k = 3 := by omega
      have hd1 : s.th.depth = nR r + 1 := by rw [hPd, ← hnR, nR, if_pos hk3]
      have hxt := hx t (by simp) hk3
      refine c_skip (x_then (hK7 _ _ ?_))
      clear hK7 K7
      refine forget [(0, _), (4, _), (5, _), (6, _), (7, _)] ⟨rfl, rfl, rfl, rfl, rfl, trivial⟩ (fun e => ?_)
      refine c_seq (fun K9 hK9 => ?_)
      refine c_reg ?_ -- region 6 compm.go:193
      refine wl (ro_move rfl) ?_
      refine wl (ro_nilCheck rfl) ?_
      refine wl (ro_fieldAddr (k := 2) rfl fo_126_2) ?_
      refine wl (ro_loadB rfl sc_3 (by assumption) rfl) ?_
      refine wl (ro_arith rfl rfl rfl (Go.IntWalk.i64_in _ (by omega))) ?_
      refine wl (ro_nilCheck rfl) ?_
      refine wl (ro_fieldAddr (k := 2) rfl fo_126_2) ?_
      refine wl_put rfl rfl rfl sz_3 hB ((by simp)) (rfl) (fun w6 hB F6 => ?_)
      replace hF := hF.thenDrew.thenO F6 (by first | exact .inr (by omega) | exact .inl rfl | exact .inl (by assumption) | assumption)
      replace hQ := hQ.thenDrew.thenO F6 (by first | exact .inr (by omega) | exact .inl rfl | exact .inl (by assumption) | assumption)
      replace h4 := F6.blkO h4 (by first | omega | exact ow_ne (by assumption) (by assumption) (by omega))
      replace h5 := F6.blkO h5 (by first | omega | exact ow_ne (by assumption) (by assumption) (by omega))
      replace h7 := F6.blkO h7 (by first | omega | exact ow_ne (by assumption) (by assumption) (by omega))
      have e6 : ((s.th.depth : Int) - 1) = ((s.th.depth - 1 : Nat) : Int) := by omega
      rw [e6] at hB
      refine wl_nil (x_then (hK9 _ _ ?_))
      clear hK9 K9
      refine forget [(0, _), (4, _), (5, _), (6, _), (7, _)] ⟨rfl, rfl, rfl, rfl, rfl, trivial⟩ (fun e => ?_)
      refine c_seq (fun K10 hK10 => ?_)
      refine c_piL 10 [(0, false), (1, false), (2, false), (3, false), (4, false), (5, false), (6, false), (7, false), (8, false), (9, false)] (SameH _) mixed (by kernel_rfl) rfl (by kernel_rfl) (po_then (po_blk (po_then (po_blk (po_bp))))) (sameH_now _ _) ?_ -- region 7 compm.go:194
      refine ql_ro rfl (fun w hS => ro_move rfl) ?_
      refine ql_ro rfl (fun w hS => ro_move rfl) ?_
      refine ql_ro rfl (fun w hS => ro_nilCheck rfl) ?_
      refine ql_ro rfl (fun w hS => ro_fieldAddr (k := 4) rfl fo_126_4) ?_
      refine ql_ro rfl (fun w hS => ro_loadB rfl sc_83 (Blk.of_heap (by assumption) hS) rfl) ?_
      refine ql_ro rfl (fun w hS => ro_fieldAddr (k := 2) rfl fo_161_2) ?_
      refine ql_ro rfl (fun w hS => ro_loadB rfl sc_3 (Blk.of_heap (by assumption) hS) rfl) ?_
      refine ql_ro rfl (fun w hS => ro_sliceH (h := t.x) rfl rfl se_83 rfl (by omega)) ?_
      refine ql_ro rfl (fun w hS => ro_nilCheck rfl) ?_
      refine ql_ro rfl (fun w hS => ro_fieldAddr (k := 4) rfl fo_126_4) ?_
      refine ql_put rfl rfl rfl rfl sz_83 hB ((by simp)) (rfl) (fun w7 hB F7 => ?_)
      replace hF := hF.thenDrew.thenO F7 (by first | exact .inr (by omega) | exact .inl rfl | exact .inl (by assumption) | assumption)
      replace hQ := hQ.thenDrew.thenO F7 (by first | exact .inr (by omega) | exact .inl rfl | exact .inl (by assumption) | assumption)
      replace h4 := F7.blkO h4 (by first | omega | exact ow_ne (by assumption) (by assumption) (by omega))
      replace h5 := F7.blkO h5 (by first | omega | exact ow_ne (by assumption) (by assumption) (by omega))
      replace h7 := F7.blkO h7 (by first | omega | exact ow_ne (by assumption) (by assumption) (by omega))
      refine x_then (hK10 _ _ ?_)
      clear hK10 K10
      refine c_seq (fun K11 hK11 => ?_)
      refine c_seq (fun K12 hK12 => ?_)
      refine c_reg ?_ -- region 8 compm.go:195
      refine wl (ro_move rfl) ?_
      refine wl (ro_nilCheck rfl) ?_
      refine wl (ro_fieldAddr (k := 3) rfl fo_126_3) ?_
      refine wl (ro_loadB rfl sc_124 (by assumption) rfl) ?_
      refine wl (ro_lenL rfl se_124) ?_
      refine wl (ro_cmp rfl rfl rfl) ?_
      refine wl_nil (x_then (hK12 _ _ ?_))
      clear hK12 K12
      refine wc_cond rfl (fun hc75 => ?_) (fun hc75 => ?_)
      · try simp only [decide_eq_true_eq, decide_eq_false_iff_not, Bool.not_eq_true', Bool.not_eq_false', Bool.not_eq_eq_eq_not, Bool.not_true, Bool.not_false, beq_iff_eq, bne_iff_ne, ne_eq, beq_eq_false_iff_ne, bne_eq_false_iff_eq, gt_iff_lt, ge_iff_le, Int.not_lt, Int.not_le] at hc75
        have hr0 : r = [] := List.eq_nil_of_length_eq_zero (by omega)
        refine c_seq (fun K13 hK13 => ?_)
        refine c_reg ?_ -- region 9 compm.go:196
        refine wl (ro_move rfl) ?_
        refine wl (ro_nilCheck rfl) ?_
        refine wl (ro_fieldAddr (k := 0) rfl fo_126_0) ?_
        refine wl_put rfl rfl rfl sz_3 hB ((by simp)) (rfl) (fun w8 hB F8 => ?_)
        replace hF := hF.thenDrew.thenO F8 (by first | exact .inr (by omega) | exact .inl rfl | exact .inl (by assumption) | assumption)
        replace hQ := hQ.thenDrew.thenO F8 (by first | exact .inr (by omega) | exact .inl rfl | exact .inl (by assumption) | assumption)
        replace h4 := F8.blkO h4 (by first | omega | exact ow_ne (by assumption) (by assumption) (by omega))
        replace h5 := F8.blkO h5 (by first | omega | exact ow_ne (by assumption) (by assumption) (by omega))
        replace h7 := F8.blkO h7 (by first | omega | exact ow_ne (by assumption) (by assumption) (by omega))
        refine wl_nil (x_then (hK13 _ _ ?_))
        clear hK13 K13
        refine forget [(0, _), (4, _)] ⟨rfl, rfl, trivial⟩ (fun e => ?_)
        refine c_seq (fun K14 hK14 => ?_)
        have hR2 := RM.thrT hc hR hb hkb (y' := { s.th with tasks := r, depth := s.th.depth - 1, vals := cutTo t.x s.th.vals, st := 5 }) htr (hvs.cutTo hxt) hQ hB hte' ⟨by show r.length ≤ m; omega, by show (cutTo t.x s.th.vals).length ≤ m; rw [cut_len hxt]; omega⟩
        replace hR := hR2
        refine c_reg ?_ -- region 10 compm.go:197
        refine wl (ro_move rfl) ?_
        refine wl (ro_loadAggB rfl ag_119 (by assumption) rfl rfl) ?_
        refine wl_call rfl en_110 (back110 hR.dr hv hN (fun c hc ↦ by have := hP.k c hc; simpa [IS.setT] using this) (by omega)) ?_
        rintro _ u9 ⟨rfl, ow9, x9, f9, r9⟩
        obtain ⟨h4, kh4⟩ := cm_loc x9 f9 h4 kh4
        obtain ⟨h5, kh5⟩ := cm_loc x9 f9 h5 kh5
        have hs9 := hF.size
        replace hF := cm_trans hX hF f9
        replace hX := hX.trans hs9 x9
        replace hR := r9
        refine wl_nil (x_then (hK14 _ _ ?_))
        clear hK14 K14
        refine c_ret (x_thenR (x_blkR (x_thenR (x_blkR ?_))))
        refine bp_ret Tryz.results58 rfl ?_
        refine ⟨rfl, _, hX, hF, ?_⟩
        unfold iret
        rw [← hret, retL, if_pos hk3]
        simp only
        rw [if_pos hr0]
        exact hR
      · try simp only [decide_eq_true_eq, decide_eq_false_iff_not, Bool.not_eq_true', Bool.not_eq_false', Bool.not_eq_eq_eq_not, Bool.not_true, Bool.not_false, beq_iff_eq, bne_iff_ne, ne_eq, beq_eq_false_iff_ne, bne_eq_false_iff_eq, gt_iff_lt, ge_iff_le, Int.not_lt, Int.not_le] at hc75
        refine c_skip (x_then (hK11 _ _ ?_))
        clear hK11 K11
        refine c_seq (fun K15 hK15 => ?_)
        refine c_seq (fun K16 hK16 => ?_)
        have hR2 := RM.thrT hc hR hb hkb (y' := { s.th with tasks := r, depth := s.th.depth - 1, vals := cutTo t.x s.th.vals }) htr (hvs.cutTo hxt) hQ hB hte' ⟨by show r.length ≤ m; omega, by show (cutTo t.x s.th.vals).length ≤ m; rw [cut_len hxt]; omega⟩
        replace hR := hR2
        have hr0 : ¬ r = [] := fun q => hc75 (by rw [q]; rfl)
        refine c_reg ?_ -- region 11 compm.go:200
        refine wl (ro_fieldAddr (k := 1) rfl fo_161_1) ?_
        refine wl (ro_loadB rfl sc_3 (by assumption) rfl) ?_
        refine wl (ro_cmp rfl rfl rfl) ?_
        refine wl_nil (x_then (hK16 _ _ ?_))
        clear hK16 K16
        refine wc_cond rfl (fun hc84 => ?_) (fun hc84 => ?_)
        · try simp only [decide_eq_true_eq, decide_eq_false_iff_not, Bool.not_eq_true', Bool.not_eq_false', Bool.not_eq_eq_eq_not, Bool.not_true, Bool.not_false, beq_iff_eq, bne_iff_ne, ne_eq, beq_eq_false_iff_ne, bne_eq_false_iff_eq, gt_iff_lt, ge_iff_le, Int.not_lt, Int.not_le] at hc84
          refine c_seq (fun K17 hK17 => ?_)
          refine c_reg ?_ -- region 12 compm.go:201
          refine wl (ro_move rfl) ?_
          refine wl (ro_build rfl bld_119_0_1) ?_
          refine wl_call rfl en_67 (push67 (v := vBool true) hR.dr (by omega)) ?_
          rintro _ u10 ⟨rfl, ow10, x10, f10, r10⟩
          obtain ⟨h4, kh4⟩ := cm_loc x10 f10 h4 kh4
          obtain ⟨h5, kh5⟩ := cm_loc x10 f10 h5 kh5
          obtain ⟨h7, kh7⟩ := cm_loc x10 f10 h7 kh7
          have hs10 := hF.size
          replace hF := cm_trans hX hF f10
          replace hX := hX.trans hs10 x10
          replace hR := r10
          refine wl_nil (x_then (hK17 _ _ ?_))
          clear hK17 K17
          refine forget [(0, _), (4, _)] ⟨rfl, rfl, trivial⟩ (fun e => ?_)
          refine c_seq (fun K18 hK18 => ?_)
          refine c_reg ?_ -- region 13 compm.go:202
          refine wl (ro_move rfl) ?_
          refine wl (ro_loadAggB rfl ag_119 (by assumption) rfl rfl) ?_
          refine wl_call rfl en_67 (push67 (v := va) hR.dr (by omega)) ?_
          rintro _ u11 ⟨rfl, ow11, x11, f11, r11⟩
          obtain ⟨h4, kh4⟩ := cm_loc x11 f11 h4 kh4
          obtain ⟨h5, kh5⟩ := cm_loc x11 f11 h5 kh5
          obtain ⟨h7, kh7⟩ := cm_loc x11 f11 h7 kh7
          have hs11 := hF.size
          replace hF := cm_trans hX hF f11
          replace hX := hX.trans hs11 x11
          replace hR := r11
          refine wl_nil (x_then (hK18 _ _ ?_))
          clear hK18 K18
          refine c_ret (x_thenR (x_blkR (x_thenR (x_blkR ?_))))
          refine bp_ret Tryz.results58 rfl ?_
          refine ⟨rfl, _, hX, hF, ?_⟩
          unfold iret
          rw [← hret, retL, if_pos hk3]
          simp only
          rw [if_neg hr0, if_pos (by omega)]
          rw [push_setT hc, push_setT hc] at hR
          exact hR
        · try simp only [decide_eq_true_eq, decide_eq_false_iff_not, Bool.not_eq_true', Bool.not_eq_false', Bool.not_eq_eq_eq_not, Bool.not_true, Bool.not_false, beq_iff_eq, bne_iff_ne, ne_eq, beq_eq_false_iff_ne, bne_eq_false_iff_eq, gt_iff_lt, ge_iff_le, Int.not_lt, Int.not_le] at hc84
          refine c_skip (x_then (hK15 _ _ ?_))
          clear hK15 K15
          refine forget [(0, _), (4, _), (5, _)] ⟨rfl, rfl, rfl, trivial⟩ (fun e => ?_)
          refine c_seq (fun K19 hK19 => ?_)
          refine c_reg ?_ -- region 14 compm.go:205
          refine wl (ro_move rfl) ?_
          refine wl (ro_loadAggB rfl ag_119 (by assumption) rfl rfl) ?_
          refine wl_call rfl en_67 (push67 (v := va) hR.dr (by omega)) ?_
          rintro _ u12 ⟨rfl, ow12, x12, f12, r12⟩
          obtain ⟨h4, kh4⟩ := cm_loc x12 f12 h4 kh4
          obtain ⟨h5, kh5⟩ := cm_loc x12 f12 h5 kh5
          obtain ⟨h7, kh7⟩ := cm_loc x12 f12 h7 kh7
          have hs12 := hF.size
          replace hF := cm_trans hX hF f12
          replace hX := hX.trans hs12 x12
          replace hR := r12
          refine wl_nil (x_then (hK19 _ _ ?_))
          clear hK19 K19
          refine forget [(0, _), (5, _)] ⟨rfl, rfl, trivial⟩ (fun e => ?_)
          refine c_seq (fun K20 hK20 => ?_)
          refine c_reg ?_ -- region 15 compm.go:206
          refine wl (ro_move rfl) ?_
          refine wl (ro_loadAggB rfl ag_119 (by assumption) rfl rfl) ?_
          refine wl_call rfl en_67 (push67 (v := vb) hR.dr (by omega)) ?_
          rintro _ u13 ⟨rfl, ow13, x13, f13, r13⟩
          obtain ⟨h4, kh4⟩ := cm_loc x13 f13 h4 kh4
          obtain ⟨h5, kh5⟩ := cm_loc x13 f13 h5 kh5
          obtain ⟨h7, kh7⟩ := cm_loc x13 f13 h7 kh7
          have hs13 := hF.size
          replace hF := cm_trans hX hF f13
          replace hX := hX.trans hs13 x13
          replace hR := r13
          refine wl_nil (x_then (hK20 _ _ ?_))
          clear hK20 K20
          refine c_ret (x_blkR (x_thenR (x_blkR ?_)))
          refine bp_ret Tryz.results58 rfl ?_
          refine ⟨rfl, _, hX, hF, ?_⟩
          unfold iret
          rw [← hret, retL, if_pos hk3]
          simp only
          rw [if_neg hr0, if_neg (by omega)]
          rw [push_setT hc, push_setT hc] at hR
          exact hR
  · try simp only [decide_eq_true_eq, decide_eq_false_iff_not, Bool.not_eq_true', Bool.not_eq_false', Bool.not_eq_eq_eq_not, Bool.not_true, Bool.not_false, beq_iff_eq, bne_iff_ne, ne_eq, beq_eq_false_iff_ne, bne_eq_false_iff_eq, gt_iff_lt, ge_iff_le, Int.not_lt, Int.not_le] at hc23
    have hT0' : T = [] := List.eq_nil_of_length_eq_zero (by omega)
    subst hT0'
    refine c_exit (x_thenX (x_thenX (x_blkX ?_)))
    refine bp_end Tryz.results58 rfl ?_
    refine ⟨rfl, ow, Xt.refl _ _, hF, ?_⟩
    unfold iret
    rw [← hret]
    exact hR.le (by omega)

end Go.Proofs.Qxb6500568aGreatDoor
