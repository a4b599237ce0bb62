import Derived.Test.Qxb6500568aGreatDoorZl
/- The compiler: shut. -/
namespace Go.Proofs.Qxb6500568aGreatDoor
open Ieee
set_option linter.unusedVariables false
set_option linter.unusedSimpArgs false
set_option linter.unusedSectionVars false

section
variable {E : ZEnv} {w w1 u1 u2 w' : World} {ow ow' : Nat → Nat} {O : List Nat} {S : Fns} {f : ZAct} {q A : List ZAct} {R : List ZRow} {z : ZSl}
/-- all jumps at the places l land at x. -/
def pch (c : Cod) (l : List Nat) (x : Nat) : Cod := l.foldl (fun c p => setX c p x) c
theorem pch_len (x : Nat) : ∀ (l : List Nat) (c : Cod), (pch c l x).length = c.length
  | [], c => rfl
  | p :: l, c => by show (pch (setX c p x) l x).length = _; rw [pch_len x l, setX_len]
theorem pch_snoc (c : Cod) (l : List Nat) (p x : Nat) : pch c (l ++ [p]) x = setX (pch c l x) p x := by unfold pch; rw [List.foldl_append]; rfl
set_option maxHeartbeats 8000000 in
theorem shut236 (hR : CM E w ow O S (f :: q)) {b : Nat} {br : List Nat} {rest : List (Nat × List Nat)} (hl : f.lps = (b, br) :: rest) (hp : ∀ p ∈ br, p < f.code.length) (hc : f.code.length ≤ 60000) (hbr : br.length ≤ 100000) (hrl : rest.length ≤ 100000) :
    Ret Tryz.prog 236 [fptr E f.j] w (fun r w' => r = .tuple #[] ∧ ZP E w ow O S ({ f with code := pch f.code br f.code.length, lps := rest } :: q) w') := by
  obtain ⟨R_, z_, op⟩ := hR.open (f := f) (by simp)
  have hG := op.B
  have hta := hR.ta
  have hj := op.j
  obtain ⟨rows, p1, p2⟩ := op.lps
  have hll : f.lps.length = rest.length + 1 := by rw [hl]; rfl
  rw [hl] at p2
  obtain ⟨rows', v, vals, hrw, hv, hpat, p3⟩ := p2
  obtain ⟨gp, capp, lp, ep, hP, k1, k2, k3, k4⟩ := p1.o.pos (by omega)
  have hgp : ow gp = 280 + f.j := p1.t gp (by rw [ep]; rfl)
  have hrow10 : (fnc (mkR E S f z_))[10]? = some (.slice (some ⟨gp, 0, none⟩) f.lps.length capp) := by show some (Value.slice z_.pa f.lps.length z_.pc) = _; rw [ep]
  have hr2 : rows'.length = rest.length * 2 := by
    have := p1.o.1
    rw [hrw, List.length_append, hll] at this
    simp at this
    omega
  have hrl2 : (lp.drop (0 + rest.length * 2)).take 2 = [i64c b, v] := by
    rw [Nat.zero_add, show (lp.drop (rest.length * 2)).take 2 = (lp.take (f.lps.length * 2)).drop (rest.length * 2) by rw [List.drop_take]; congr 1; omega, k4, hrw, ← hr2, List.drop_left]
  obtain ⟨va, vc, rfl⟩ := hv.form
  have hne : E.gb ≠ gp := fun e => by rw [← e, hta] at hgp; omega
  have hF0 : Fram none' w w := Fram.refl _ _
  refine ret_of Tryz.func236 rfl Tryz.ntmps236 rfl ?_
  refine c_seq (fun K1 hK1 => ?_)
  refine c_piL 13 [(0, false), (1, false), (2, false), (3, false), (4, false), (5, false), (6, false), (7, false), (8, false), (9, false), (10, false), (11, false), (12, true)] (fun u => Blk u.heap E.gb (rws fnc R_) 199 ∧ Blk u.heap gp lp 278) mixed (by kernel_rfl) rfl (by kernel_rfl) (po_then (po_bp)) (⟨hG, hP⟩) ?_ -- region 0 stmt.go:79
  refine ql_ro rfl (fun w hS => ro_move rfl) ?_
  refine ql_ro rfl (fun w hS => ro_nilCheck rfl) ?_
  refine ql_ro rfl (fun w hS => ro_fieldAddr (k := 10) rfl fo_199_10) ?_
  refine ql_ro rfl (fun w hS => ro_loadB rfl sc_197 (hS.1) ((op.row 10 (by decide)).trans hrow10)) ?_
  refine ql_ro rfl (fun w hS => ro_move rfl) ?_
  refine ql_ro rfl (fun w hS => ro_nilCheck rfl) ?_
  refine ql_ro rfl (fun w hS => ro_fieldAddr (k := 10) rfl fo_199_10) ?_
  refine ql_ro rfl (fun w hS => ro_loadB rfl sc_197 (hS.1) ((op.row 10 (by decide)).trans hrow10)) ?_
  refine ql_ro rfl (fun w hS => ro_lenL rfl se_197) ?_
  refine ql_ro rfl (fun w hS => ro_arith rfl rfl rfl (Go.IntWalk.i64_in _ (by omega))) ?_
  refine ql_ro rfl (fun w hS => ro_indexAddr (et := 278) (k := 2) rfl rfl se_197 ((show (f.lps.length : Int) - 1 = (rest.length : Nat) by omega)) ((by omega))) ?_
  refine ql_ro rfl (fun w hS => ro_loadAggB rfl ag_278 (hS.2) (rfl) (hrl2)) ?_
  refine ql_new rfl ze_278 (fun w1 F ↦ ⟨F.blkN hG, F.blkN hP⟩) ?_
  intro b2 w1 hbb2 h2 F1
  have hneE.gbb2 : E.gb < b2 := Nat.lt_of_lt_of_le hG.lt hbb2
  have hbsb2 := Nat.le_trans hF0.size hbb2
  have hnegpb2 : gp < b2 := Nat.lt_of_lt_of_le hP.lt hbb2
  replace hG := F1.blkN hG
  replace hF0 := hF0.thenDrew.thenN F1
  replace hP := F1.blkN hP
  refine ql_puta rfl rfl rfl ((by simp [Value.oneCell', i64c])) sz_278 (rfl) h2 ((by simp)) (rfl) (fun w2 h2 F2 => ?_)
  replace hG := F2.blkO hG (by first | omega | exact ow_ne (by assumption) (by assumption) (by omega))
  replace hF0 := hF0.thenDrew.thenO F2 (by first | exact .inr (by omega) | exact .inl rfl | exact .inl (by assumption) | assumption)
  replace hP := F2.blkO hP (by first | omega | exact ow_ne (by assumption) (by assumption) (by omega))
  refine x_then (hK1 _ _ ?_)
  clear hK1 K1
  refine forget [(0, _), (2, _)] ⟨rfl, rfl, trivial⟩ (fun e => ?_)
  refine c_seq (fun K2 hK2 => ?_)
  have hF1 := hF0
  have hP1 := hP
  refine c_piL 14 [(0, false), (1, false), (2, false), (3, false), (4, false), (5, false), (6, false), (7, false), (8, false), (9, false), (10, false), (11, false), (12, false), (13, false)] (SameH _) mixed (by kernel_rfl) rfl (by kernel_rfl) (po_then (po_bp)) (sameH_now _ _) ?_ -- region 1 stmt.go:80
  refine ql_ro rfl (fun w hS => ro_move rfl) ?_
  refine ql_ro rfl (fun w hS => ro_move rfl) ?_
  refine ql_ro rfl (fun w hS => ro_nilCheck rfl) ?_
  refine ql_ro rfl (fun w hS => ro_fieldAddr (k := 10) rfl fo_199_10) ?_
  refine ql_ro rfl (fun w hS => ro_loadB rfl sc_197 (Blk.of_heap hG hS) ((op.row 10 (by decide)).trans hrow10)) ?_
  refine ql_ro rfl (fun w hS => ro_move rfl) ?_
  refine ql_ro rfl (fun w hS => ro_nilCheck rfl) ?_
  refine ql_ro rfl (fun w hS => ro_fieldAddr (k := 10) rfl fo_199_10) ?_
  refine ql_ro rfl (fun w hS => ro_loadB rfl sc_197 (Blk.of_heap hG hS) ((op.row 10 (by decide)).trans hrow10)) ?_
  refine ql_ro rfl (fun w hS => ro_lenL rfl se_197) ?_
  refine ql_ro rfl (fun w hS => ro_arith rfl rfl rfl (Go.IntWalk.i64_in _ (by omega))) ?_
  refine ql_ro rfl (fun w hS => ro_sliceH (h := rest.length) rfl rfl se_197 (by omega) (by omega)) ?_
  refine ql_ro rfl (fun w hS => ro_nilCheck rfl) ?_
  refine ql_ro rfl (fun w hS => ro_fieldAddr (k := 10) rfl fo_199_10) ?_
  refine ql_put rfl rfl rfl rfl sz_197 hG ((by show _ < (rws fnc R_).length; rw [rws_len fnc_len, op.l]; omega)) (rfl) (fun w3 hG F3 => ?_)
  replace h2 := F3.blkO h2 (by first | omega | exact ow_ne (by assumption) (by assumption) (by omega))
  have hF3 := (F3)
  obtain ⟨ow1, x1, x3, hR1⟩ := hR.lpsS (w1 := { w2 with drawn := w2.drawn + 1 }) (u1 := { w2 with drawn := w2.drawn + 1 }) (lps' := rest) (rows' := rows') (va := some ⟨gp, 0, none⟩) (vc := capp) op hF1.thenDrew ⟨hr2, .inr ⟨gp, capp, lp, rfl, hP1, by omega, k2, k3, by rw [show lp.take (rest.length * 2) = (lp.take (f.lps.length * 2)).take (rest.length * 2) by rw [List.take_take]; congr 1; omega, k4, hrw, ← hr2, List.take_left]⟩⟩ (Fram.refl _ _) (by rw [ep]; exact fun b q ↦ .inl q) hF3 hG (fun {ow'} hx hf ↦ p3.off hf hx hta (by omega))
  have hv1 := hv.far x3 (fun c y _ ↦ off_ne hta y (by omega) (by omega)) x1
  have hpat1 : ∀ (i p : Nat), br[i]? = some p → ∃ u, vals[i]? = some u ∧ Pat E _ ow1 f.j p u := fun i p hp ↦ by
    obtain ⟨u, y1, y2⟩ := hpat i p hp
    exact ⟨u, y1, y2.far x3 (fun c y _ ↦ off_ne hta y (by omega) (by omega)) x1⟩
  have hFr := hR.frL hj x3
  clear hP1
  refine x_then (hK2 _ _ ?_)
  clear hK2 K2
  refine forget [(2, _)] ⟨rfl, trivial⟩ (fun e => ?_)
  refine c_seq (fun K3 hK3 => ?_)
  refine c_reg ?_ -- region 2 stmt.go:81
  refine wl (ro_fieldAddr (k := 1) rfl fo_278_1) ?_
  refine wl (ro_loadB rfl sc_276 (by assumption) rfl) ?_
  refine wl (ro_lenL rfl se_276) ?_
  refine wl (ro_move rfl) ?_
  refine wl_nil (x_then (hK3 _ _ ?_))
  clear hK3 K3
  refine c_block ?_
  -- loop@r3: live slots [32, 33, 34]
  refine c_loopG (fun m a u => ∃ i ow2, m = br.length - i ∧ i ≤ br.length ∧ Xt w ow ow2 ∧ Fram (tg ow cpT) w u ∧ CM E u ow2 O S ({ f with code := pch f.code (br.take i) f.code.length, lps := rest } :: q) ∧ OwT u ow2 (1000 + 13 * rest.length + f.j) (.slice va br.length vc) 1 1 br.length vals ∧ (∀ (i p : Nat), br[i]? = some p → ∃ x, vals[i]? = some x ∧ Pat E u ow2 f.j p x) ∧ ∃ e, a = Fr 41 (upds e [(32, .slice va br.length vc), (33, i64c br.length), (34, i64c i)]) []) br.length ⟨0, ow1, rfl, by omega, x1, hFr, hR1, hv1, hpat1, kp _ ⟨rfl, rfl, rfl, trivial⟩⟩ ?_
  clear hR1 hv1 hpat1 hFr h2 x1 x3
  rintro m a u ⟨i, ow2, rfl, hi, hX, hF, hR2, hv2, hpat2, e, rfl⟩
  refine c_seq (fun K4 hK4 => ?_)
  refine c_reg ?_ -- region 3 stmt.go:81
  refine wl (ro_cmp rfl rfl rfl) ?_
  refine wl_nil (x_then (hK4 _ _ ?_))
  clear hK4 K4
  refine forget [(32, _), (33, _), (34, _), (35, _)] ⟨rfl, rfl, rfl, rfl, trivial⟩ (fun e => ?_)
  refine c_seq (fun K5 hK5 => ?_)
  refine wc_cond rfl (fun hc35 => ?_) (fun hc35 => ?_)
  · try simp only [decide_eq_true_eq, decide_eq_false_iff_not, Bool.not_eq_true', Bool.not_eq_false', Bool.not_eq_eq_eq_not, Bool.not_true, Bool.not_false, beq_iff_eq, bne_iff_ne, ne_eq, beq_eq_false_iff_ne, bne_eq_false_iff_eq, gt_iff_lt, ge_iff_le, Int.not_lt, Int.not_le] at hc35
    obtain ⟨p, hpi⟩ : ∃ p, br[i]? = some p := ⟨_, List.getElem?_eq_getElem (by omega)⟩
    obtain ⟨x, hx1, hx2⟩ := hpat2 i p hpi
    obtain ⟨gb2, capb, lb, eb, hB, y1, y2, y3, y4⟩ := hv2.o.pos (by omega)
    rw [eb]
    refine c_skip (x_then (hK5 _ _ ?_))
    clear hK5 K5
    refine forget [(32, _), (33, _), (34, _)] ⟨rfl, rfl, rfl, trivial⟩ (fun e => ?_)
    refine c_seq (fun K6 hK6 => ?_)
    refine c_block ?_
    refine c_seq (fun K7 hK7 => ?_)
    refine c_reg ?_ -- region 4 stmt.go:81
    refine wl (ro_indexAddr (et := 1) (k := 1) rfl rfl se_276 rfl (by omega)) ?_
    refine wl (ro_loadB rfl sc_1 (hB) ((by rw [Nat.zero_add]; exact own_get y4 (by rw [Nat.mul_one]; exact hx1)))) ?_
    refine wl (ro_assign rfl) ?_
    refine wl_nil (x_then (hK7 _ _ ?_))
    clear hK7 K7
    refine c_reg ?_ -- region 5 stmt.go:82
    refine wl (ro_move rfl) ?_
    refine wl_callV rfl rfl (patch237F hR2 hx2 (by show p < (pch f.code (br.take i) f.code.length).length; rw [pch_len]; exact hp p (List.mem_of_getElem? hpi)) (by show (pch f.code (br.take i) f.code.length).length ≤ _; rw [pch_len]; exact hc)) ?_
    rintro r9 u9 ⟨rfl, ow9, x9, f9, r9⟩
    refine wl_nil (x_blk (x_then (hK6 _ _ ?_)))
    clear hK6 K6
    refine c_reg ?_ -- region 6 stmt.go:81
    refine wl (ro_arith rfl rfl rfl (Go.IntWalk.i64_in _ (by omega))) ?_
    refine wl (ro_move rfl) ?_
    refine wl_nil (x_then ?_)
    rw [eb]
    refine ⟨br.length - (i + 1), by omega, i + 1, ow9, rfl, by omega, hX.trans hF.size x9, cp_trans' hX hF (f9.mono (fun c _ y ↦ ?_)), ?_, ?_, fun k p' hk ↦ ?_, kp _ ⟨rfl, rfl, rfl, trivial⟩⟩
    · show cpT (ow2 c)
      rw [y]; unfold cpT; show _ ∨ _; simp only; omega
    · rw [List.take_add_one, hpi, Option.toList_some, pch_snoc]
      have := r9
      rw [show (pch f.code (br.take i) f.code.length).length = f.code.length from pch_len _ _ _] at this
      exact this
    · rw [← eb]
      exact hv2.far f9 (fun c y _ q ↦ by have q : ow2 c = 260 + f.j := q; omega) x9
    · obtain ⟨x, k1, k2⟩ := hpat2 k p' hk
      exact ⟨x, k1, k2.far f9 (fun c y _ q ↦ by have q : ow2 c = 260 + f.j := q; omega) x9⟩
  · try simp only [decide_eq_true_eq, decide_eq_false_iff_not, Bool.not_eq_true', Bool.not_eq_false', Bool.not_eq_eq_eq_not, Bool.not_true, Bool.not_false, beq_iff_eq, bne_iff_ne, ne_eq, beq_eq_false_iff_ne, bne_eq_false_iff_eq, gt_iff_lt, ge_iff_le, Int.not_lt, Int.not_le] at hc35
    have hi9 : i = br.length := by omega
    subst hi9
    rw [List.take_length] at hR2
    refine c_exit (x_thenX (x_thenX (x_blkX ?_)))
    refine bp_end Tryz.results236 rfl ?_
    exact ⟨rfl, ow2, hX, hF, hR2⟩
end
end Go.Proofs.Qxb6500568aGreatDoor
