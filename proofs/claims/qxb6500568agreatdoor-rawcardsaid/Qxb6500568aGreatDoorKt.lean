import Derived.Test.Qxb6500568aGreatDoorKs
/- The machine: a variable captured. -/
namespace Go.Proofs.Qxb6500568aGreatDoor
open Ieee
set_option linter.unusedVariables false
set_option linter.unusedSimpArgs false
set_option linter.unusedSectionVars false

theorem capL_skip {cs : List VCell} {pl new : Nat} : ∀ {hd tl : List Nat}, (∀ c ∈ hd, pl < plC cs c) → (capL cs pl new (hd ++ tl)).1 = (capL cs pl new tl).1 ∧ (capL cs pl new (hd ++ tl)).2 = hd ++ (capL cs pl new tl).2
  | [], tl, _ => ⟨rfl, rfl⟩
  | c :: hd, tl, h => by
    obtain ⟨h1, h2⟩ := capL_skip (new := new) (tl := tl) (fun d hd => h d (List.mem_cons_of_mem _ hd))
    have e : capL cs pl new (c :: (hd ++ tl)) = ((capL cs pl new (hd ++ tl)).1, c :: (capL cs pl new (hd ++ tl)).2) := by
      show (if pl < plC cs c then _ else _) = _
      exact if_pos (h c List.mem_cons_self)
    show (capL cs pl new (c :: (hd ++ tl))).1 = _ ∧ (capL cs pl new (c :: (hd ++ tl))).2 = _
    rw [e]
    exact ⟨h1, by show c :: _ = _; rw [h2]; rfl⟩
theorem capL_here {cs : List VCell} {pl new c : Nat} {tl : List Nat} (h : plC cs c = pl) : capL cs pl new (c :: tl) = (some c, c :: tl) := by
  unfold capL
  rw [if_neg (by omega), if_pos h]
theorem capL_new {cs : List VCell} {pl new : Nat} {tl : List Nat} (h : ∀ c r, tl = c :: r → plC cs c < pl) : capL cs pl new tl = (none, new :: tl) := by
  rcases tl with _ | ⟨c, r⟩
  · rfl
  · have := h c r rfl
    unfold capL
    rw [if_neg (by omega), if_neg (by omega)]
section
variable {P : Program} {n : Nat} {e : Nat → Option Value} {w : World}
theorem ro_sliceLi {t et k b o len cap l : Nat} {q : IntKind} {lo : Int} {x y : Operand} (hx : evO n e x = some (.slice (some ⟨b, o, none⟩) len cap)) (hy : evO n e y = some (.int q lo)) (ht : selB P t et k = true)
    (hl : lo = (l : Int)) (h1 : l ≤ len) : RO P n e w (.slice t x (some y) none none) (.slice (some ⟨b, if cap = l then o else o + l * k, none⟩) (len - l) (cap - l)) := by
  have := ro_sliceL (P := P) (n := n) (e := e) (w := w) hx hy ht hl h1
  have e1 : (if cap = l then (⟨b, o, none⟩ : Addr) else ⟨b, o + l * k, none⟩) = ⟨b, if cap = l then o else o + l * k, none⟩ := by split <;> rfl
  rw [e1] at this
  exact this
end
theorem ro_sliceLn {P : Program} {n : Nat} {e : Nat → Option Value} {w : World} {t et k b o len cap l : Nat} {q : IntKind} {lo : Int} {x y : Operand} (hx : evO n e x = some (.slice (some ⟨b, o, none⟩) len cap)) (hy : evO n e y = some (.int q lo)) (ht : selB P t et k = true)
    (hl : lo = (l : Int)) (h1 : l ≤ len) (hc : cap ≠ l) : RO P n e w (.slice t x (some y) none none) (.slice (some ⟨b, o + l * k, none⟩) (len - l) (cap - l)) := by
  have := ro_sliceL (P := P) (n := n) (e := e) (w := w) hx hy ht hl h1
  rw [if_neg hc] at this
  exact this
/-- a row with a place opened in its midst. -/
theorem mid_put {l A B : List Value} {c z0 : Value} {cap : Nat} (h : l.take (A.length + B.length + 1) = A ++ B ++ [z0]) (hl : A.length + B.length + 1 ≤ l.length) (hcap : l.length = cap) :
    ((l.take (if cap = A.length + 1 then 0 else 0 + (A.length + 1) * 1) ++ (l.drop (0 + A.length * 1)).take (B.length * 1) ++ l.drop ((if cap = A.length + 1 then 0 else 0 + (A.length + 1) * 1) + B.length * 1)).set (0 + A.length * 1) c) = A ++ c :: B ++ l.drop (A.length + B.length + 1) := by
  have hd : l = A ++ B ++ [z0] ++ l.drop (A.length + B.length + 1) := by rw [← h, List.take_append_drop]
  obtain ⟨r, hr⟩ : ∃ r, r = l.drop (A.length + B.length + 1) := ⟨_, rfl⟩
  rw [← hr] at hd ⊢
  have hAB : (l.drop (0 + A.length * 1)).take (B.length * 1) = B := by
    rw [hd, Nat.zero_add, Nat.mul_one, Nat.mul_one, List.append_assoc, List.append_assoc, List.drop_left, List.take_left]
  rw [hAB]
  by_cases hc : cap = A.length + 1
  · have hB0 : B = [] := List.length_eq_zero_iff.1 (by omega)
    subst hB0
    rw [if_pos hc]
    simp only [List.take_zero, List.length_nil, Nat.zero_mul, Nat.add_zero, List.drop_zero, List.append_nil, List.nil_append, Nat.zero_add, Nat.mul_one]
    rw [hd]
    simp
  · rw [if_neg hc]
    have h1 : l.drop (0 + (A.length + 1) * 1 + B.length * 1) = r := by
      rw [hr]
      congr 1
      omega
    rw [h1]
    have h2 : ∃ b0, l.take (0 + (A.length + 1) * 1) = A ++ [b0] := by
      rcases B with _ | ⟨b0, B'⟩
      · exact ⟨z0, by rw [hd, show 0 + (A.length + 1) * 1 = A.length + 1 by omega, List.append_nil, List.append_assoc, List.take_length_add_append]; rfl⟩
      · refine ⟨b0, ?_⟩
        rw [hd, show 0 + (A.length + 1) * 1 = A.length + 1 by omega, List.append_assoc, List.append_assoc, List.take_length_add_append]
        rfl
    obtain ⟨b0, h2⟩ := h2
    rw [h2]
    simp
section
variable {P : Program} {n : Nat} {e : Nat → Option Value} {w : World} {ds : List Deferred} {ops : Array Oper} {Q : Exit → Act → World → Prop} {rest : List Oper} {ty : TypeId} {ps : String} {af : Array Edge} {d : Nat}
theorem ql_copyL {S : World → Prop} {last : Nat} {t t' et k g od dLen dCap b os sLen sCap m : Nat} {x y : Operand} {l l2 cs : List Value} {t1 t2 : TypeId} (ho : ops[last]? = some ⟨some d, .call ⟨.builtin .copy, #[x, y], #[t, t']⟩, ty, ps, af, none⟩) (hx : evO n e x = some (.slice (some ⟨g, od, none⟩) dLen dCap)) (hy : evO n e y = some (.slice (some ⟨b, os, none⟩) sLen sCap)) (ht : selB P t et k = true)
    (hB : Blk w.heap g l t1) (hB2 : Blk w.heap b l2 t2) (hm : Nat.min sLen dLen = m) (hn : (l2.drop os).take (m * k) = cs) (hl : cs.length = m * k) (h1 : ∀ u ∈ cs, u.oneCell' = true) (hfit : od + m * k ≤ l.length)
    (K : ∀ w1, Blk w1.heap g (l.take od ++ cs ++ l.drop (od + m * k)) t1 → Fram (one g) w w1 → Q .normal (Fr n (upd e d (i64c m)) ds) w1) : WQ P ops Q S last [] (Fr n e ds) w :=
  ql_lastE ho (eo_copy hx hy ht hB hB2 hm hn hl h1 hfit) (K _ (hB.set _) (set_fram hB _))
end
theorem cp_one {l : List Value} {A B : List Nat} (h : l.take (B.length + A.length + 1) = A.map i64c ++ B.map i64c ++ [i64c 0]) (hl : B.length + A.length + 1 ≤ l.length) : ∀ u ∈ (l.drop (0 + A.length * 1)).take (B.length * 1), u.oneCell' = true := fun u hu => by
  have e1 : (l.drop (0 + A.length * 1)).take (B.length * 1) = B.map i64c := by
    rw [Nat.zero_add, Nat.mul_one, Nat.mul_one, ← List.take_append_drop (B.length + A.length + 1) l, h, List.append_assoc, List.append_assoc, List.drop_left' (by simp), List.take_left' (by simp)]
  rw [e1] at hu
  obtain ⟨n, -, rfl⟩ := List.mem_map.1 hu
  rfl
section
variable {C : VC} {w w' w1 u u1 u2 : World} {ow ow' ow1 : Nat → Nat} {V : VS} {e fuel t : Nat} {out : Str} {T : List Tb} {Vv : Nat → Value} {U : Nat → Nat → Value} {x : VTh} {L : VL}
def cpS (C : VC) (ow : Nat → Nat) (t : Nat) (b : Nat) : Prop := b = C.E.mb ∨ b = C.E.tb ∨ ow b = 408 ∨ ow b = 460 + t
set_option maxHeartbeats 8000000 in
theorem cap289 (h : VW C w ow V e fuel out T Vv U) (hx : V.ths[t]? = some x) {pl : Nat} (hb : ∀ c ∈ x.opn, c < V.cells.length ∧ plC V.cells c < x.stack.length) (hd : x.opn.Pairwise (fun c d => plC V.cells d < plC V.cells c)) (he : e + 1 ≤ 300) :
    Ret Tryz.prog 289 [ptr C.E.mb, i64c t, tptr C t, i64c pl] w (fun r w' => r = i64c (capV V t pl).1 ∧ ∃ ow' Vv' U', Xt w ow ow' ∧ Fram (cpS C ow t) w w' ∧ VW C w' ow' (capV V t pl).2 (e + 1) fuel out T Vv' U' ∧ (∀ i, i ≠ 8 → Vv' i = Vv i) ∧ (∀ j i, ¬ (j = t ∧ i = 4) → U' j i = U j i)) := by
  obtain ⟨e0, rfl⟩ : ∃ e0, e0 = e := ⟨e, rfl⟩
  have ht := h.lt hx
  have htl := (List.getElem?_eq_some_iff.1 hx).1
  have htt := h.tt.1
  have htm := h.tt.2
  have hcb := h.cb
  have hlen := h.sb hx
  have hxD : V.ths.getD t VTh.zero = x := by rw [List.getD_eq_getElem?_getD, hx]; rfl
  have hol : x.opn.length ≤ 100000 := by have := pw_len hd (fun d q => (hb d q).2); omega
  have hce : V.cells.length ≤ 7500 := by
    obtain ⟨L, op, vl⟩ := h.ex
    have := vl.eb
    have := h.eb
    omega
  obtain ⟨lT, hT, hTl, -, -, hTr, -⟩ := h.thA hx
  obtain ⟨lM, hM, -, -, -, -, -, -, -, -, hM8, -⟩ := h.mbA
  obtain ⟨og, oc, hU4⟩ : ∃ og oc, U t 4 = .slice og x.opn.length oc := by
    obtain ⟨L, op, vl⟩ := h.ex
    exact (op.ok vl hx ht).form
  have hN : Fram none' w w := Fram.refl _ _
  have hT4 : lT[t * 5 + 4]? = some (.slice og x.opn.length oc) := by rw [hTr 4 (by simp), hU4]
  have hrd : ∀ {hd' tl : List Nat} {c : Nat}, x.opn = hd' ++ c :: tl → ∃ ob eg ecap el ol, og = some ⟨ob, 0, none⟩ ∧ Vv 8 = .slice (some ⟨eg, 0, none⟩) V.cells.length ecap ∧ Blk w.heap eg el 413 ∧ Blk w.heap ob ol 3 ∧ ol[0 + tl.length * 1]? = some (i64c c) ∧ c < V.cells.length ∧ el[0 + c * 5 + 1]? = some (i64c (plC V.cells c)) := fun {hd' tl c} q => by
    have hm : c ∈ x.opn := by rw [q]; simp
    have hcl := (hb c hm).1
    have hzc : V.cells[c]? = some V.cells[c] := List.getElem?_eq_getElem hcl
    obtain ⟨eg, ecap, el, e8, hB1, t8, r8, -, -⟩ := h.cell hzc
    obtain ⟨og1, oc1, ol, e4, hB3, t4, -, r4⟩ := h.opnA hx (by rw [q]; simp)
    rw [hU4] at e4
    injection e4 with e5
    refine ⟨og1, eg, ecap, el, ol, e5, e8, hB1, hB3, r4 _ _ ?_, hcl, ?_⟩
    · rw [q, List.reverse_append, List.reverse_cons, List.append_assoc, List.getElem?_append_right (by rw [List.length_reverse]; exact Nat.le_refl _), List.length_reverse, Nat.sub_self]; rfl
    · have := row_get r8 (show 1 < 5 by decide)
      rw [this]
      unfold plC
      rw [List.getD_eq_getElem?_getD, hzc]; rfl
  refine ret_of Tryz.func289 rfl Tryz.ntmps289 rfl ?_
  refine c_seq (fun K1 hK1 => ?_)
  refine c_reg ?_ -- region 0 cells.go:7
  refine wl (ro_assign rfl) ?_
  refine wl_nil (x_then (hK1 _ _ ?_))
  clear hK1 K1
  refine forget [(0, _), (1, _), (2, _), (3, _)] ⟨rfl, rfl, rfl, rfl, trivial⟩ (fun e => ?_)
  refine c_seq (fun K2 hK2 => ?_)
  refine c_reg ?_ -- region 1 cells.go:8
  refine wl (ro_move rfl) ?_
  refine wl (ro_nilCheck rfl) ?_
  refine wl (ro_fieldAddr (k := 4) rfl fo_269_4) ?_
  refine wl (ro_loadB rfl sc_86 (hT) (hT4)) ?_
  refine wl (ro_lenL rfl se_86) ?_
  refine wl (ro_assign rfl) ?_
  refine wl_nil (x_then (hK2 _ _ ?_))
  clear hK2 K2
  refine forget [(0, _), (1, _), (2, _), (3, _), (9, _)] ⟨rfl, rfl, rfl, rfl, rfl, trivial⟩ (fun e => ?_)
  refine c_mid (fun a u => ∃ hd' tl, x.opn = hd' ++ tl ∧ (∀ c ∈ hd', pl < plC V.cells c) ∧ (∀ c r, tl = c :: r → plC V.cells c ≤ pl) ∧ Fram none' w u ∧ ∃ e', a = Fr 116 (upds e' [(0, ptr C.E.mb), (1, i64c t), (2, tptr C t), (3, i64c pl), (9, i64c tl.length)]) []) ?_ ?_
  · skip
    refine c_block ?_
    -- loop@r2: live slots [0, 1, 2, 3, 9]
    refine c_loopG (fun m a u => ∃ hd' tl, m = tl.length ∧ x.opn = hd' ++ tl ∧ (∀ c ∈ hd', pl < plC V.cells c) ∧ Fram none' w u ∧ ∃ e', a = Fr 116 (upds e' [(0, ptr C.E.mb), (1, i64c t), (2, tptr C t), (3, i64c pl), (9, i64c tl.length)]) []) _ ⟨[], x.opn, rfl, rfl, (fun c q => by cases q), hN, kp _ ⟨rfl, rfl, rfl, rfl, rfl, trivial⟩⟩ ?_
    rintro m a u ⟨hd', tl, rfl, hsp, hab, hN1, e', rfl⟩
    have hT1 := hN1.blkN hT
    have hM1 := hN1.blkN hM
    refine c_seq (fun K3 hK3 => ?_)
    refine c_seq (fun K4 hK4 => ?_)
    rcases tl with _ | ⟨c, tl'⟩
    · skip
      refine c_pi [(0, false), (1, false), (2, false), (3, false), (4, false), (5, false), (6, false), (7, false), (8, false), (9, false), (10, false), (11, false), (12, false), (13, false), (14, false), (15, false), (16, false), (17, false), (18, false), (19, false), (20, false)] (SameH _) mixed (by kernel_rfl) rfl (by kernel_rfl) (po_then (po_then (po_then (po_blk (po_then (po_bp)))))) (sameH_now _ _) ?_ -- region 2 cells.go:9
      refine pi_ro rfl (fun w hS => ro_move rfl) ?_
      refine pi_ro rfl (fun w hS => ro_cmp (r := false) rfl rfl (by simp)) ?_
      refine pi_ro rfl (fun w hS => ro_move rfl) ?_
      refine pi_gno rfl rfl ?_
      refine pi_gno rfl rfl ?_
      refine pi_gno rfl rfl ?_
      refine pi_gno rfl rfl ?_
      refine pi_gno rfl rfl ?_
      refine pi_gno rfl rfl ?_
      refine pi_gno rfl rfl ?_
      refine pi_gno rfl rfl ?_
      refine pi_gno rfl rfl ?_
      refine pi_gno rfl rfl ?_
      refine pi_gno rfl rfl ?_
      refine pi_gno rfl rfl ?_
      refine pi_gno rfl rfl ?_
      refine pi_gno rfl rfl ?_
      refine pi_gno rfl rfl ?_
      refine pi_gno rfl rfl ?_
      refine pi_gno rfl rfl ?_
      refine pi_ro rfl (fun w hS => ro_pick rfl rfl rfl) ?_
      refine pi_nil (x_then (hK4 _ _ ?_))
      clear hK4 K4
      refine wc_condF rfl ?_
      refine c_exit (x_thenX (x_thenX (x_blkX (x_then ?_))))
      exact ⟨hd', [], hsp, hab, (fun c r q ↦ by cases q), hN1.thenDrew, kp _ ⟨rfl, rfl, rfl, rfl, rfl, trivial⟩⟩
    · skip
      obtain ⟨ob, eg, ecap, el, ol, q1, q2, hB1, hB2, q3, q4, q5⟩ := hrd hsp
      subst q1
      replace hB1 := hN1.blkN hB1
      replace hB2 := hN1.blkN hB2
      have hlt : (hd' ++ c :: tl').length ≤ 100000 := by rw [← hsp]; exact hol
      have htl' : tl'.length < x.opn.length := by rw [hsp]; simp; omega
      have hM8' : lM[8]? = some (.slice (some ⟨eg, 0, none⟩) V.cells.length ecap) := by rw [hM8, q2]
      refine c_pi [(0, false), (1, false), (2, false), (3, false), (4, false), (5, false), (6, false), (7, false), (8, false), (9, false), (10, false), (11, false), (12, false), (13, false), (14, false), (15, false), (16, false), (17, false), (18, false), (19, false), (20, false)] (SameH _) mixed (by kernel_rfl) rfl (by kernel_rfl) (po_then (po_then (po_then (po_blk (po_then (po_bp)))))) (sameH_now _ _) ?_ -- region 2 cells.go:9
      refine pi_ro rfl (fun w hS => ro_move rfl) ?_
      refine pi_ro rfl (fun w hS => ro_cmp (r := true) rfl rfl (by simp)) ?_
      refine pi_ro rfl (fun w hS => ro_move rfl) ?_
      refine pi_gyes rfl rfl (fun w hS => ro_move rfl) ?_
      refine pi_gyes rfl rfl (fun w hS => ro_nilCheck rfl) ?_
      refine pi_gyes rfl rfl (fun w hS => ro_fieldAddr (k := 8) rfl fo_89_8) ?_
      refine pi_gyes rfl rfl (fun w hS => ro_loadB rfl sc_87 (Blk.of_heap hM1 hS) (hM8')) ?_
      refine pi_gyes rfl rfl (fun w hS => ro_move rfl) ?_
      refine pi_gyes rfl rfl (fun w hS => ro_nilCheck rfl) ?_
      refine pi_gyes rfl rfl (fun w hS => ro_fieldAddr (k := 4) rfl fo_269_4) ?_
      refine pi_gyes rfl rfl (fun w hS => ro_loadB rfl sc_86 (Blk.of_heap hT1 hS) (hT4)) ?_
      refine pi_gyes rfl rfl (fun w hS => ro_move rfl) ?_
      refine pi_gyes rfl rfl (fun w hS => ro_arith (a := ((tl'.length + 1 : Nat) : Int)) (b := 1) rfl rfl rfl (Go.IntWalk.i64_in _ (by omega))) ?_
      refine pi_gyes rfl rfl (fun w hS => ro_indexAddr (et := 3) (k := 1) rfl rfl se_86 ((show (((tl'.length + 1 : Nat) : Int) - 1) = ((tl'.length : Nat) : Int) by omega)) (htl')) ?_
      refine pi_gyes rfl rfl (fun w hS => ro_loadB rfl sc_3 (Blk.of_heap hB2 hS) (q3)) ?_
      refine pi_gyes rfl rfl (fun w hS => ro_indexAddr (et := 413) (k := 5) rfl rfl se_87 (rfl) (q4)) ?_
      refine pi_gyes rfl rfl (fun w hS => ro_fieldAddr (k := 1) rfl fo_413_1) ?_
      refine pi_gyes rfl rfl (fun w hS => ro_loadB rfl sc_3 (Blk.of_heap hB1 hS) (q5)) ?_
      refine pi_gyes rfl rfl (fun w hS => ro_move rfl) ?_
      refine pi_gyes rfl rfl (fun w hS => ro_cmp rfl rfl rfl) ?_
      refine pi_ro rfl (fun w hS => ro_pick rfl rfl rfl) ?_
      refine pi_nil (x_then (hK4 _ _ ?_))
      clear hK4 K4
      refine wc_cond rfl (fun hc36 => ?_) (fun hc36 => ?_)
      · try simp only [decide_eq_true_eq, decide_eq_false_iff_not, Bool.not_eq_true', Bool.not_eq_false', Bool.not_eq_eq_eq_not, Bool.not_true, Bool.not_false, beq_iff_eq, bne_iff_ne, ne_eq, beq_eq_false_iff_ne, bne_eq_false_iff_eq, gt_iff_lt, ge_iff_le, Int.not_lt, Int.not_le] at hc36
        refine c_skip (x_then (hK3 _ _ ?_))
        clear hK3 K3
        refine c_block ?_
        refine c_reg ?_ -- region 3 cells.go:10
        refine wl (ro_move rfl) ?_
        refine wl (ro_subN (m := tl'.length + 1) (k := 1) (r := tl'.length) rfl rfl rfl (by omega)) ?_
        refine wl (ro_assign rfl) ?_
        refine wl_nil (x_blk (x_then ?_))
        refine ⟨tl'.length, by simp, hd' ++ [c], tl', rfl, by rw [hsp]; simp, fun d q ↦ ?_, hN1.thenDrew, kp _ ⟨rfl, rfl, rfl, rfl, rfl, trivial⟩⟩
        rcases List.mem_append.1 q with q | q
        · exact hab d q
        · rw [List.mem_singleton.1 q]; omega
      · try simp only [decide_eq_true_eq, decide_eq_false_iff_not, Bool.not_eq_true', Bool.not_eq_false', Bool.not_eq_eq_eq_not, Bool.not_true, Bool.not_false, beq_iff_eq, bne_iff_ne, ne_eq, beq_eq_false_iff_ne, bne_eq_false_iff_eq, gt_iff_lt, ge_iff_le, Int.not_lt, Int.not_le] at hc36
        refine c_exit (x_thenX (x_thenX (x_blkX (x_then ?_))))
        exact ⟨hd', c :: tl', hsp, hab, (fun d r q ↦ by injection q with q1 q2; subst q1; omega), hN1.thenDrew, kp _ ⟨rfl, rfl, rfl, rfl, rfl, trivial⟩⟩
  rintro a u ⟨hd', tl, hsp, hab, hbe, hN1, e', rfl⟩
  have hT1 := hN1.blkN hT
  have hM1 := hN1.blkN hM
  refine c_mid (fun a u => ∃ hd' tl, x.opn = hd' ++ tl ∧ capL V.cells pl V.cells.length x.opn = (none, hd' ++ V.cells.length :: tl) ∧ Fram none' w u ∧ ∃ e', a = Fr 116 (upds e' [(0, ptr C.E.mb), (1, i64c t), (2, tptr C t), (3, i64c pl), (9, i64c tl.length)]) []) ?_ ?_
  · skip
    refine c_seq (fun K5 hK5 => ?_)
    rcases tl with _ | ⟨c, tl'⟩
    · skip
      refine c_pi [(0, false), (1, false), (2, false), (3, false), (4, false), (5, false), (6, false), (7, false), (8, false), (9, false), (10, false), (11, false), (12, false), (13, false), (14, false), (15, false), (16, false), (17, false), (18, false), (19, false), (20, false)] (SameH _) mixed (by kernel_rfl) rfl (by kernel_rfl) (po_then (po_then (po_bp))) (sameH_now _ _) ?_ -- region 4 cells.go:12
      refine pi_ro rfl (fun w hS => ro_move rfl) ?_
      refine pi_ro rfl (fun w hS => ro_cmp (r := false) rfl rfl (by simp)) ?_
      refine pi_ro rfl (fun w hS => ro_move rfl) ?_
      refine pi_gno rfl rfl ?_
      refine pi_gno rfl rfl ?_
      refine pi_gno rfl rfl ?_
      refine pi_gno rfl rfl ?_
      refine pi_gno rfl rfl ?_
      refine pi_gno rfl rfl ?_
      refine pi_gno rfl rfl ?_
      refine pi_gno rfl rfl ?_
      refine pi_gno rfl rfl ?_
      refine pi_gno rfl rfl ?_
      refine pi_gno rfl rfl ?_
      refine pi_gno rfl rfl ?_
      refine pi_gno rfl rfl ?_
      refine pi_gno rfl rfl ?_
      refine pi_gno rfl rfl ?_
      refine pi_gno rfl rfl ?_
      refine pi_gno rfl rfl ?_
      refine pi_ro rfl (fun w hS => ro_pick rfl rfl rfl) ?_
      refine pi_nil (x_then (hK5 _ _ ?_))
      clear hK5 K5
      refine wc_condF rfl ?_
      refine c_skip (x_then ?_)
      exact ⟨hd', [], hsp, by rw [hsp]; exact Prod.ext (by rw [(capL_skip hab).1]; rfl) (by rw [(capL_skip hab).2]; rfl), hN1.thenDrew, kp _ ⟨rfl, rfl, rfl, rfl, rfl, trivial⟩⟩
    · skip
      obtain ⟨ob, eg, ecap, el, ol, q1, q2, hB1, hB2, q3, q4, q5⟩ := hrd hsp
      subst q1
      replace hB1 := hN1.blkN hB1
      replace hB2 := hN1.blkN hB2
      have hlt : (hd' ++ c :: tl').length ≤ 100000 := by rw [← hsp]; exact hol
      have htl' : tl'.length < x.opn.length := by rw [hsp]; simp; omega
      have hM8' : lM[8]? = some (.slice (some ⟨eg, 0, none⟩) V.cells.length ecap) := by rw [hM8, q2]
      have hle := hbe c tl' rfl
      refine c_pi [(0, false), (1, false), (2, false), (3, false), (4, false), (5, false), (6, false), (7, false), (8, false), (9, false), (10, false), (11, false), (12, false), (13, false), (14, false), (15, false), (16, false), (17, false), (18, false), (19, false), (20, false)] (SameH _) mixed (by kernel_rfl) rfl (by kernel_rfl) (po_then (po_then (po_bp))) (sameH_now _ _) ?_ -- region 4 cells.go:12
      refine pi_ro rfl (fun w hS => ro_move rfl) ?_
      refine pi_ro rfl (fun w hS => ro_cmp (r := true) rfl rfl (by simp)) ?_
      refine pi_ro rfl (fun w hS => ro_move rfl) ?_
      refine pi_gyes rfl rfl (fun w hS => ro_move rfl) ?_
      refine pi_gyes rfl rfl (fun w hS => ro_nilCheck rfl) ?_
      refine pi_gyes rfl rfl (fun w hS => ro_fieldAddr (k := 8) rfl fo_89_8) ?_
      refine pi_gyes rfl rfl (fun w hS => ro_loadB rfl sc_87 (Blk.of_heap hM1 hS) (hM8')) ?_
      refine pi_gyes rfl rfl (fun w hS => ro_move rfl) ?_
      refine pi_gyes rfl rfl (fun w hS => ro_nilCheck rfl) ?_
      refine pi_gyes rfl rfl (fun w hS => ro_fieldAddr (k := 4) rfl fo_269_4) ?_
      refine pi_gyes rfl rfl (fun w hS => ro_loadB rfl sc_86 (Blk.of_heap hT1 hS) (hT4)) ?_
      refine pi_gyes rfl rfl (fun w hS => ro_move rfl) ?_
      refine pi_gyes rfl rfl (fun w hS => ro_arith (a := ((tl'.length + 1 : Nat) : Int)) (b := 1) rfl rfl rfl (Go.IntWalk.i64_in _ (by omega))) ?_
      refine pi_gyes rfl rfl (fun w hS => ro_indexAddr (et := 3) (k := 1) rfl rfl se_86 ((show (((tl'.length + 1 : Nat) : Int) - 1) = ((tl'.length : Nat) : Int) by omega)) (htl')) ?_
      refine pi_gyes rfl rfl (fun w hS => ro_loadB rfl sc_3 (Blk.of_heap hB2 hS) (q3)) ?_
      refine pi_gyes rfl rfl (fun w hS => ro_indexAddr (et := 413) (k := 5) rfl rfl se_87 (rfl) (q4)) ?_
      refine pi_gyes rfl rfl (fun w hS => ro_fieldAddr (k := 1) rfl fo_413_1) ?_
      refine pi_gyes rfl rfl (fun w hS => ro_loadB rfl sc_3 (Blk.of_heap hB1 hS) (q5)) ?_
      refine pi_gyes rfl rfl (fun w hS => ro_move rfl) ?_
      refine pi_gyes rfl rfl (fun w hS => ro_cmp rfl rfl rfl) ?_
      refine pi_ro rfl (fun w hS => ro_pick rfl rfl rfl) ?_
      refine pi_nil (x_then (hK5 _ _ ?_))
      clear hK5 K5
      refine wc_cond rfl (fun hc59 => ?_) (fun hc59 => ?_)
      · try simp only [decide_eq_true_eq, decide_eq_false_iff_not, Bool.not_eq_true', Bool.not_eq_false', Bool.not_eq_eq_eq_not, Bool.not_true, Bool.not_false, beq_iff_eq, bne_iff_ne, ne_eq, beq_eq_false_iff_ne, bne_eq_false_iff_eq, gt_iff_lt, ge_iff_le, Int.not_lt, Int.not_le] at hc59
        have hpe : plC V.cells c = pl := by omega
        refine c_seq (fun K6 hK6 => ?_)
        refine c_reg ?_ -- region 5 cells.go:13
        refine wl (ro_move rfl) ?_
        refine wl (ro_nilCheck rfl) ?_
        refine wl (ro_fieldAddr (k := 4) rfl fo_269_4) ?_
        refine wl (ro_loadB rfl sc_86 (hT1) (hT4)) ?_
        refine wl (ro_move rfl) ?_
        refine wl (ro_arith (a := ((tl'.length + 1 : Nat) : Int)) (b := 1) rfl rfl rfl (Go.IntWalk.i64_in _ (by omega))) ?_
        refine wl (ro_indexAddr (et := 3) (k := 1) rfl rfl se_86 ((show (((tl'.length + 1 : Nat) : Int) - 1) = ((tl'.length : Nat) : Int) by omega)) (htl')) ?_
        refine wl (ro_loadB rfl sc_3 (hB2) (q3)) ?_
        refine wl (ro_assign rfl) ?_
        refine wl_nil (x_then (hK6 _ _ ?_))
        clear hK6 K6
        refine c_ret (x_thenR ?_)
        refine bp_ret Tryz.results289 rfl ?_
        have ecap : capV V t pl = (c, V) := by
          unfold capV
          dsimp only
          rw [hxD, hsp, (capL_skip (new := V.cells.length) (tl := c :: tl') hab).1, capL_here hpe]
        rw [ecap]
        exact ⟨rfl, ow, Vv, U, Xt.refl _ _, hN1.thenDrew.wide, (h.thruN hN1.thenDrew).eUp (by omega) he, fun _ _ ↦ rfl, fun _ _ _ ↦ rfl⟩
      · try simp only [decide_eq_true_eq, decide_eq_false_iff_not, Bool.not_eq_true', Bool.not_eq_false', Bool.not_eq_eq_eq_not, Bool.not_true, Bool.not_false, beq_iff_eq, bne_iff_ne, ne_eq, beq_eq_false_iff_ne, bne_eq_false_iff_eq, gt_iff_lt, ge_iff_le, Int.not_lt, Int.not_le] at hc59
        refine c_skip (x_then ?_)
        have hn := capL_new (cs := V.cells) (pl := pl) (new := V.cells.length) (tl := c :: tl') (fun d r q ↦ by injection q with q1 q2; subst q1; omega)
        exact ⟨hd', c :: tl', hsp, by rw [hsp]; exact Prod.ext (by rw [(capL_skip hab).1, hn]) (by rw [(capL_skip hab).2, hn]), hN1.thenDrew, kp _ ⟨rfl, rfl, rfl, rfl, rfl, trivial⟩⟩
  rintro a u ⟨hd', tl, hsp, hcap, hN1, e', rfl⟩
  have h1 := h.thruN hN1
  obtain ⟨L, op, vl⟩ := h1.ex
  obtain ⟨ea, ec, hV8⟩ := (op.ck vl).form
  have hM2 := op.m
  unfold mbc at hM2
  rw [hV8] at hM2
  have hM3 : ¬ own1 (Vv 8) C.E.mb := fun y => by have := (op.ck vl).t _ y; rw [htm] at this; omega
  have hln : hd'.length + tl.length = x.opn.length := by rw [hsp]; simp
  refine c_seq (fun K7 hK7 => ?_)
  refine c_reg ?_ -- region 6 cells.go:15
  refine wl (ro_move rfl) ?_
  refine wl (ro_nilCheck rfl) ?_
  refine wl (ro_fieldAddr (k := 8) rfl fo_89_8) ?_
  refine wl (ro_loadB rfl sc_87 (hM2) rfl) ?_
  refine wl (ro_lenL rfl se_87) ?_
  refine wl (ro_assign rfl) ?_
  refine wl_nil (x_then (hK7 _ _ ?_))
  clear hK7 K7
  refine forget [(0, _), (1, _), (2, _), (3, _), (9, _), (10, _)] ⟨rfl, rfl, rfl, rfl, rfl, rfl, trivial⟩ (fun e => ?_)
  refine c_seq (fun K8 hK8 => ?_)
  refine c_reg ?_ -- region 7 cells.go:16
  refine wl (ro_move rfl) ?_
  refine wl (ro_move rfl) ?_
  refine wl (ro_nilCheck rfl) ?_
  refine wl (ro_fieldAddr (k := 8) rfl fo_89_8) ?_
  refine wl (ro_loadB rfl sc_87 (hM2) rfl) ?_
  refine wl (ro_move rfl) ?_
  refine wl (ro_move rfl) ?_
  refine wl (ro_build rfl bld_413_0_1) ?_
  refine wl_bsapp (t := 87) (et := 413) (k := 5) (m := V.cells.length) (cs := cec ⟨some t, pl, vNil⟩) rfl rfl (by rw [← hV8]; rfl) rfl se_87 zx_413 by_413 rfl rfl rfl (cec_one _) (op.ck vl).o (by omega) (by omega) ?_
  intro v' u8 hon G1 hnb
  obtain ⟨wa, wc, rfl⟩ := hon.form
  replace hM2 := G1.blkF hM2 hM3
  skip
  refine wl (ro_nilCheck rfl) ?_
  refine wl (ro_fieldAddr (k := 8) rfl fo_89_8) ?_
  refine wl_put rfl rfl rfl sz_87 hM2 (by simp) (rfl) (fun w1 hM2 F1 => ?_)
  have hF9 := (F1)
  have hon' : Own u8.heap (.slice wa (V.cells.length + 1) wc) 413 5 (V.cells ++ [(⟨some t, pl, vNil⟩ : VCell)]).length (rws cec (V.cells ++ [(⟨some t, pl, vNil⟩ : VCell)])) := by rw [rws_app, rws_one, List.length_append]; exact hon
  obtain ⟨ow1, x1, f1, hv1⟩ := h1.grA op (i := 8) (.inl (by decide)) (by decide) hon' G1 hnb hF9 (by unfold mbc; exact hM2) (vl.cel (e' := e0 + 1) (V.cells ++ [(⟨some t, pl, vNil⟩ : VCell)]) (by have := vl.eb; simp; omega) (by omega) (by have := vl.ec; simp; omega)) h.cb he
  have hx1 : ({ V with cells := V.cells ++ [(⟨some t, pl, vNil⟩ : VCell)] } : VS).ths[t]? = some x := hx
  obtain ⟨L1, op1, vl1⟩ := hv1.ex
  have hT := op1.trow vl1 hx1
  have hO1 := op1.ok vl1 hx1 ht
  unfold thr5 at hT
  rw [hU4] at hT
  have htt1 := hv1.tt.1
  have hoT : ¬ own1 (U t 4) C.E.tb := fun y => by have := hO1.t _ y; rw [htt1] at this; omega
  refine wl_nil (x_then (hK8 _ _ ?_))
  clear hK8 K8
  refine forget [(2, _), (9, _), (10, _)] ⟨rfl, rfl, rfl, trivial⟩ (fun e => ?_)
  refine c_seq (fun K9 hK9 => ?_)
  refine c_reg ?_ -- region 8 cells.go:17
  refine wl (ro_move rfl) ?_
  refine wl (ro_move rfl) ?_
  refine wl (ro_nilCheck rfl) ?_
  refine wl (ro_fieldAddr (k := 4) rfl fo_269_4) ?_
  refine wl (ro_loadB rfl sc_86 (hT) (vt_get rfl ht (by decide))) ?_
  refine wl_bsapp (t := 86) (et := 3) (k := 1) (m := x.opn.length) (cs := [i64c 0]) rfl rfl (by rw [← hU4]; rfl) rfl se_86 zx_3 by_3 rfl rfl rfl (by simp [Value.oneCell', i64c]) hO1.o (by omega) (by omega) ?_
  intro v2 u9 hon2 G2 hnb2
  obtain ⟨wa2, wc2, rfl⟩ := hon2.form
  replace hT := G2.blkF hT hoT
  skip
  refine wl (ro_nilCheck rfl) ?_
  refine wl (ro_fieldAddr (k := 4) rfl fo_269_4) ?_
  refine wl_put rfl rfl rfl sz_86 hT (vt_len rfl ht (by decide)) (rfl) (fun w2 hT F2 => ?_)
  have hF10 := (F2)
  replace hT := vt_put rfl ht (by decide) hT
  have hon2' : Own u9.heap (.slice wa2 (x.opn.length + 1) wc2) 3 1 ((0 : Nat) :: x.opn).length (((0 : Nat) :: x.opn).reverse.map i64c) := by rw [List.reverse_cons, List.map_append]; exact hon2
  obtain ⟨ow2, x2, f2, hv2⟩ := hv1.grT op1 ht (i := 4) (by unfold thI; omega) hon2' G2 hnb2 hF10 (rowT vl1 hx1 (.inr (.inr rfl)) hT) (vl1.opn hx1 (0 :: x.opn)) rfl
  have hx2 := vset_at (x' := { x with opn := 0 :: x.opn }) hx1
  obtain ⟨L2, op2, vl2⟩ := hv2.ex
  have hO2 := op2.ok vl2 hx2 ht
  rw [up1_self, up1_self] at hO2
  obtain ⟨og2, oc2, l2, e9, hB2, p1, p2, p3, p4⟩ := hO2.o.pos (by simp)
  have hg2 : ow2 og2 = 460 + t := hO2.t og2 (by rw [e9]; rfl)
  have htt2 := hv2.tt.1
  have hng : og2 ≠ C.E.tb := fun q => by rw [q, htt2] at hg2; omega
  have hT := op2.trow vl2 hx2
  unfold thr5 at hT
  rw [up1_self, up1_self, e9] at hT
  have p1 : x.opn.length + 1 ≤ oc2 := p1
  have e9' : Value.slice wa2 (x.opn.length + 1) wc2 = .slice (some ⟨og2, 0, none⟩) (x.opn.length + 1) oc2 := e9
  have p4 : l2.take (x.opn.length + 1) = tl.reverse.map i64c ++ hd'.reverse.map i64c ++ [i64c 0] := by
    have : l2.take ((x.opn.length + 1) * 1) = (((0 : Nat) :: x.opn).reverse).map i64c := p4
    rw [Nat.mul_one] at this
    rw [this, List.reverse_cons, hsp, List.reverse_append, List.map_append, List.map_append]; rfl
  have hFo : Fram (one og2) w2 w2 := Fram.refl _ _
  refine wl_nil (x_then (hK9 _ _ ?_))
  clear hK9 K9
  refine forget [(2, _), (9, _), (10, _)] ⟨rfl, rfl, rfl, trivial⟩ (fun e => ?_)
  refine c_seq (fun K10 hK10 => ?_)
  refine c_piL9 13 [(0, false), (1, false), (2, false), (3, false), (4, false), (5, false), (6, false), (7, false), (8, false), (9, false), (10, false), (11, false), (12, false)] (SameH _) mixed (by kernel_rfl) rfl (by kernel_rfl) (po_then (po_bp)) (sameH_now _ _) ?_ -- region 9 cells.go:18
  refine ql_ro rfl (fun w hS => ro_move rfl) ?_
  refine ql_ro rfl (fun w hS => ro_nilCheck rfl) ?_
  refine ql_ro rfl (fun w hS => ro_fieldAddr (k := 4) rfl fo_269_4) ?_
  refine ql_ro rfl (fun w hS => ro_loadB rfl sc_86 (Blk.of_heap hT hS) (vt_get rfl ht (by decide))) ?_
  refine ql_ro rfl (fun w hS => ro_move rfl) ?_
  refine ql_ro rfl (fun w hS => ro_arith rfl rfl rfl (Go.IntWalk.i64_in _ (by omega))) ?_
  refine ql_ro rfl (fun w hS => ro_sliceLi (l := tl.length + 1) rfl rfl se_86 (by omega) (by show tl.length + 1 ≤ x.opn.length + 1; omega)) ?_
  refine ql_ro rfl (fun w hS => ro_move rfl) ?_
  refine ql_ro rfl (fun w hS => ro_nilCheck rfl) ?_
  refine ql_ro rfl (fun w hS => ro_fieldAddr (k := 4) rfl fo_269_4) ?_
  refine ql_ro rfl (fun w hS => ro_loadB rfl sc_86 (Blk.of_heap hT hS) (vt_get rfl ht (by decide))) ?_
  refine ql_ro rfl (fun w hS => ro_move rfl) ?_
  refine ql_ro rfl (fun w hS => ro_sliceLn (l := tl.length) rfl rfl se_86 rfl (by show tl.length ≤ x.opn.length + 1; omega) (by omega)) ?_
  refine ql_copyL (m := hd'.length) (k := 1) (l := l2) (l2 := l2) (cs := (l2.drop (0 + tl.length * 1)).take (hd'.length * 1)) rfl rfl rfl se_86 hB2 hB2 (by show min (x.opn.length + 1 - tl.length) (x.opn.length + 1 - (tl.length + 1)) = _; omega) rfl (by rw [List.length_take, List.length_drop, p3]; omega) (by have q9 := cp_one (A := tl.reverse) (B := hd'.reverse) (l := l2) (by rw [List.length_reverse, List.length_reverse, hln]; exact p4) (by rw [List.length_reverse, List.length_reverse, hln, p3]; omega); rw [List.length_reverse, List.length_reverse] at q9; exact q9) (by rw [p3]; split <;> omega) ?_
  intro w9 hB2 F9
  replace hT := F9.blkO hT (by exact hng.symm)
  replace hFo := hFo.thenDrew.thenO F9 (.inl rfl)
  refine x_then (hK10 _ _ ?_)
  clear hK10 K10
  refine forget [(2, _), (9, _), (10, _)] ⟨rfl, rfl, rfl, trivial⟩ (fun e => ?_)
  refine c_seq (fun K11 hK11 => ?_)
  refine c_reg ?_ -- region 10 cells.go:19
  refine wl (ro_move rfl) ?_
  refine wl (ro_nilCheck rfl) ?_
  refine wl (ro_fieldAddr (k := 4) rfl fo_269_4) ?_
  refine wl (ro_loadB rfl sc_86 (hT) (vt_get rfl ht (by decide))) ?_
  refine wl (ro_move rfl) ?_
  refine wl (ro_move rfl) ?_
  refine wl (ro_indexAddr (et := 3) (k := 1) rfl rfl se_86 (rfl) ((by show tl.length < x.opn.length + 1; omega))) ?_
  refine wl_put rfl rfl rfl sz_3 hB2 ((by simp only [List.length_append, List.length_take, List.length_drop, p3]; split <;> omega)) (rfl) (fun w3 hB2 F3 => ?_)
  replace hT := F3.blkO hT (by omega)
  replace hFo := hFo.thenDrew.thenO F3 (by first | exact .inr (by omega) | exact .inl rfl | exact .inl (by assumption) | assumption)
  have p5 : l2.take ((tl.reverse.map i64c).length + (hd'.reverse.map i64c).length + 1) = tl.reverse.map i64c ++ hd'.reverse.map i64c ++ [i64c 0] := by
    rw [List.length_map, List.length_map, List.length_reverse, List.length_reverse, show tl.length + hd'.length = x.opn.length by omega]; exact p4
  have p6 := mid_put (cap := oc2) (c := i64c V.cells.length) p5 (by rw [List.length_map, List.length_map, List.length_reverse, List.length_reverse, p3]; omega) (by rw [p3]; omega)
  rw [List.length_map, List.length_map, List.length_reverse, List.length_reverse] at p6
  replace hB2 : Blk w3.heap og2 (tl.reverse.map i64c ++ i64c V.cells.length :: hd'.reverse.map i64c ++ l2.drop (tl.length + hd'.length + 1)) 3 := by rw [← p6]; exact hB2
  refine wl_nil (x_then (hK11 _ _ ?_))
  clear hK11 K11
  refine forget [(10, _)] ⟨rfl, trivial⟩ (fun e => ?_)
  refine c_seq (fun K12 hK12 => ?_)
  refine c_reg ?_ -- region 11 cells.go:20
  refine wl (ro_move rfl) ?_
  refine wl (ro_assign rfl) ?_
  refine wl_nil (x_then (hK12 _ _ ?_))
  clear hK12 K12
  refine c_ret ?_
  refine bp_ret Tryz.results289 rfl ?_
  have ecap : capV V t pl = (V.cells.length, { V with cells := V.cells ++ [(⟨some t, pl, vNil⟩ : VCell)], ths := V.ths.set t { x with opn := hd' ++ V.cells.length :: tl } }) := by
    unfold capV
    dsimp only
    rw [hxD, hcap]
  rw [ecap]
  have hO3 : OwT w3 ow2 (460 + t) (.slice (some ⟨og2, 0, none⟩) (x.opn.length + 1) oc2) 3 1 (hd' ++ V.cells.length :: tl).length ((hd' ++ V.cells.length :: tl).reverse.map i64c) := by
    have hl3 : (hd' ++ V.cells.length :: tl).length = x.opn.length + 1 := by simp; omega
    rw [hl3]
    refine ⟨⟨by simp; omega, .inr ⟨og2, oc2, _, rfl, hB2, p1, p2, by simp [p3]; omega, ?_⟩⟩, fun b q ↦ by cases q; exact hg2⟩
    have e8 : (hd' ++ V.cells.length :: tl).reverse.map i64c = tl.reverse.map i64c ++ i64c V.cells.length :: hd'.reverse.map i64c := by simp
    rw [e8, List.take_left' (by simp; omega)]
  refine ⟨rfl, ow2, up1 Vv 8 (.slice wa (V.cells.length + 1) wc), up1 U t (up1 (U t) 4 (.slice wa2 (x.opn.length + 1) wc2)), (fun b q ↦ ?_), ?_, ?_, ?_, ?_⟩
  · have hs1 := hN1.size
    have hs2 := f1.size
    rw [x2 b (by omega), x1 b (by omega)]
  · have f01 : Fram (cpS C ow t) w _ := (hN1.wide (G := cpS C ow t)).trans' f1 (fun b q z ↦ z.elim .inl (fun z ↦ .inr (.inr (.inl z))))
    have hs1 := hN1.size
    have hs2 := f1.size
    have f02 : Fram (cpS C ow t) w _ := f01.trans' f2 (fun b q z ↦ z.elim (fun z ↦ .inr (.inl z)) (fun z ↦ .inr (.inr (.inr (by rw [x1 b (by omega)] at z; exact z)))))
    exact f02.trans' hFo (fun b q z ↦ by have z : b = og2 := z; subst z; exact .inr (.inr (.inr (by rw [x2 b (by omega), x1 b (by omega)] at hg2; exact hg2))))
  · have hv3 := hv2.wrT op2 ht (i := 4) (by unfold thI; omega) (hFo.mono (fun b _ z ↦ by have z : b = og2 := z; rw [z]; exact hg2)) (by rw [up1_self, up1_self, e9']; exact hO3) (vl2.opn hx2 (hd' ++ V.cells.length :: tl)) rfl
    rw [vset_set] at hv3
    exact hv3
  · intro i hi
    exact up1_ne hi
  · intro j i hji
    by_cases hj : j = t
    · subst hj
      rw [up1_self, up1_ne (fun q ↦ hji ⟨rfl, q⟩)]
    · rw [up1_ne hj]
end
end Go.Proofs.Qxb6500568aGreatDoor
