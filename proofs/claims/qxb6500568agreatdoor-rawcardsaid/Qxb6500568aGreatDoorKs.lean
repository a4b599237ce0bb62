import Derived.Test.Qxb6500568aGreatDoorKr
/- The machine: cells closed, captured. -/
namespace Go.Proofs.Qxb6500568aGreatDoor
open Ieee
set_option linter.unusedVariables false
set_option linter.unusedSimpArgs false
set_option linter.unusedSectionVars false

section
variable {C : VC} {w w' w1 u u1 u2 : World} {ow ow' ow1 : Nat → Nat} {V : VS} {e fuel t : Nat} {out : Str} {T : List Tb} {Vv : Nat → Value} {U : Nat → Nat → Value} {x : VTh} {L : VL}
/-- a cell in memory. -/
theorem VW.cell (h : VW C w ow V e fuel out T Vv U) {c : Nat} {z : VCell} (hz : V.cells[c]? = some z) : ∃ eg ecap l, Vv 8 = .slice (some ⟨eg, 0, none⟩) V.cells.length ecap ∧ Blk w.heap eg l 413 ∧ ow eg = 408 ∧ (l.drop (0 + c * 5)).take 5 = cec z ∧ (c + 1) * 5 ≤ l.length ∧
    ∀ u z' cs j m, cs.length = m → j + m ≤ 5 → cec z' = (cec z).take j ++ cs ++ (cec z).drop (j + m) → Fram (one eg) w u → Blk u.heap eg (l.take (0 + c * 5 + j) ++ cs ++ l.drop (0 + c * 5 + j + m)) 413 → VW C u ow { V with cells := V.cells.set c z' } e fuel out T Vv U := by
  obtain ⟨L, op, vl⟩ := h.ex
  have hO := op.ck vl
  obtain ⟨eg, ecap, l, e1, hB, q1, q2, q3, q4, q5⟩ := hO.at cec_len hz
  have hcap := hO.cap e1
  have hl := (List.getElem?_eq_some_iff.1 hz).1
  have hle : (c + 1) * 5 ≤ l.length := by rw [q2]; exact Nat.mul_le_mul_right 5 (by omega)
  refine ⟨eg, ecap, l, e1, hB, q4, q5 _ _ hz, hle, fun u z' cs j m hm hj hc fr hBu => ?_⟩
  rw [Nat.zero_add] at hBu
  have hput := OwT.put (w' := u) (ow := ow) (tag := 408) (L := V.cells) (x' := z') (cs := cs) (i := c) (j := j) (m := m) cec_len hBu q1 hcap q2 q3 q4 rfl hz hm hj hc
  have := h.wrA (V' := { V with cells := V.cells.set c z' }) (out' := out) op (i := 8) (.inl (by decide)) (fr.mono (fun b _ y => by have y : b = eg := y; rw [y, q4])) (by rw [e1]; exact hput) (by
    have := vl.cel (e' := e) (V.cells.set c z') (by rw [List.length_set]; exact vl.eb) (Nat.le_refl _) (by rw [List.length_set]; exact vl.ec)
    rw [List.length_set] at this
    exact this) h.cb h.eb
  exact this
/-- a place of a stack in memory. -/
theorem VW.stkA (h : VW C w ow V e fuel out T Vv U) (hx : V.ths[t]? = some x) {i : Nat} {v : PV} (hv : x.stack[i]? = some v) : ∃ sg sc l, U t 2 = .slice (some ⟨sg, 0, none⟩) x.stack.length sc ∧ Blk w.heap sg l 119 ∧ ow sg = 440 + t ∧ (l.drop (0 + i * 3)).take 3 = pvc v ∧ (i + 1) * 3 ≤ l.length ∧
    ∀ u v', Fram (one sg) w u → Blk u.heap sg (l.take (0 + i * 3) ++ pvc v' ++ l.drop (0 + i * 3 + 3)) 119 → VW C u ow (V.setT t { x with stack := x.stack.set i v' }) e fuel out T Vv U := by
  obtain ⟨L, op, vl⟩ := h.ex
  have ht := h.lt hx
  have hO := op.sk vl hx ht
  obtain ⟨sg, sc, l, e1, hB, q1, q2, q3, q4, q5⟩ := hO.at pvc_len hv
  have hcap := hO.cap e1
  have hl := (List.getElem?_eq_some_iff.1 hv).1
  have hle : (i + 1) * 3 ≤ l.length := by rw [q2]; exact Nat.mul_le_mul_right 3 (by omega)
  refine ⟨sg, sc, l, e1, hB, q4, q5 _ _ hv, hle, fun u v' fr hBu => ?_⟩
  rw [Nat.zero_add] at hBu
  have hput := OwT.put (w' := u) (ow := ow) (tag := 440 + t) (L := x.stack) (x' := v') (cs := pvc v') (i := i) (j := 0) (m := 3) pvc_len hBu q1 hcap q2 q3 q4 rfl hv rfl (by decide) rfl
  refine h.wrT op ht (i := 2) (by unfold thI; omega) (fr.mono (fun b _ y => by have y : b = sg := y; rw [y, q4])) (n' := x.stack.length) (xs' := rws pvc (x.stack.set i v')) (by rw [e1]; exact hput) ?_ rfl
  have := vl.stk hx (x.stack.set i v') (by rw [List.length_set]; exact vl.sb t x hx)
  rw [List.length_set] at this
  exact this
/-- a thread's list of open cells. -/
theorem VW.opnA (h : VW C w ow V e fuel out T Vv U) (hx : V.ths[t]? = some x) (hne : x.opn ≠ []) : ∃ og oc l, U t 4 = .slice (some ⟨og, 0, none⟩) x.opn.length oc ∧ Blk w.heap og l 3 ∧ ow og = 460 + t ∧ x.opn.length ≤ oc ∧ ∀ (j : Nat) m, x.opn.reverse[j]? = some m → l[0 + j * 1]? = some (i64c m) := by
  obtain ⟨L, op, vl⟩ := h.ex
  have ht := h.lt hx
  have hO := op.ok vl hx ht
  rw [← List.length_reverse] at hO
  obtain ⟨c, r, hc⟩ : ∃ c r, x.opn = c :: r := by
    rcases hq : x.opn with _ | ⟨c, r⟩
    · exact absurd hq hne
    · exact ⟨c, r, rfl⟩
  have hg : x.opn.reverse[r.length]? = some c := by rw [hc, List.reverse_cons, List.getElem?_append_right (by rw [List.length_reverse]; exact Nat.le_refl _), List.length_reverse, Nat.sub_self]; rfl
  obtain ⟨og, oc, l, e1, hB, q1, q2, q3, q4, q5⟩ := hO.atN hg
  rw [List.length_reverse] at e1 q1
  exact ⟨og, oc, l, e1, hB, q4, q1, q5⟩
/-- the threads' block. -/
theorem VW.thA (h : VW C w ow V e fuel out T Vv U) (hx : V.ths[t]? = some x) : ∃ l, Blk w.heap C.E.tb l 269 ∧ l.length = 25 ∧ l[t * 5 + 0]? = some (i64c x.st) ∧ l[t * 5 + 1]? = some (i64c x.fn) ∧ (∀ i, i = 2 ∨ i = 3 ∨ i = 4 → l[t * 5 + i]? = some (U t i)) ∧
    (∀ u n, Fram (one C.E.tb) w u → Blk u.heap C.E.tb (l.set (t * 5 + 0) (i64c n)) 269 → VW C u ow (V.setT t { x with st := n }) e fuel out T Vv U) ∧
    (∀ u r' g c, x.opn.drop (x.opn.length - r'.length) = r' → U t 4 = .slice g x.opn.length c → Fram (one C.E.tb) w u → Blk u.heap C.E.tb (l.set (t * 5 + 4) (.slice g r'.length c)) 269 → VW C u ow (V.setT t { x with opn := r' }) e fuel out T Vv (up1 U t (up1 (U t) 4 (.slice g r'.length c)))) ∧
    (∀ u s' g c, x.stack.take s'.length = s' → U t 2 = .slice g x.stack.length c → Fram (one C.E.tb) w u → Blk u.heap C.E.tb (l.set (t * 5 + 2) (.slice g s'.length c)) 269 → VW C u ow (V.setT t { x with stack := s' }) e fuel out T Vv (up1 U t (up1 (U t) 2 (.slice g s'.length c)))) ∧
    (∀ u r' g c, x.frs.drop (x.frs.length - r'.length) = r' → U t 3 = .slice g x.frs.length c → Fram (one C.E.tb) w u → Blk u.heap C.E.tb (l.set (t * 5 + 3) (.slice g r'.length c)) 269 → VW C u ow (V.setT t { x with frs := r' }) e fuel out T Vv (up1 U t (up1 (U t) 3 (.slice g r'.length c)))) := by
  obtain ⟨L, op, vl⟩ := h.ex
  have ht := h.lt hx
  have hB := op.trow vl hx
  have hU : ∀ {H : Array Obj} {o : Nat} {v : Value}, o < 5 → Blk H C.E.tb ((vrs (up1 (thc L U) t (thr5 x U t))).set (t * 5 + o) v) 269 → Blk H C.E.tb (vrs (up1 (thc L U) t ((thr5 x U t).set o v))) 269 := fun ho hb => vt_put rfl ht ho hb
  refine ⟨_, hB, vrs_len (up1_len (thc_len L U) rfl), vt_get rfl ht (by decide), vt_get rfl ht (by decide), (fun i hi => by rcases hi with rfl | rfl | rfl <;> exact vt_get rfl ht (by decide)), fun u n fr hb => h.stT op vl hx fr (hU (by decide) hb), fun u r' g c hr hg fr hb => ?_, fun u s' g c hs hg fr hb => ?_, fun u r' g c hr hg fr hb => ?_⟩
  · refine h.cuT op ht (i := 4) (by unfold thI; omega) fr (rowT vl hx (.inr (.inr rfl)) (hU (by decide) hb)) ?_ (vl.opn hx r') rfl
    have hO := op.ok vl hx ht
    rw [hg] at hO
    have hrl : r'.length ≤ x.opn.length := by rw [← hr, List.length_drop]; omega
    have := hO.take (m := r'.length) hrl
    rw [Nat.mul_one, ← List.map_take, List.take_reverse, hr] at this
    exact this
  · refine h.cuT op ht (i := 2) (by unfold thI; omega) fr (rowT vl hx (.inl rfl) (hU (by decide) hb)) ?_ (vl.stk hx s' (Nat.le_trans (by rw [← hs, List.length_take]; exact Nat.min_le_right _ _) (vl.sb t x hx))) rfl
    have hO := op.sk vl hx ht
    rw [hg] at hO
    have hsl : s'.length ≤ x.stack.length := by rw [← hs, List.length_take]; omega
    have := hO.take (m := s'.length) hsl
    rw [← rws_tk pvc_len, hs] at this
    exact this
  · refine h.cuT op ht (i := 3) (by unfold thI; omega) fr (rowT vl hx (.inr (.inl rfl)) (hU (by decide) hb)) ?_ (vl.frs hx r') rfl
    have hO := op.fk vl hx ht
    rw [hg] at hO
    have hrl : r'.length ≤ x.frs.length := by rw [← hr, List.length_drop]; omega
    have := hO.take (m := r'.length) hrl
    rw [← rws_tk frc_len, List.take_reverse, hr] at this
    exact this
theorem VW.mbA (h : VW C w ow V e fuel out T Vv U) : ∃ l, Blk w.heap C.E.mb l 89 ∧ l[0]? = some (ptr C.nb) ∧ l[1]? = some (ptr C.xb) ∧ l[2]? = some (.slice (some ⟨C.pg, 0, none⟩) C.F.length C.pc) ∧ l[3]? = some (Vv 3) ∧ l[4]? = some (Vv 4) ∧ l[5]? = some (Vv 5) ∧ l[6]? = some (Vv 6) ∧ l[7]? = some (Vv 7) ∧ l[8]? = some (Vv 8) ∧ l[9]? = some (.slice (some ⟨C.E.tb, 0, none⟩) V.ths.length 5) ∧ l[10]? = some (i64c fuel) ∧ l[11]? = some (Vv 11) ∧ l[12]? = some (i64c 0) := by
  obtain ⟨L, op, vl⟩ := h.ex
  have hB := op.m
  unfold mbc at hB
  rw [h.co.np, h.co.tp, h.hp, vl.n, vl.f, vl.z] at hB
  exact ⟨_, hB, rfl, rfl, rfl, rfl, rfl, rfl, rfl, rfl, rfl, rfl, rfl, rfl, rfl⟩
theorem VW.sb (h : VW C w ow V e fuel out T Vv U) (hx : V.ths[t]? = some x) : x.stack.length ≤ 100000 := by
  obtain ⟨L, op, vl⟩ := h.ex
  exact vl.sb t x hx
/-- cells under closing. -/
structure ClI (C : VC) (w0 : World) (ow : Nat → Nat) (V : VS) (t p : Nat) (x : VTh) (e fuel : Nat) (out : Str) (T : List Tb) (Vv : Nat → Value) (U : Nat → Nat → Value) (r : List Nat) (cs : List VCell) (u : World) (U' : Nat → Nat → Value) : Prop where
  v : VW C u ow { V with cells := cs, ths := V.ths.set t { x with opn := r } } e fuel out T Vv U'
  c : closeL x.stack p x.opn V.cells = closeL x.stack p r cs
  l : cs.length = V.cells.length
  b : ∀ c ∈ r, c < cs.length ∧ plC cs c < x.stack.length
  d : r.Pairwise (fun c d => plC cs d < plC cs c)
  f : Fram (fun b => b = C.E.tb ∨ ow b = 408) w0 u
  u : ∀ j i, ¬ (j = t ∧ i = 4) → U' j i = U j i
theorem row3 {l cs : List Value} {k : Nat} {a b : Value} (h : k + 5 ≤ l.length) (hc : cs.length = 3) : ((l.take (k + 2) ++ cs ++ l.drop (k + 2 + 3)).set (k + 0) a).set (k + 1) b = l.take (k + 0) ++ (a :: b :: cs) ++ l.drop (k + 0 + 5) := by
  have h1 : (l.take (k + 2)).length = k + 2 := by rw [List.length_take]; omega
  refine List.ext_getElem? fun i => ?_
  rw [List.getElem?_set, List.getElem?_set]
  simp only [List.length_set, List.length_append, h1, hc, List.length_drop]
  by_cases h2 : k + 1 = i
  · subst h2
    rw [if_pos rfl, if_pos (by omega), List.getElem?_append_left (by simp; omega), List.getElem?_append_right (by simp; omega)]
    simp
    rw [show k + 1 - min k l.length = 1 by omega]; rfl
  · rw [if_neg h2]
    by_cases h3 : k + 0 = i
    · subst h3
      rw [if_pos rfl, if_pos (by omega), List.getElem?_append_left (by simp; omega), List.getElem?_append_right (by simp; omega)]
      simp
      rw [show k - min k l.length = 0 by omega]; rfl
    · rw [if_neg h3]
      by_cases h4 : i < k
      · rw [List.getElem?_append_left (by simp [hc]; omega), List.getElem?_append_left (by omega), List.getElem?_take, if_pos (by omega), List.getElem?_append_left (by simp; omega), List.getElem?_append_left (by simp; omega), List.getElem?_take, if_pos (by omega)]
      · by_cases h5 : i < k + 5
        · rw [List.getElem?_append_left (by simp [hc]; omega), List.getElem?_append_right (by omega), h1, List.getElem?_append_left (by simp [hc]; omega), List.getElem?_append_right (by simp; omega)]
          rw [show i - (l.take (k + 0)).length = i - (k + 2) + 1 + 1 by rw [List.length_take]; omega]
          rfl
        · rw [List.getElem?_append_right (by simp [hc]; omega), List.getElem?_append_right (by simp [hc]; omega), List.getElem?_drop, List.getElem?_drop]
          congr 1
          simp [hc]; omega
theorem pw_len {cs : List VCell} : ∀ {r : List Nat} {n : Nat}, r.Pairwise (fun c d => plC cs d < plC cs c) → (∀ c ∈ r, plC cs c < n) → r.length ≤ n
  | [], n, _, _ => Nat.zero_le _
  | c :: r, n, h, hb => by
    have h1 := List.pairwise_cons.1 h
    have := pw_len h1.2 h1.1
    have := hb c List.mem_cons_self
    simp; omega
theorem mem_pw {cs : List VCell} {c : Nat} {r : List Nat} (h : (c :: r).Pairwise (fun c d => plC cs d < plC cs c)) : ∀ d ∈ r, d ≠ c := fun d hd e => by
  have := (List.pairwise_cons.1 h).1 d hd
  rw [e] at this; omega
set_option maxHeartbeats 8000000 in
theorem close238 (h : VW C w ow V e fuel out T Vv U) (hx : V.ths[t]? = some x) {p : Nat} (hb : ∀ c ∈ x.opn, c < V.cells.length ∧ plC V.cells c < x.stack.length) (hd : x.opn.Pairwise (fun c d => plC V.cells d < plC V.cells c)) :
    Ret Tryz.prog 238 [ptr C.E.mb, tptr C t, i64c p] w (fun r w' => r = .tuple #[] ∧ ∃ U', VW C w' ow (closeV V t p) e fuel out T Vv U' ∧ (∀ j i, ¬ (j = t ∧ i = 4) → U' j i = U j i) ∧ Fram (fun b => b = C.E.tb ∨ ow b = 408) w w') := by
  have ht := h.lt hx
  have htl := (List.getElem?_eq_some_iff.1 hx).1
  have htt := h.tt.1
  have htm := h.tt.2
  have hcb := h.cb
  have hlen := h.sb hx
  have hxD : V.ths.getD t VTh.zero = x := by rw [List.getD_eq_getElem?_getD, hx]; rfl
  have hcl : ∀ {r : List Nat} {cs : List VCell}, closeL x.stack p x.opn V.cells = (cs, r) → ({ V with cells := cs, ths := V.ths.set t { x with opn := r } } : VS) = closeV V t p := fun {r cs} q => by unfold closeV; rw [hxD]; dsimp only; rw [q]
  have hI0 : ClI C w ow V t p x e fuel out T Vv U x.opn V.cells w U := ⟨by
    have e1 : ({ V with cells := V.cells, ths := V.ths.set t { x with opn := x.opn } } : VS) = V := vset_self hx
    rw [e1]; exact h, rfl, rfl, hb, hd, Fram.refl _ _, fun _ _ _ => rfl⟩
  obtain ⟨lT, hT, hTl, -, -, hTr, -⟩ := h.thA hx
  obtain ⟨og, oc, hU4⟩ : ∃ og oc, U t 4 = .slice og x.opn.length oc := by
    obtain ⟨L, op, vl⟩ := h.ex
    exact (op.ok vl hx ht).form
  refine ret_of Tryz.func238 rfl Tryz.ntmps238 rfl ?_
  refine c_seq (fun K1 hK1 => ?_)
  refine c_reg ?_ -- region 0 cells.go:25
  refine wl (ro_move rfl) ?_
  refine wl (ro_nilCheck rfl) ?_
  refine wl (ro_fieldAddr (k := 4) rfl fo_269_4) ?_
  refine wl (ro_loadB rfl sc_86 (hT) ((by rw [hTr 4 (by simp), hU4]))) ?_
  refine wl (ro_lenL rfl se_86) ?_
  refine wl (ro_assign rfl) ?_
  refine wl_nil (x_then (hK1 _ _ ?_))
  clear hK1 K1
  refine c_block ?_
  -- loop@r1: live slots [0, 1, 2, 6]
  refine c_loopG (fun m a u => ∃ r cs U', m = r.length ∧ ClI C w ow V t p x e fuel out T Vv U r cs u U' ∧ ∃ e', a = Fr 65 (upds e' [(0, ptr C.E.mb), (1, tptr C t), (2, i64c p), (6, i64c r.length)]) []) _ ⟨x.opn, V.cells, U, rfl, hI0, kp _ ⟨rfl, rfl, rfl, rfl, trivial⟩⟩ ?_
  clear hI0 hT hTr
  rintro m a u ⟨r, cs, U', rfl, I, e', rfl⟩
  refine c_seq (fun K2 hK2 => ?_)
  refine c_seq (fun K3 hK3 => ?_)
  have hN : Fram none' u u := Fram.refl _ _
  refine c_reg ?_ -- region 1 cells.go:25
  refine wl (ro_move rfl) ?_
  refine wl (ro_cmp rfl rfl rfl) ?_
  refine wl_nil (x_then (hK3 _ _ ?_))
  clear hK3 K3
  refine wc_cond rfl (fun hc14 => ?_) (fun hc14 => ?_)
  · try simp only [decide_eq_true_eq, decide_eq_false_iff_not, Bool.not_eq_true', Bool.not_eq_false', Bool.not_eq_eq_eq_not, Bool.not_true, Bool.not_false, beq_iff_eq, bne_iff_ne, ne_eq, beq_eq_false_iff_ne, bne_eq_false_iff_eq, gt_iff_lt, ge_iff_le, Int.not_lt, Int.not_le] at hc14
    obtain ⟨c, r', rfl⟩ : ∃ c r', r = c :: r' := by
      rcases r with _ | ⟨c, r'⟩
      · simp at hc14
      · exact ⟨c, r', rfl⟩
    have hx1 : ({ V with cells := cs, ths := V.ths.set t { x with opn := c :: r' } } : VS).ths[t]? = some { x with opn := c :: r' } := by show (V.ths.set t _)[t]? = _; rw [List.getElem?_set, if_pos rfl, if_pos htl]
    obtain ⟨hclt, hpl⟩ := I.b c List.mem_cons_self
    have hzc : cs[c]? = some cs[c] := List.getElem?_eq_getElem hclt
    have hplE : plC cs c = cs[c].pl := by unfold plC; rw [List.getD_eq_getElem?_getD, hzc]; rfl
    generalize cs[c] = z at *
    have hzc' : ({ V with cells := cs, ths := V.ths.set t { x with opn := c :: r' } } : VS).cells[c]? = some z := hzc
    rw [hplE] at hpl
    have hsv : x.stack[z.pl]? = some x.stack[z.pl] := List.getElem?_eq_getElem hpl
    have hsD : x.stack.getD z.pl vNil = x.stack[z.pl] := by rw [List.getD_eq_getElem?_getD, hsv]; rfl
    generalize x.stack[z.pl] = sv at *
    have hsv' : ({ x with opn := c :: r' } : VTh).stack[z.pl]? = some sv := hsv
    obtain ⟨eg, ecap, el, e8, hB1, t8, r8, le8, W8⟩ := I.v.cell hzc'
    obtain ⟨sg, sc, sl, e2, hB2, t2, r2, -, -⟩ := I.v.stkA hx1 hsv'
    obtain ⟨og1, oc1, ol, e4, hB3, t4, hoc, r4'⟩ := I.v.opnA hx1 (by simp)
    have hoc : r'.length + 1 ≤ oc1 := hoc
    have r4 := r4' r'.length c (by simp)
    have e4 : U' t 4 = .slice (some ⟨og1, 0, none⟩) (r'.length + 1) oc1 := e4
    obtain ⟨lM, hM, -, -, -, -, -, -, -, -, hM8, -⟩ := I.v.mbA
    obtain ⟨lT1, hT, hTl1, -, -, hTr1, -⟩ := I.v.thA hx1
    have hM8' : lM[8]? = some (.slice (some ⟨eg, 0, none⟩) cs.length ecap) := by rw [hM8, e8]
    have hT4 : lT1[t * 5 + 4]? = some (.slice (some ⟨og1, 0, none⟩) (r'.length + 1) oc1) := by rw [hTr1 4 (by simp), e4]
    have hT2 : lT1[t * 5 + 2]? = some (.slice (some ⟨sg, 0, none⟩) x.stack.length sc) := by rw [hTr1 2 (by simp), e2]
    have hFe : Fram (one eg) u u := Fram.refl _ _
    have hlb : r'.length < 9223372036854775807 := by
      have h1 : (c :: r').length ≤ 100000 := by
        have := pw_len I.d (fun d hd => (I.b d hd).2)
        omega
      simp at h1; omega
    have n1 : eg ≠ C.E.tb := fun q => by rw [q, htt] at t8; omega
    have n2 : eg ≠ C.E.mb := fun q => by rw [q, htm] at t8; omega
    have n3 : eg ≠ sg := fun q => by rw [q, t2] at t8; omega
    have n4 : eg ≠ og1 := fun q => by rw [q, t4] at t8; omega
    have n5 : C.E.tb ≠ C.E.mb := fun q => by rw [q, htm] at htt; omega
    have n6 : C.E.tb ≠ sg := fun q => by rw [q, t2] at htt; omega
    have n7 : C.E.tb ≠ og1 := fun q => by rw [q, t4] at htt; omega
    refine c_skip (x_then (hK2 _ _ ?_))
    clear hK2 K2
    refine forget [(0, _), (1, _), (2, _), (6, _)] ⟨rfl, rfl, rfl, rfl, trivial⟩ (fun e => ?_)
    refine c_seq (fun K4 hK4 => ?_)
    refine c_block ?_
    refine c_seq (fun K5 hK5 => ?_)
    refine c_pi [(0, false), (1, false), (2, false), (3, false), (4, false), (5, false), (6, false), (7, false), (8, false), (9, false), (10, false), (11, false), (12, false), (13, false)] (SameH _) mixed (by kernel_rfl) rfl (by kernel_rfl) (po_then (po_blk (po_then (po_then (po_blk (po_bp)))))) (sameH_now _ _) ?_ -- region 3 cells.go:26
    refine pi_ro rfl (fun w hS => ro_move rfl) ?_
    refine pi_ro rfl (fun w hS => ro_nilCheck rfl) ?_
    refine pi_ro rfl (fun w hS => ro_fieldAddr (k := 8) rfl fo_89_8) ?_
    refine pi_ro rfl (fun w hS => ro_loadB rfl sc_87 (Blk.of_heap hM hS) (hM8')) ?_
    refine pi_ro rfl (fun w hS => ro_move rfl) ?_
    refine pi_ro rfl (fun w hS => ro_nilCheck rfl) ?_
    refine pi_ro rfl (fun w hS => ro_fieldAddr (k := 4) rfl fo_269_4) ?_
    refine pi_ro rfl (fun w hS => ro_loadB rfl sc_86 (Blk.of_heap hT hS) (hT4)) ?_
    refine pi_ro rfl (fun w hS => ro_move rfl) ?_
    refine pi_ro rfl (fun w hS => ro_arith (a := ((r'.length + 1 : Nat) : Int)) (b := 1) rfl rfl rfl (Go.IntWalk.i64_in _ (by omega))) ?_
    refine pi_ro rfl (fun w hS => ro_indexAddr (et := 3) (k := 1) rfl rfl se_86 ((show (((r'.length + 1 : Nat) : Int) - 1) = ((r'.length : Nat) : Int) by omega)) ((by omega))) ?_
    refine pi_ro rfl (fun w hS => ro_loadB rfl sc_3 (Blk.of_heap hB3 hS) (r4)) ?_
    refine pi_ro rfl (fun w hS => ro_indexAddr (et := 413) (k := 5) rfl rfl se_87 (rfl) (hclt)) ?_
    refine pi_ro rfl (fun w hS => ro_assign rfl) ?_
    refine pi_nil (x_then (hK5 _ _ ?_))
    clear hK5 K5
    refine c_seq (fun K6 hK6 => ?_)
    refine c_seq (fun K7 hK7 => ?_)
    refine c_reg ?_ -- region 4 cells.go:27
    refine wl (ro_move rfl) ?_
    refine wl (ro_nilCheck rfl) ?_
    refine wl (ro_fieldAddr (k := 1) rfl fo_413_1) ?_
    refine wl (ro_loadB rfl sc_3 (hB1) (row_get r8 (by decide))) ?_
    refine wl (ro_move rfl) ?_
    refine wl (ro_cmp rfl rfl rfl) ?_
    refine wl_nil (x_then (hK7 _ _ ?_))
    clear hK7 K7
    refine wc_cond rfl (fun hc35 => ?_) (fun hc35 => ?_)
    · try simp only [decide_eq_true_eq, decide_eq_false_iff_not, Bool.not_eq_true', Bool.not_eq_false', Bool.not_eq_eq_eq_not, Bool.not_true, Bool.not_false, beq_iff_eq, bne_iff_ne, ne_eq, beq_eq_false_iff_ne, bne_eq_false_iff_eq, gt_iff_lt, ge_iff_le, Int.not_lt, Int.not_le] at hc35
      have hlt : plC cs c < p := by rw [hplE]; omega
      refine c_ret (x_thenR (x_blkR (x_thenR (x_thenR (x_blkR ?_)))))
      refine bp_ret Tryz.results238 rfl ?_
      refine ⟨rfl, U', ?_, I.u, I.f.transG hN.thenDrew (fun _ _ (q : False) ↦ q.elim)⟩
      have e1 : closeL x.stack p x.opn V.cells = (cs, c :: r') := by rw [I.c]; unfold closeL; rw [if_pos hlt]
      rw [← hcl e1]
      exact I.v.thruN hN.thenDrew
    · try simp only [decide_eq_true_eq, decide_eq_false_iff_not, Bool.not_eq_true', Bool.not_eq_false', Bool.not_eq_eq_eq_not, Bool.not_true, Bool.not_false, beq_iff_eq, bne_iff_ne, ne_eq, beq_eq_false_iff_ne, bne_eq_false_iff_eq, gt_iff_lt, ge_iff_le, Int.not_lt, Int.not_le] at hc35
      have hlt : ¬ plC cs c < p := by rw [hplE]; omega
      refine c_skip (x_then (hK6 _ _ ?_))
      clear hK6 K6
      refine forget [(0, _), (1, _), (2, _), (6, _), (7, _)] ⟨rfl, rfl, rfl, rfl, rfl, trivial⟩ (fun e => ?_)
      refine c_seq (fun K8 hK8 => ?_)
      refine c_piL 13 [(0, false), (1, false), (2, false), (3, false), (4, false), (5, false), (6, false), (7, false), (8, false), (9, false), (10, false), (11, false), (12, false)] (SameH _) mixed (by kernel_rfl) rfl (by kernel_rfl) (po_then (po_blk (po_then (po_then (po_blk (po_bp)))))) (sameH_now _ _) ?_ -- region 5 cells.go:30
      refine ql_ro rfl (fun w hS => ro_move rfl) ?_
      refine ql_ro rfl (fun w hS => ro_move rfl) ?_
      refine ql_ro rfl (fun w hS => ro_nilCheck rfl) ?_
      refine ql_ro rfl (fun w hS => ro_fieldAddr (k := 2) rfl fo_269_2) ?_
      refine ql_ro rfl (fun w hS => ro_loadB rfl sc_83 (Blk.of_heap hT hS) (hT2)) ?_
      refine ql_ro rfl (fun w hS => ro_move rfl) ?_
      refine ql_ro rfl (fun w hS => ro_nilCheck rfl) ?_
      refine ql_ro rfl (fun w hS => ro_fieldAddr (k := 1) rfl fo_413_1) ?_
      refine ql_ro rfl (fun w hS => ro_loadB rfl sc_3 (Blk.of_heap hB1 hS) (row_get r8 (by decide))) ?_
      refine ql_ro rfl (fun w hS => ro_indexAddr (et := 119) (k := 3) rfl rfl se_83 (rfl) (hpl)) ?_
      refine ql_ro rfl (fun w hS => ro_loadAggB rfl ag_119 (Blk.of_heap hB2 hS) (rfl) (r2)) ?_
      refine ql_ro rfl (fun w hS => ro_nilCheck rfl) ?_
      refine ql_ro rfl (fun w hS => ro_fieldAddr (k := 2) rfl fo_413_2) ?_
      refine ql_puta rfl rfl rfl ((pvc_one _)) sz_119 (rfl) hB1 ((by omega)) (rfl) (fun w1 hB1 F1 => ?_)
      replace hB2 := F1.blkO hB2 (by omega)
      replace hB3 := F1.blkO hB3 (by omega)
      replace hM := F1.blkO hM (by omega)
      replace hT := F1.blkO hT (by omega)
      replace hFe := hFe.thenDrew.thenO F1 (by first | exact .inr (by omega) | exact .inl rfl | exact .inl (by assumption) | assumption)
      refine x_then (hK8 _ _ ?_)
      clear hK8 K8
      refine forget [(0, _), (1, _), (2, _), (6, _), (7, _)] ⟨rfl, rfl, rfl, rfl, rfl, trivial⟩ (fun e => ?_)
      refine c_seq (fun K9 hK9 => ?_)
      refine c_reg ?_ -- region 6 cells.go:31
      refine wl (ro_move rfl) ?_
      refine wl (ro_nilCheck rfl) ?_
      refine wl (ro_fieldAddr (k := 0) rfl fo_413_0) ?_
      refine wl_put rfl rfl rfl sz_3 hB1 ((by simp; omega)) (rfl) (fun w2 hB1 F2 => ?_)
      replace hB2 := F2.blkO hB2 (by omega)
      replace hB3 := F2.blkO hB3 (by omega)
      replace hM := F2.blkO hM (by omega)
      replace hT := F2.blkO hT (by omega)
      replace hFe := hFe.thenDrew.thenO F2 (by first | exact .inr (by omega) | exact .inl rfl | exact .inl (by assumption) | assumption)
      refine wl_nil (x_then (hK9 _ _ ?_))
      clear hK9 K9
      refine forget [(0, _), (1, _), (2, _), (6, _), (7, _)] ⟨rfl, rfl, rfl, rfl, rfl, trivial⟩ (fun e => ?_)
      refine c_seq (fun K10 hK10 => ?_)
      refine c_reg ?_ -- region 7 cells.go:32
      refine wl (ro_move rfl) ?_
      refine wl (ro_nilCheck rfl) ?_
      refine wl (ro_fieldAddr (k := 1) rfl fo_413_1) ?_
      refine wl_put rfl rfl rfl sz_3 hB1 ((by simp; omega)) (rfl) (fun w3 hB1 F3 => ?_)
      replace hB2 := F3.blkO hB2 (by omega)
      replace hB3 := F3.blkO hB3 (by omega)
      replace hM := F3.blkO hM (by omega)
      replace hT := F3.blkO hT (by omega)
      replace hFe := hFe.thenDrew.thenO F3 (by first | exact .inr (by omega) | exact .inl rfl | exact .inl (by assumption) | assumption)
      rw [row3 (by omega) rfl] at hB1
      have hv1 := W8 _ (⟨none, 0, sv⟩ : VCell) _ 0 5 rfl (by decide) rfl hFe hB1
      obtain ⟨lT2, hT, hTl2, -, -, hTr2, -, WO, -⟩ := hv1.thA (x := { x with opn := c :: r' }) hx1
      have hT4 : lT2[t * 5 + 4]? = some (.slice (some ⟨og1, 0, none⟩) (r'.length + 1) oc1) := by rw [hTr2 4 (by simp), e4]
      have hFt : Fram (one C.E.tb) w3 w3 := Fram.refl _ _
      refine wl_nil (x_then (hK10 _ _ ?_))
      clear hK10 K10
      refine c_reg ?_ -- region 8 cells.go:33
      refine wl (ro_move rfl) ?_
      refine wl (ro_move rfl) ?_
      refine wl (ro_nilCheck rfl) ?_
      refine wl (ro_fieldAddr (k := 4) rfl fo_269_4) ?_
      refine wl (ro_loadB rfl sc_86 (hT) (hT4)) ?_
      refine wl (ro_move rfl) ?_
      refine wl (ro_arith (a := ((r'.length + 1 : Nat) : Int)) (b := 1) rfl rfl rfl (Go.IntWalk.i64_in _ (by omega))) ?_
      refine wl (ro_sliceH (h := r'.length) rfl rfl se_86 (by omega) (by omega)) ?_
      refine wl (ro_nilCheck rfl) ?_
      refine wl (ro_fieldAddr (k := 4) rfl fo_269_4) ?_
      refine wl_put rfl rfl rfl sz_86 hT ((by omega)) (rfl) (fun w4 hT F4 => ?_)
      replace hFt := hFt.thenDrew.thenO F4 (by first | exact .inr (by omega) | exact .inl rfl | exact .inl (by assumption) | assumption)
      refine wl_nil (x_blk (x_then (hK4 _ _ ?_)))
      clear hK4 K4
      refine c_reg ?_ -- region 2 cells.go:25
      refine wl (ro_move rfl) ?_
      refine wl (ro_subN (m := r'.length + 1) (k := 1) (r := r'.length) rfl rfl rfl (by omega)) ?_
      refine wl (ro_assign rfl) ?_
      refine wl_nil (x_then ?_)
      have hv2 := WO _ r' (some ⟨og1, 0, none⟩) oc1 (by simp) e4 hFt hT
      have hne := mem_pw I.d
      refine ⟨r'.length, by simp, r', cs.set c ⟨none, 0, sv⟩, up1 U' t (up1 (U' t) 4 (.slice (some ⟨og1, 0, none⟩) r'.length oc1)), rfl, ⟨?_, ?_, ?_, ?_, ?_, ?_, ?_⟩, kp _ ⟨rfl, rfl, rfl, rfl, trivial⟩⟩
      · have e1 : ({ V with cells := cs.set c ⟨none, 0, sv⟩, ths := V.ths.set t { x with opn := c :: r' } } : VS).setT t { x with opn := r' } = ({ V with cells := cs.set c ⟨none, 0, sv⟩, ths := V.ths.set t { x with opn := r' } } : VS) := by
          unfold VS.setT; dsimp only; rw [List.set_set]
        rw [← e1]
        exact hv2
      · rw [I.c]
        conv => lhs; unfold closeL
        rw [if_neg hlt, hplE, hsD]
      · rw [List.length_set]; exact I.l
      · intro d hd
        rw [List.length_set, plC_set (hne d hd)]
        exact I.b d (List.mem_cons_of_mem _ hd)
      · exact (List.pairwise_cons.1 I.d).2.imp_of_mem (fun {a b} ha hb q ↦ by rw [plC_set (hne a ha), plC_set (hne b hb)]; exact q)
      · exact (I.f.trans' hFe (fun b _ q ↦ by have q : b = eg := q; exact .inr (by rw [q]; exact t8))).trans' hFt (fun b _ q ↦ .inl q)
      · intro j i hji
        by_cases hj : j = t
        · subst hj
          rw [up1_self, up1_ne (fun q ↦ hji ⟨rfl, q⟩)]
          exact I.u j i hji
        · rw [up1_ne hj]
          exact I.u j i hji
  · try simp only [decide_eq_true_eq, decide_eq_false_iff_not, Bool.not_eq_true', Bool.not_eq_false', Bool.not_eq_eq_eq_not, Bool.not_true, Bool.not_false, beq_iff_eq, bne_iff_ne, ne_eq, beq_eq_false_iff_ne, bne_eq_false_iff_eq, gt_iff_lt, ge_iff_le, Int.not_lt, Int.not_le] at hc14
    obtain rfl : r = [] := by
      rcases r with _ | ⟨c, r'⟩
      · rfl
      · simp at hc14; omega
    refine c_exit (x_thenX (x_thenX (x_blkX ?_)))
    refine bp_end Tryz.results238 rfl ?_
    refine ⟨rfl, U', ?_, I.u, I.f.transG (w := u) (d := u.drawn) hN (fun _ _ (q : False) ↦ q.elim)⟩
    have e1 : closeL x.stack p x.opn V.cells = (cs, []) := by rw [I.c]; rfl
    rw [← hcl e1]
    exact I.v.thruN hN
end
end Go.Proofs.Qxb6500568aGreatDoor
