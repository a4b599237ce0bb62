import Derived.Test.Qxb6500568aGreatDoorKw
/- The machine: threads end, frames go. -/
namespace Go.Proofs.Qxb6500568aGreatDoor
open Ieee
set_option linter.unusedVariables false
set_option linter.unusedSimpArgs false
set_option linter.unusedSectionVars false

/-- an event. -/
def vevc (k th e : Nat) (v u : PV) : List Value := [i64c k, i64c th, i64c e, i64c v.T, u64c v.N, S v.S, i64c u.T, u64c u.N, S u.S]
def vevv (k th e : Nat) (v u : PV) : Value := .agg (vevc k th e v u).toArray
theorem vevc_one (k th e : Nat) (v u : PV) : ∀ q ∈ vevc k th e v u, q.oneCell' = true := by simp [vevc, Value.oneCell', i64c, u64c, S]
/-- a resumed thread goes on. -/
def rsm (Ps : List Proto) (n : Nat) (b : PV) (s : AS) : AS :=
  let s2 : AS := { s with stack := s.cur :: s.stack, cur := n }
  let s3 := s2.setT { s2.th with st := 4 }
  if (thA s.ths n).st = 1 then aenter Ps (thA s.ths n).fn [b] false { s3 with first := s3.first + 1 } else apush2 b vNil s3
section
variable {C : VC} {w w' w1 u u1 u2 : World} {ow ow' ow1 : Nat → Nat} {V : VS} {e fuel t : Nat} {out : Str} {T : List Tb} {Vv : Nat → Value} {U : Nat → Nat → Value} {x : VTh} {L : VL}
def clS (C : VC) (ow : Nat → Nat) (b : Nat) : Prop := b = C.E.tb ∨ ow b = 408
theorem clS_vt (htt : ow C.E.tb = 409) {b : Nat} (h : clS C ow b) : vtT (ow b) := by
  rcases h with h | h
  · rw [h]; exact vt_tb htt
  · rw [h]; left; unfold vmT; omega
theorem RZ.opn {Ps : List Proto} {s : AS} {κ : List Nat} (h : RZ Ps V s κ) (hx : V.ths[t]? = some x) : (∀ c ∈ x.opn, c < V.cells.length ∧ plC V.cells c < x.stack.length) ∧ x.opn.Pairwise (fun c d => plC V.cells d < plC V.cells c) := by
  refine ⟨fun c hc => ?_, h.r.od t x hx⟩
  obtain ⟨y, h1, h2⟩ := (h.r.om t x hx c).1 hc
  have hl := (List.getElem?_eq_some_iff.1 h1).1
  have hce := h.r.ce c y h1
  rw [h2] at hce
  obtain ⟨x1, y1, g1, g2, g3⟩ := hce.2
  rw [hx] at g1
  injection g1 with g1
  subst g1
  have := Sl.lt (h.r.th t _ _ hx g2).2.2 g3
  refine ⟨hl, ?_⟩
  unfold plC
  rw [List.getD_eq_getElem?_getD, h1]
  exact this
/-- the frames of a thread in memory. -/
theorem VW.frA (h : VW C w ow V e fuel out T Vv U) (hx : V.ths[t]? = some x) (hne : x.frs ≠ []) : ∃ fg fc l, U t 3 = .slice (some ⟨fg, 0, none⟩) x.frs.length fc ∧ x.frs.length ≤ fc ∧ Blk w.heap fg l 331 ∧ ow fg = 450 + t ∧ ∀ i f, x.frs.reverse[i]? = some f → (l.drop (i * 5)).take 5 = frc f := by
  obtain ⟨L, op, vl⟩ := h.ex
  have ht := h.lt hx
  have hO := op.fk vl hx ht
  rw [← List.length_reverse] at hO
  obtain ⟨f, fs, hf⟩ : ∃ f fs, x.frs = f :: fs := by
    rcases hq : x.frs with _ | ⟨f, fs⟩
    · exact absurd hq hne
    · exact ⟨f, fs, rfl⟩
  have hg : x.frs.reverse[fs.length]? = some f := by rw [hf, List.reverse_cons, List.getElem?_append_right (by rw [List.length_reverse]; exact Nat.le_refl _), List.length_reverse, Nat.sub_self]; rfl
  obtain ⟨g, cap, l, e1, hB, q1, q2, q3, q4, q5⟩ := hO.at frc_len hg
  rw [List.length_reverse] at e1 q1
  exact ⟨g, cap, l, e1, q1, hB, q4, fun i f' hi => by have := q5 i f' hi; rw [Nat.zero_add] at this; exact this⟩
/-- the stack's slice. -/
theorem VW.skA (h : VW C w ow V e fuel out T Vv U) (hx : V.ths[t]? = some x) : ∃ g c, U t 2 = .slice g x.stack.length c ∧ x.stack.length ≤ c := by
  obtain ⟨L, op, vl⟩ := h.ex
  have hO := op.sk vl hx (h.lt hx)
  obtain ⟨g, c, e1⟩ := hO.form
  rw [e1] at hO
  exact ⟨g, c, e1, hO.capge⟩
set_option maxHeartbeats 4000000 in
theorem kill239 (h : VW C w ow V e fuel out T Vv U) (hx : V.ths[t]? = some x) (hb : ∀ c ∈ x.opn, c < V.cells.length ∧ plC V.cells c < x.stack.length) (hd : x.opn.Pairwise (fun c d => plC V.cells d < plC V.cells c)) :
    Ret Tryz.prog 239 [ptr C.E.mb, tptr C t] w (fun r w' => r = .tuple #[] ∧ ∃ U', VW C w' ow ((closeV V t 0).setT t { x with opn := (closeL x.stack 0 x.opn V.cells).2, stack := [], frs := [], st := 5 }) e fuel out T Vv U' ∧ Fram (clS C ow) w w') := by
  have ht := h.lt hx
  refine ret_of Tryz.func239 rfl Tryz.ntmps239 rfl ?_
  refine c_seq (fun K1 hK1 => ?_)
  refine c_reg ?_ -- region 0 exec.go:118
  refine wl (ro_move rfl) ?_
  refine wl (ro_move rfl) ?_
  refine wl_call rfl en_238 (close238 (p := 0) h hx hb hd) ?_
  rintro _ u1 ⟨rfl, U1, hv1, hu1, f1⟩
  have hx1 := closeV_th (p := 0) hx
  obtain ⟨g2, c2, e2⟩ : ∃ g2 c2, U1 t 2 = .slice g2 x.stack.length c2 := by
    obtain ⟨L, op, vl⟩ := hv1.ex
    exact (op.sk vl hx1 ht).form
  obtain ⟨lT, hT, hTl, -, -, hTr, -, -, WS, -⟩ := hv1.thA hx1
  have hT2 : lT[t * 5 + 2]? = some (.slice g2 x.stack.length c2) := by rw [hTr 2 (by simp), e2]
  have hF1 : Fram (one C.E.tb) u1 u1 := Fram.refl _ _
  refine wl_nil (x_then (hK1 _ _ ?_))
  clear hK1 K1
  refine forget [(1, _)] ⟨rfl, trivial⟩ (fun e => ?_)
  refine c_seq (fun K2 hK2 => ?_)
  refine c_reg ?_ -- region 1 exec.go:119
  refine wl (ro_move rfl) ?_
  refine wl (ro_move rfl) ?_
  refine wl (ro_nilCheck rfl) ?_
  refine wl (ro_fieldAddr (k := 2) rfl fo_269_2) ?_
  refine wl (ro_loadB rfl sc_83 (hT) (hT2)) ?_
  refine wl (ro_sliceH (h := 0) rfl rfl se_83 rfl (by omega)) ?_
  refine wl (ro_nilCheck rfl) ?_
  refine wl (ro_fieldAddr (k := 2) rfl fo_269_2) ?_
  refine wl_put rfl rfl rfl sz_83 hT ((by omega)) (rfl) (fun w1 hT F1 => ?_)
  replace hF1 := hF1.thenDrew.thenO F1 (by first | exact .inr (by omega) | exact .inl rfl | exact .inl (by assumption) | assumption)
  have hv2 := WS _ [] g2 c2 (by simp) e2 hF1 hT
  have hx2 := vset_at (x' := { ({ x with opn := (closeL x.stack 0 x.opn V.cells).2 } : VTh) with stack := [] }) hx1
  obtain ⟨g3, c3, e3⟩ : ∃ g3 c3, (up1 U1 t (up1 (U1 t) 2 (.slice g2 0 c2))) t 3 = .slice g3 x.frs.length c3 := by
    obtain ⟨L, op, vl⟩ := hv2.ex
    exact (op.fk vl hx2 ht).form
  obtain ⟨lT2, hT, hTl2, -, -, hTr2, -, -, -, WF⟩ := hv2.thA hx2
  have hT3 : lT2[t * 5 + 3]? = some (.slice g3 x.frs.length c3) := by rw [hTr2 3 (by simp)]; exact congrArg some e3
  have hF2 : Fram (one C.E.tb) w1 w1 := Fram.refl _ _
  refine wl_nil (x_then (hK2 _ _ ?_))
  clear hK2 K2
  refine forget [(1, _)] ⟨rfl, trivial⟩ (fun e => ?_)
  refine c_seq (fun K3 hK3 => ?_)
  refine c_reg ?_ -- region 2 exec.go:120
  refine wl (ro_move rfl) ?_
  refine wl (ro_move rfl) ?_
  refine wl (ro_nilCheck rfl) ?_
  refine wl (ro_fieldAddr (k := 3) rfl fo_269_3) ?_
  refine wl (ro_loadB rfl sc_267 (hT) (hT3)) ?_
  refine wl (ro_sliceH (h := 0) rfl rfl se_267 rfl (by omega)) ?_
  refine wl (ro_nilCheck rfl) ?_
  refine wl (ro_fieldAddr (k := 3) rfl fo_269_3) ?_
  refine wl_put rfl rfl rfl sz_267 hT ((by omega)) (rfl) (fun w2 hT F2 => ?_)
  replace hF2 := hF2.thenDrew.thenO F2 (by first | exact .inr (by omega) | exact .inl rfl | exact .inl (by assumption) | assumption)
  have hv3 := WF _ [] g3 c3 (by simp) e3 hF2 hT
  have hx3 := vset_at (x' := { ({ ({ x with opn := (closeL x.stack 0 x.opn V.cells).2 } : VTh) with stack := [] } : VTh) with frs := [] }) hx2
  obtain ⟨lT3, hT, hTl3, -, -, hTr3, WT, -⟩ := hv3.thA hx3
  have hF3 : Fram (one C.E.tb) w2 w2 := Fram.refl _ _
  refine wl_nil (x_then (hK3 _ _ ?_))
  clear hK3 K3
  refine c_reg ?_ -- region 3 exec.go:121
  refine wl (ro_move rfl) ?_
  refine wl (ro_nilCheck rfl) ?_
  refine wl (ro_fieldAddr (k := 0) rfl fo_269_0) ?_
  refine wl_put rfl rfl rfl sz_3 hT ((by omega)) (rfl) (fun w3 hT F3 => ?_)
  replace hF3 := hF3.thenDrew.thenO F3 (by first | exact .inr (by omega) | exact .inl rfl | exact .inl (by assumption) | assumption)
  refine wl_nil ?_
  refine bp_end Tryz.results239 rfl ?_
  have hv4 := WT _ 5 hF3 hT
  simp only [vset_set] at hv4
  exact ⟨rfl, _, hv4, ((f1.trans' hF1 (fun b _ q ↦ .inl q)).trans' hF2 (fun b _ q ↦ .inl q)).trans' hF3 (fun b _ q ↦ .inl q)⟩
end
section
variable {C : VC} {w : World} {ow : Nat → Nat} {a : AS} {y : ATh} {gs : List AFr} {g : AFr} {vars : List PV} {fg fc : Nat}
/-- a frame returned: the event. -/
def RtR (C : VC) (w : World) (ow : Nat → Nat) (gs : List AFr) (s1 z : AS) (v u : PV) (r : Value) (w' : World) : Prop :=
  if gs = [] then r = vevv 1 0 0 v u ∧ ∃ ow', Xt w ow ow' ∧ Fram (tg ow vtT) w w' ∧ AMq C w' ow' s1 else r = vevv 0 0 0 vNil vNil ∧ ∃ ow', Xt w ow ow' ∧ Fram (tg ow vtT) w w' ∧ AMq C w' ow' z
theorem pu2_push {b c : PV} {s : AS} {y : ATh} {r : List AFr} (hy : s.cur < s.ths.length) : apush2 b c (s.setT { y with frs := r }) = { s with ths := s.ths.set s.cur { y with frs := pu2 b c r } } := by
  unfold apush2
  have e1 : (s.setT { y with frs := r }).th = { y with frs := r } := by
    unfold AS.th AS.setT
    show (s.ths.set s.cur _).getD s.cur _ = _
    rw [List.getD_eq_getElem?_getD, List.getElem?_set, if_pos rfl, if_pos hy]; rfl
  rw [e1]
  unfold AS.setT
  dsimp only
  rw [List.set_set]
  cases r <;> rfl
theorem aret_nil (hc : a.cur < a.ths.length) {v u : PV} : aret v u (mkA a y [] g vars) = aback true v ((mkA a y [] g vars).setT { y with frs := [], st := 5 }) := by
  unfold aret
  rw [mk_th hc]
  dsimp only
  rw [if_pos rfl]
theorem aret_cons (hc : a.cur < a.ths.length) {v u : PV} (hg : gs ≠ []) : aret v u (mkA a y gs g vars) = { a with ths := a.ths.set a.cur { y with frs := pu2 (if g.prot then vBool true else v) (if g.prot then v else u) gs }, vars := vars } := by
  have hc' : (mkA a y gs g vars).cur < (mkA a y gs g vars).ths.length := by show a.cur < (a.ths.set _ _).length; rw [List.length_set]; exact hc
  unfold aret
  rw [mk_th hc]
  dsimp only
  rw [if_neg hg]
  have e1 : ∀ b c, apush2 b c ((mkA a y gs g vars).setT { y with frs := gs }) = { a with ths := a.ths.set a.cur { y with frs := pu2 b c gs }, vars := vars } := fun b c => by
    rw [pu2_push hc']
    unfold mkA
    dsimp only
    rw [List.set_set]
  cases g.prot
  · rw [if_neg (by decide)]; exact e1 _ _
  · rw [if_pos rfl]; exact e1 _ _
set_option maxHeartbeats 8000000 in
theorem retA (hR : AM C fg fc w ow (mkA a y gs g vars)) (hc : a.cur < a.ths.length) {v u : PV} {l : List PV} (ho : g.ops = u :: v :: l) (hol : g.ops.length ≤ 131) :
    Ret Tryz.prog 246 [ptr C.E.mb, tptr C a.cur, fpt fg gs.length] w (RtR C w ow gs ((mkA a y gs g vars).setT { y with frs := [], st := 5 }) (aret v u (mkA a y gs g vars)) v u) := by
  have hX : Xt w ow ow := Xt.refl _ _
  have hF : Fram (tg ow vtT) w w := Fram.refl _ _
  have hll : l.length ≤ 129 := by rw [ho] at hol; simp at hol; omega
  have hvt : tg ow vtT C.E.tb := hR.q.vtb
  refine ret_of Tryz.func246 rfl Tryz.ntmps246 rfl ?_
  refine c_seq (fun K1 hK1 => ?_)
  refine c_reg ?_ -- region 0 exec.go:268
  refine wl_new (ze_211) (fun b6 w1 hbb6 h6 F1 => ?_)
  have hbsb6 := Nat.le_trans hF.size hbb6
  have kh6 := hR.df b6 hbb6
  replace hF := hF.thenDrew.thenN F1
  replace hR := hR.thruN ((Fram.refl none' _).thenDrew.thenN F1)
  refine wl_nil (x_then (hK1 _ _ ?_))
  clear hK1 K1
  refine forget [(0, _), (1, _), (2, _), (6, _)] ⟨rfl, rfl, rfl, rfl, trivial⟩ (fun e => ?_)
  refine c_seq (fun K2 hK2 => ?_)
  refine c_reg ?_ -- region 1 exec.go:269
  refine wl (ro_move rfl) ?_
  refine wl_call rfl en_244 (popA hR.dr hc ho (by omega)) ?_
  rintro _ u2 ⟨rfl, ow2, x2, f2, r2⟩
  obtain ⟨h6, kh6⟩ := vm_loc x2 f2 h6 kh6
  have hs2 := hF.size
  replace hF := vm_trans hX hF f2
  replace hX := hX.trans hs2 x2
  replace hR := r2
  refine wl_new (ze_119) (fun b7 w3 hbb7 h7 F3 => ?_)
  have hbsb7 := Nat.le_trans hF.size hbb7
  have hneb6b7 : b6 < b7 := Nat.lt_of_lt_of_le h6.lt hbb7
  have kh7 := hR.df b7 hbb7
  replace hF := hF.thenDrew.thenN F3
  replace hR := hR.thruN ((Fram.refl none' _).thenDrew.thenN F3)
  replace h6 := F3.blkN h6
  refine wl_puta rfl rfl ((pvc_one _)) sz_119 (rfl) h7 ((by simp)) (rfl) (fun w4 h7 F4 => ?_)
  replace hF := hF.thenDrew.thenO F4 (by first | exact .inr (by omega) | exact .inl rfl | exact .inl (by assumption) | assumption)
  replace hR := hR.hbput ((Fram.refl (one b7) _).thenDrew.thenO F4 (.inl rfl))
  replace h6 := F4.blkO h6 (by first | omega | exact ow_ne (by assumption) (by assumption) (by omega))
  refine wl_nil (x_then (hK2 _ _ ?_))
  clear hK2 K2
  refine forget [(0, _), (1, _), (2, _), (6, _), (7, _)] ⟨rfl, rfl, rfl, rfl, rfl, trivial⟩ (fun e => ?_)
  refine c_seq (fun K3 hK3 => ?_)
  refine c_reg ?_ -- region 2 exec.go:270
  refine wl (ro_move rfl) ?_
  refine wl_call rfl en_244 (popA hR.dr hc rfl (by show l.length + 1 ≤ 300; omega)) ?_
  rintro _ u5 ⟨rfl, ow5, x5, f5, r5⟩
  obtain ⟨h6, kh6⟩ := vm_loc x5 f5 h6 kh6
  obtain ⟨h7, kh7⟩ := vm_loc x5 f5 h7 kh7
  have hs5 := hF.size
  replace hF := vm_trans hX hF f5
  replace hX := hX.trans hs5 x5
  replace hR := r5
  refine wl_new (ze_119) (fun b8 w6 hbb8 h8 F6 => ?_)
  have hbsb8 := Nat.le_trans hF.size hbb8
  have hneb6b8 : b6 < b8 := Nat.lt_of_lt_of_le h6.lt hbb8
  have hneb7b8 : b7 < b8 := Nat.lt_of_lt_of_le h7.lt hbb8
  have kh8 := hR.df b8 hbb8
  replace hF := hF.thenDrew.thenN F6
  replace hR := hR.thruN ((Fram.refl none' _).thenDrew.thenN F6)
  replace h6 := F6.blkN h6
  replace h7 := F6.blkN h7
  refine wl_puta rfl rfl ((pvc_one _)) sz_119 (rfl) h8 ((by simp)) (rfl) (fun w7 h8 F7 => ?_)
  replace hF := hF.thenDrew.thenO F7 (by first | exact .inr (by omega) | exact .inl rfl | exact .inl (by assumption) | assumption)
  replace hR := hR.hbput ((Fram.refl (one b8) _).thenDrew.thenO F7 (.inl rfl))
  replace h6 := F7.blkO h6 (by first | omega | exact ow_ne (by assumption) (by assumption) (by omega))
  replace h7 := F7.blkO h7 (by first | omega | exact ow_ne (by assumption) (by assumption) (by omega))
  refine wl_nil (x_then (hK3 _ _ ?_))
  clear hK3 K3
  refine c_seq (fun K4 hK4 => ?_)
  refine c_seq (fun K5 hK5 => ?_)
  obtain ⟨V, κ, Vv, U, x, f, fs, o⟩ := hR.open hc
  obtain ⟨lT, hT, hTl, -, -, hTr, -⟩ := o.v.thA o.t.hx
  have hT3 : lT[a.cur * 5 + 3]? = some (.slice (some ⟨fg, 0, none⟩) (gs.length + 1) fc) := by rw [hTr 3 (by simp), o.hf]
  obtain ⟨lF, hB1, k1, q1, q2, -⟩ := o.frow
  have htt := o.v.tt.1
  have hsl : x.stack.length ≤ 2112 + l.length := o.sl
  have hsl2 : x.stack.length ≤ 3000 := by omega
  obtain ⟨hb9, hd9⟩ := o.z.opn o.t.hx
  have hdp := o.dp
  have hlt5 := o.lt
  refine c_reg ?_ -- region 3 exec.go:271
  refine wl (ro_move rfl) ?_
  refine wl (ro_nilCheck rfl) ?_
  refine wl (ro_fieldAddr (k := 3) rfl fo_269_3) ?_
  refine wl (ro_loadB rfl sc_267 (hT) (hT3)) ?_
  refine wl (ro_lenL rfl se_267) ?_
  refine wl (ro_cmp rfl rfl rfl) ?_
  refine wl_nil (x_then (hK5 _ _ ?_))
  clear hK5 K5
  refine wc_cond rfl (fun hc18 => ?_) (fun hc18 => ?_)
  · try simp only [decide_eq_true_eq, decide_eq_false_iff_not, Bool.not_eq_true', Bool.not_eq_false', Bool.not_eq_eq_eq_not, Bool.not_true, Bool.not_false, beq_iff_eq, bne_iff_ne, ne_eq, beq_eq_false_iff_ne, bne_eq_false_iff_eq, gt_iff_lt, ge_iff_le, Int.not_lt, Int.not_le] at hc18
    obtain rfl : gs = [] := by
      rcases gs with _ | ⟨q, r⟩
      · rfl
      · simp at hc18; omega
    refine c_seq (fun K6 hK6 => ?_)
    refine c_reg ?_ -- region 4 exec.go:272
    refine wl (ro_move rfl) ?_
    refine wl (ro_move rfl) ?_
    refine wl_call rfl en_239 (kill239 o.v o.t.hx hb9 hd9) ?_
    rintro _ u9 ⟨rfl, U9, hv9, fk9⟩
    have x9 : Xt w7 ow5 ow5 := Xt.refl _ _
    have f9 := fk9.mono (fun b _ q ↦ (show tg _ vtT b from clS_vt htt q))
    obtain ⟨h6, kh6⟩ := vm_loc' x9 f9 h6 kh6
    obtain ⟨h7, kh7⟩ := vm_loc' x9 f9 h7 kh7
    obtain ⟨h8, kh8⟩ := vm_loc' x9 f9 h8 kh8
    have hs9 := hF.size
    replace hF := vm_trans' hX hF f9
    replace hX := hX.trans hs9 x9
    have hq9 : AMq C u9 _ ((mkA a y [] g vars).setT { y with frs := [], st := 5 }) := ⟨_, κ, _, _, hv9, o.z.kill o.t.hx (mk_at hc) rfl rfl (by show ((mkA a y [] g vars).setT _).ths = _; unfold AS.setT; dsimp only; rw [show (mkA a y [] g vars).cur = a.cur from rfl, mk_sets, mk_sets])⟩
    refine wl_nil (x_then (hK6 _ _ ?_))
    clear hK6 K6
    refine forget [(6, _), (7, _), (8, _)] ⟨rfl, rfl, rfl, trivial⟩ (fun e => ?_)
    refine c_seq (fun K7 hK7 => ?_)
    refine c_reg ?_ -- region 5 exec.go:273
    refine wl (ro_loadAggB rfl ag_119 (h8) rfl rfl) ?_
    refine wl (ro_loadAggB rfl ag_119 (h7) rfl rfl) ?_
    refine wl (ro_build rfl bld_211_0_3_4) ?_
    refine wl_puta rfl rfl ((vevc_one 1 0 0 v u)) sz_211 (rfl) h6 ((by simp)) (rfl) (fun w8 h6 F8 => ?_)
    replace hF := hF.thenDrew.thenO F8 (by first | exact .inr (by omega) | exact .inl rfl | exact .inl (by assumption) | assumption)
    replace h7 := F8.blkO h7 (by first | omega | exact ow_ne (by assumption) (by assumption) (by omega))
    replace h8 := F8.blkO h8 (by first | omega | exact ow_ne (by assumption) (by assumption) (by omega))
    replace hq9 := hq9.hbput ((Fram.refl (one b6) _).thenDrew.thenO F8 (.inl rfl))
    refine wl_nil (x_then (hK7 _ _ ?_))
    clear hK7 K7
    refine c_ret (x_thenR ?_)
    refine bq_ret (res1 Tryz.results246 (rv_c rfl ag_211 (h6) (rfl))) ?_
    unfold RtR
    rw [if_pos rfl]
    exact ⟨rfl, _, hX, hF, hq9⟩
  · try simp only [decide_eq_true_eq, decide_eq_false_iff_not, Bool.not_eq_true', Bool.not_eq_false', Bool.not_eq_eq_eq_not, Bool.not_true, Bool.not_false, beq_iff_eq, bne_iff_ne, ne_eq, beq_eq_false_iff_ne, bne_eq_false_iff_eq, gt_iff_lt, ge_iff_le, Int.not_lt, Int.not_le] at hc18
    have hgs : gs ≠ [] := fun q ↦ by rw [q] at hc18; simp at hc18
    refine c_skip (x_then (hK4 _ _ ?_))
    clear hK4 K4
    refine forget [(0, _), (1, _), (2, _), (6, _), (7, _), (8, _)] ⟨rfl, rfl, rfl, rfl, rfl, rfl, trivial⟩ (fun e => ?_)
    refine c_seq (fun K8 hK8 => ?_)
    refine c_reg ?_ -- region 6 exec.go:275
    refine wl (ro_move rfl) ?_
    refine wl (ro_move rfl) ?_
    refine wl (ro_move rfl) ?_
    refine wl (ro_nilCheck rfl) ?_
    refine wl (ro_fieldAddr (k := 2) rfl fo_331_2) ?_
    refine wl (ro_loadB rfl sc_3 (hB1) (frow_at q1 (by decide))) ?_
    refine wl_call rfl en_238 (close238 (p := f.base) o.v o.t.hx hb9 hd9) ?_
    rintro _ u9 ⟨rfl, U1, hv1, hu1, fk9⟩
    have x9 : Xt w7 ow5 ow5 := Xt.refl _ _
    have f9 := fk9.mono (fun b _ q ↦ (show tg _ vtT b from clS_vt htt q))
    obtain ⟨h6, kh6⟩ := vm_loc' x9 f9 h6 kh6
    obtain ⟨h7, kh7⟩ := vm_loc' x9 f9 h7 kh7
    obtain ⟨h8, kh8⟩ := vm_loc' x9 f9 h8 kh8
    have hs9 := hF.size
    replace hF := vm_trans' hX hF f9
    replace hX := hX.trans hs9 x9
    have hx1 := closeV_th (p := f.base) o.t.hx
    have hfr1 : ({ x with opn := (closeL x.stack f.base x.opn V.cells).2 } : VTh).frs = f :: fs := o.t.hf
    obtain ⟨fg1, fc1, lF1, e31, e3c, hB1, tf1, r31⟩ := hv1.frA hx1 (by rw [hfr1]; simp)
    have r3 := r31 fs.length f (by rw [hfr1]; simp)
    rw [hu1 _ _ (by omega), o.hf] at e31
    injection e31 with e32 e33 e34
    injection e32 with e32
    injection e32 with e32
    subst e32; subst e34
    rw [o.t.nl] at r3
    have hgc : gs.length + 1 ≤ fc := by rw [hfr1, List.length_cons, o.t.nl] at e3c; exact e3c
    obtain ⟨sg, sc, e2, hcs⟩ := hv1.skA hx1
    have hcs : x.stack.length ≤ sc := hcs
    obtain ⟨lT1, hT, hTl1, -, -, hTr1, -, -, WS, -⟩ := hv1.thA hx1
    have hT2 : lT1[a.cur * 5 + 2]? = some (.slice sg x.stack.length sc) := by rw [hTr1 2 (by simp), e2]
    have hF1 : Fram (one C.E.tb) u9 u9 := Fram.refl _ _
    have n1 : fg ≠ C.E.tb := fun q ↦ by rw [q, htt] at tf1; omega
    have hrt := o.t.rt
    have hln := o.t.ln
    have e9 : ({ g with ops := l } : AFr).slots.length = g.slots.length := rfl
    refine wl_nil (x_then (hK8 _ _ ?_))
    clear hK8 K8
    refine forget [(1, _), (2, _), (6, _), (7, _), (8, _)] ⟨rfl, rfl, rfl, rfl, rfl, trivial⟩ (fun e => ?_)
    refine c_seq (fun K9 hK9 => ?_)
    refine c_piL 12 [(0, false), (1, false), (2, false), (3, false), (4, false), (5, false), (6, false), (7, false), (8, false), (9, false), (10, false), (11, false)] (SameH _) mixed (by kernel_rfl) rfl (by kernel_rfl) (po_then (po_bp)) (sameH_now _ _) ?_ -- region 7 exec.go:276
    refine ql_ro rfl (fun w hS => ro_move rfl) ?_
    refine ql_ro rfl (fun w hS => ro_move rfl) ?_
    refine ql_ro rfl (fun w hS => ro_nilCheck rfl) ?_
    refine ql_ro rfl (fun w hS => ro_fieldAddr (k := 2) rfl fo_269_2) ?_
    refine ql_ro rfl (fun w hS => ro_loadB rfl sc_83 (Blk.of_heap hT hS) (hT2)) ?_
    refine ql_ro rfl (fun w hS => ro_move rfl) ?_
    refine ql_ro rfl (fun w hS => ro_nilCheck rfl) ?_
    refine ql_ro rfl (fun w hS => ro_fieldAddr (k := 3) rfl fo_331_3) ?_
    refine ql_ro rfl (fun w hS => ro_loadB rfl sc_3 (Blk.of_heap hB1 hS) (frow_at r3 (by decide))) ?_
    refine ql_ro rfl (fun w hS => ro_sliceH (h := f.ret) rfl rfl se_83 rfl (show f.ret ≤ sc by omega)) ?_
    refine ql_ro rfl (fun w hS => ro_nilCheck rfl) ?_
    refine ql_ro rfl (fun w hS => ro_fieldAddr (k := 2) rfl fo_269_2) ?_
    refine ql_put rfl rfl rfl rfl sz_83 hT ((by omega)) (rfl) (fun w9 hT F9 => ?_)
    replace hF := hF.thenDrew.thenO F9 (by first | exact .inr (by omega) | exact .inl rfl | exact .inl (by assumption) | assumption)
    replace h6 := F9.blkO h6 (by first | omega | exact ow_ne (by assumption) (by assumption) (by omega))
    replace h7 := F9.blkO h7 (by first | omega | exact ow_ne (by assumption) (by assumption) (by omega))
    replace h8 := F9.blkO h8 (by first | omega | exact ow_ne (by assumption) (by assumption) (by omega))
    replace hB1 := F9.blkO hB1 (by first | omega | exact ow_ne (by assumption) (by assumption) (by omega))
    replace hF1 := hF1.thenDrew.thenO F9 (by first | exact .inr (by omega) | exact .inl rfl | exact .inl (by assumption) | assumption)
    have hv2 := WS _ (x.stack.take f.ret) sg sc (by rw [List.length_take, Nat.min_eq_left (by omega)]) e2 hF1 (by rw [List.length_take, Nat.min_eq_left (by omega)]; exact hT)
    have hx2 := vset_at (x' := { ({ x with opn := (closeL x.stack f.base x.opn V.cells).2 } : VTh) with stack := x.stack.take f.ret }) hx1
    have hl2 : (x.stack.take f.ret).length ≤ 3000 := by rw [List.length_take]; omega
    refine x_then (hK9 _ _ ?_)
    clear hK9 K9
    refine c_seq (fun K10 hK10 => ?_)
    refine c_seq (fun K11 hK11 => ?_)
    refine c_reg ?_ -- region 8 exec.go:277
    refine wl (ro_move rfl) ?_
    refine wl (ro_nilCheck rfl) ?_
    refine wl (ro_fieldAddr (k := 4) rfl fo_331_4) ?_
    refine wl (ro_loadB rfl sc_4 (hB1) (frow_at r3 (by decide))) ?_
    refine wl_nil (x_then (hK11 _ _ ?_))
    clear hK11 K11
    refine wc_cond rfl (fun hc47 => ?_) (fun hc47 => ?_)
    · try simp only [decide_eq_true_eq, decide_eq_false_iff_not, Bool.not_eq_true', Bool.not_eq_false', Bool.not_eq_eq_eq_not, Bool.not_true, Bool.not_false, beq_iff_eq, bne_iff_ne, ne_eq, beq_eq_false_iff_ne, bne_eq_false_iff_eq, gt_iff_lt, ge_iff_le, Int.not_lt, Int.not_le] at hc47
      have hpt : g.prot = true := by rw [← o.t.pt]; exact hc47
      refine c_reg ?_ -- region 9 exec.go:278
      refine wl (ro_move rfl) ?_
      refine wl (ro_build rfl bld_119_0_1) ?_
      refine wl (ro_loadAggB rfl ag_119 (h8) rfl rfl) ?_
      refine wl_puV (vs := [vBool true, v]) (eo_bsV2 rfl rfl se_83 zx_119) rfl hv2 hx2 rfl (by show (x.stack.take f.ret).length + 2 ≤ 100000; omega) ?_
      intro u10 v10 ow10 x10 fp10 hv3 _
      have f10 := fp10.mono (fun b _ q ↦ (show tg _ vtT b from q.elim (fun q ↦ by show vtT _; rw [q]; exact vt_tb htt) (fun q ↦ by show vtT _; rw [q]; left; have := o.lt; unfold vmT; omega)))
      obtain ⟨h6, kh6⟩ := vm_loc' x10 f10 h6 kh6
      obtain ⟨h7, kh7⟩ := vm_loc' x10 f10 h7 kh7
      obtain ⟨h8, kh8⟩ := vm_loc' x10 f10 h8 kh8
      have hs10 := hF.size
      replace hF := vm_trans' hX hF f10
      replace hX := hX.trans hs10 x10
      have hx3 := vset_at (x' := { ({ ({ x with opn := (closeL x.stack f.base x.opn V.cells).2 } : VTh) with stack := x.stack.take f.ret } : VTh) with stack := x.stack.take f.ret ++ [vBool true, v] }) hx2
      have e3 : (up1 (up1 U1 a.cur (up1 (U1 a.cur) 2 (.slice sg (x.stack.take f.ret).length sc))) a.cur (up1 (up1 U1 a.cur (up1 (U1 a.cur) 2 (.slice sg (x.stack.take f.ret).length sc)) a.cur) 2 v10)) a.cur 3 = .slice (some ⟨fg, 0, none⟩) (gs.length + 1) fc := by
        rw [up1_self, up1_ne (by decide), up1_self, up1_ne (by decide), hu1 _ _ (by omega), o.hf]
      obtain ⟨lT3, hT, hTl3, -, -, hTr3, -, -, -, WF⟩ := hv3.thA hx3
      have hT3 : lT3[a.cur * 5 + 3]? = some (.slice (some ⟨fg, 0, none⟩) (gs.length + 1) fc) := by rw [hTr3 3 (by simp), e3]
      have hF2 : Fram (one C.E.tb) u10 u10 := Fram.refl _ _
      have htt3 := hv3.tt.1
      skip
      refine wl_nil (x_then (hK10 _ _ ?_))
      clear hK10 K10
      refine forget [(1, _), (6, _)] ⟨rfl, rfl, trivial⟩ (fun e => ?_)
      refine c_seq (fun K12 hK12 => ?_)
      refine c_piL 14 [(0, false), (1, false), (2, false), (3, false), (4, false), (5, false), (6, false), (7, false), (8, false), (9, false), (10, false), (11, false), (12, false), (13, false)] (SameH _) mixed (by kernel_rfl) rfl (by kernel_rfl) (po_then (po_bp)) (sameH_now _ _) ?_ -- region 11 exec.go:282
      refine ql_ro rfl (fun w hS => ro_move rfl) ?_
      refine ql_ro rfl (fun w hS => ro_move rfl) ?_
      refine ql_ro rfl (fun w hS => ro_nilCheck rfl) ?_
      refine ql_ro rfl (fun w hS => ro_fieldAddr (k := 3) rfl fo_269_3) ?_
      refine ql_ro rfl (fun w hS => ro_loadB rfl sc_267 (Blk.of_heap hT hS) (hT3)) ?_
      refine ql_ro rfl (fun w hS => ro_move rfl) ?_
      refine ql_ro rfl (fun w hS => ro_nilCheck rfl) ?_
      refine ql_ro rfl (fun w hS => ro_fieldAddr (k := 3) rfl fo_269_3) ?_
      refine ql_ro rfl (fun w hS => ro_loadB rfl sc_267 (Blk.of_heap hT hS) (hT3)) ?_
      refine ql_ro rfl (fun w hS => ro_lenL rfl se_267) ?_
      refine ql_ro rfl (fun w hS => ro_arith rfl rfl rfl (Go.IntWalk.i64_in _ (by omega))) ?_
      refine ql_ro rfl (fun w hS => ro_sliceH (h := gs.length) rfl rfl se_267 (by omega) (by omega)) ?_
      refine ql_ro rfl (fun w hS => ro_nilCheck rfl) ?_
      refine ql_ro rfl (fun w hS => ro_fieldAddr (k := 3) rfl fo_269_3) ?_
      refine ql_put rfl rfl rfl rfl sz_267 hT ((by omega)) (rfl) (fun w10 hT F10 => ?_)
      replace hF := hF.thenDrew.thenO F10 (by first | exact .inr (by omega) | exact .inl rfl | exact .inl (by assumption) | assumption)
      replace h6 := F10.blkO h6 (by first | omega | exact ow_ne (by assumption) (by assumption) (by omega))
      replace h7 := F10.blkO h7 (by first | omega | exact ow_ne (by assumption) (by assumption) (by omega))
      replace h8 := F10.blkO h8 (by first | omega | exact ow_ne (by assumption) (by assumption) (by omega))
      replace hF2 := hF2.thenDrew.thenO F10 (by first | exact .inr (by omega) | exact .inl rfl | exact .inl (by assumption) | assumption)
      have hv4 := WF _ fs (some ⟨fg, 0, none⟩) fc (by show x.frs.drop (x.frs.length - fs.length) = fs; rw [o.t.hf, List.length_cons, show fs.length + 1 - fs.length = 1 by omega]; rfl) (by rw [e3]; show _ = Value.slice _ x.frs.length fc; rw [o.t.hf, List.length_cons, o.t.nl]) hF2 (by rw [o.t.nl]; exact hT)
      simp only [vset_set] at hv4
      have hz4 := o.z.pop2 hc o.t hgs (if g.prot then vBool true else v) (if g.prot then v else u)
      rw [hpt] at hz4
      have hq9 : AMq C w10 ow10 (aret v u (mkA a y gs g vars)) := by
        rw [aret_cons hc hgs, hpt]
        exact ⟨_, κ, _, _, hv4, hz4⟩
      refine x_then (hK12 _ _ ?_)
      clear hK12 K12
      refine forget [(6, _)] ⟨rfl, trivial⟩ (fun e => ?_)
      refine c_seq (fun K13 hK13 => ?_)
      refine c_reg ?_ -- region 12 exec.go:283
      refine wl (ro_build rfl bld_211) ?_
      refine wl_puta rfl rfl ((vevc_one 0 0 0 vNil vNil)) sz_211 (rfl) h6 ((by simp)) (rfl) (fun w11 h6 F11 => ?_)
      replace hF := hF.thenDrew.thenO F11 (by first | exact .inr (by omega) | exact .inl rfl | exact .inl (by assumption) | assumption)
      replace h7 := F11.blkO h7 (by first | omega | exact ow_ne (by assumption) (by assumption) (by omega))
      replace h8 := F11.blkO h8 (by first | omega | exact ow_ne (by assumption) (by assumption) (by omega))
      replace hq9 := hq9.hbput ((Fram.refl (one b6) _).thenDrew.thenO F11 (.inl rfl))
      refine wl_nil (x_then (hK13 _ _ ?_))
      clear hK13 K13
      refine c_ret ?_
      refine bq_ret (res1 Tryz.results246 (rv_c rfl ag_211 (h6) (rfl))) ?_
      unfold RtR
      rw [if_neg hgs]
      exact ⟨rfl, _, hX, hF, hq9⟩
    · try simp only [decide_eq_true_eq, decide_eq_false_iff_not, Bool.not_eq_true', Bool.not_eq_false', Bool.not_eq_eq_eq_not, Bool.not_true, Bool.not_false, beq_iff_eq, bne_iff_ne, ne_eq, beq_eq_false_iff_ne, bne_eq_false_iff_eq, gt_iff_lt, ge_iff_le, Int.not_lt, Int.not_le] at hc47
      have hpt : g.prot = false := by rw [← o.t.pt]; exact hc47
      refine c_reg ?_ -- region 10 exec.go:280
      refine wl (ro_move rfl) ?_
      refine wl (ro_loadAggB rfl ag_119 (h8) rfl rfl) ?_
      refine wl (ro_loadAggB rfl ag_119 (h7) rfl rfl) ?_
      refine wl_puV (vs := [v, u]) (eo_bsV2 rfl rfl se_83 zx_119) rfl hv2 hx2 rfl (by show (x.stack.take f.ret).length + 2 ≤ 100000; omega) ?_
      intro u10 v10 ow10 x10 fp10 hv3 _
      have f10 := fp10.mono (fun b _ q ↦ (show tg _ vtT b from q.elim (fun q ↦ by show vtT _; rw [q]; exact vt_tb htt) (fun q ↦ by show vtT _; rw [q]; left; have := o.lt; unfold vmT; omega)))
      obtain ⟨h6, kh6⟩ := vm_loc' x10 f10 h6 kh6
      obtain ⟨h7, kh7⟩ := vm_loc' x10 f10 h7 kh7
      obtain ⟨h8, kh8⟩ := vm_loc' x10 f10 h8 kh8
      have hs10 := hF.size
      replace hF := vm_trans' hX hF f10
      replace hX := hX.trans hs10 x10
      have hx3 := vset_at (x' := { ({ ({ x with opn := (closeL x.stack f.base x.opn V.cells).2 } : VTh) with stack := x.stack.take f.ret } : VTh) with stack := x.stack.take f.ret ++ [v, u] }) hx2
      have e3 : (up1 (up1 U1 a.cur (up1 (U1 a.cur) 2 (.slice sg (x.stack.take f.ret).length sc))) a.cur (up1 (up1 U1 a.cur (up1 (U1 a.cur) 2 (.slice sg (x.stack.take f.ret).length sc)) a.cur) 2 v10)) a.cur 3 = .slice (some ⟨fg, 0, none⟩) (gs.length + 1) fc := by
        rw [up1_self, up1_ne (by decide), up1_self, up1_ne (by decide), hu1 _ _ (by omega), o.hf]
      obtain ⟨lT3, hT, hTl3, -, -, hTr3, -, -, -, WF⟩ := hv3.thA hx3
      have hT3 : lT3[a.cur * 5 + 3]? = some (.slice (some ⟨fg, 0, none⟩) (gs.length + 1) fc) := by rw [hTr3 3 (by simp), e3]
      have hF2 : Fram (one C.E.tb) u10 u10 := Fram.refl _ _
      have htt3 := hv3.tt.1
      skip
      refine wl_nil (x_then (hK10 _ _ ?_))
      clear hK10 K10
      refine forget [(1, _), (6, _)] ⟨rfl, rfl, trivial⟩ (fun e => ?_)
      refine c_seq (fun K14 hK14 => ?_)
      refine c_piL 14 [(0, false), (1, false), (2, false), (3, false), (4, false), (5, false), (6, false), (7, false), (8, false), (9, false), (10, false), (11, false), (12, false), (13, false)] (SameH _) mixed (by kernel_rfl) rfl (by kernel_rfl) (po_then (po_bp)) (sameH_now _ _) ?_ -- region 11 exec.go:282
      refine ql_ro rfl (fun w hS => ro_move rfl) ?_
      refine ql_ro rfl (fun w hS => ro_move rfl) ?_
      refine ql_ro rfl (fun w hS => ro_nilCheck rfl) ?_
      refine ql_ro rfl (fun w hS => ro_fieldAddr (k := 3) rfl fo_269_3) ?_
      refine ql_ro rfl (fun w hS => ro_loadB rfl sc_267 (Blk.of_heap hT hS) (hT3)) ?_
      refine ql_ro rfl (fun w hS => ro_move rfl) ?_
      refine ql_ro rfl (fun w hS => ro_nilCheck rfl) ?_
      refine ql_ro rfl (fun w hS => ro_fieldAddr (k := 3) rfl fo_269_3) ?_
      refine ql_ro rfl (fun w hS => ro_loadB rfl sc_267 (Blk.of_heap hT hS) (hT3)) ?_
      refine ql_ro rfl (fun w hS => ro_lenL rfl se_267) ?_
      refine ql_ro rfl (fun w hS => ro_arith rfl rfl rfl (Go.IntWalk.i64_in _ (by omega))) ?_
      refine ql_ro rfl (fun w hS => ro_sliceH (h := gs.length) rfl rfl se_267 (by omega) (by omega)) ?_
      refine ql_ro rfl (fun w hS => ro_nilCheck rfl) ?_
      refine ql_ro rfl (fun w hS => ro_fieldAddr (k := 3) rfl fo_269_3) ?_
      refine ql_put rfl rfl rfl rfl sz_267 hT ((by omega)) (rfl) (fun w12 hT F12 => ?_)
      replace hF := hF.thenDrew.thenO F12 (by first | exact .inr (by omega) | exact .inl rfl | exact .inl (by assumption) | assumption)
      replace h6 := F12.blkO h6 (by first | omega | exact ow_ne (by assumption) (by assumption) (by omega))
      replace h7 := F12.blkO h7 (by first | omega | exact ow_ne (by assumption) (by assumption) (by omega))
      replace h8 := F12.blkO h8 (by first | omega | exact ow_ne (by assumption) (by assumption) (by omega))
      replace hF2 := hF2.thenDrew.thenO F12 (by first | exact .inr (by omega) | exact .inl rfl | exact .inl (by assumption) | assumption)
      have hv4 := WF _ fs (some ⟨fg, 0, none⟩) fc (by show x.frs.drop (x.frs.length - fs.length) = fs; rw [o.t.hf, List.length_cons, show fs.length + 1 - fs.length = 1 by omega]; rfl) (by rw [e3]; show _ = Value.slice _ x.frs.length fc; rw [o.t.hf, List.length_cons, o.t.nl]) hF2 (by rw [o.t.nl]; exact hT)
      simp only [vset_set] at hv4
      have hz4 := o.z.pop2 hc o.t hgs (if g.prot then vBool true else v) (if g.prot then v else u)
      rw [hpt] at hz4
      have hq9 : AMq C w12 ow10 (aret v u (mkA a y gs g vars)) := by
        rw [aret_cons hc hgs, hpt]
        exact ⟨_, κ, _, _, hv4, hz4⟩
      refine x_then (hK14 _ _ ?_)
      clear hK14 K14
      refine forget [(6, _)] ⟨rfl, trivial⟩ (fun e => ?_)
      refine c_seq (fun K15 hK15 => ?_)
      refine c_reg ?_ -- region 12 exec.go:283
      refine wl (ro_build rfl bld_211) ?_
      refine wl_puta rfl rfl ((vevc_one 0 0 0 vNil vNil)) sz_211 (rfl) h6 ((by simp)) (rfl) (fun w13 h6 F13 => ?_)
      replace hF := hF.thenDrew.thenO F13 (by first | exact .inr (by omega) | exact .inl rfl | exact .inl (by assumption) | assumption)
      replace h7 := F13.blkO h7 (by first | omega | exact ow_ne (by assumption) (by assumption) (by omega))
      replace h8 := F13.blkO h8 (by first | omega | exact ow_ne (by assumption) (by assumption) (by omega))
      replace hq9 := hq9.hbput ((Fram.refl (one b6) _).thenDrew.thenO F13 (.inl rfl))
      refine wl_nil (x_then (hK15 _ _ ?_))
      clear hK15 K15
      refine c_ret ?_
      refine bq_ret (res1 Tryz.results246 (rv_c rfl ag_211 (h6) (rfl))) ?_
      unfold RtR
      rw [if_neg hgs]
      exact ⟨rfl, _, hX, hF, hq9⟩
end
end Go.Proofs.Qxb6500568aGreatDoor
