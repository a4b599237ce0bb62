import Derived.Test.Qxb6500568aGreatDoorKt
/- The machine: a frame is built. -/
namespace Go.Proofs.Qxb6500568aGreatDoor
open Ieee
set_option linter.unusedVariables false
set_option linter.unusedSimpArgs false
set_option linter.unusedSectionVars false

section
variable {n : Nat} {e0 : Nat → Option Value} {ds : List Deferred} {w : World} {ops : Array Oper} {Q : Exit → Act → World → Prop} {rest : List Oper} {d1 d2 : Nat} {bs : Op} {ty1 ty2 : TypeId} {ps1 ps2 : String} {af1 af2 : Array Edge}
  {C : VC} {ow : Nat → Nat} {V : VS} {e fuel t : Nat} {out : Str} {T : List Tb} {Vv : Nat → Value} {U : Nat → Nat → Value} {x : VTh}
theorem wl_puV {tp : Operand} {ats : Array TypeId} {m : Nat} {vs : List PV} (hb : EO Tryz.prog n e0 w bs (.slice (some ⟨w.heap.size, 0, none⟩) m m) (w.alloc (.cells (rws pvc vs).toArray 119))) (hm : vs.length = m) (h : VW C w ow V e fuel out T Vv U) (hx : V.ths[t]? = some x) (ha : evArgs n (upd e0 d1 (.slice (some ⟨w.heap.size, 0, none⟩) m m)) [tp, .tmp d1] = some [tptr C t, .slice (some ⟨w.heap.size, 0, none⟩) m m]) (hl : x.stack.length + vs.length ≤ 100000)
    (K : ∀ w' v2 ow', Xt w ow ow' → Fram (fun b => b = C.E.tb ∨ ow b = 440 + t) w w' → VW C w' ow' (V.setT t { x with stack := x.stack ++ vs }) e fuel out T Vv (up1 U t (up1 (U t) 2 v2)) →
      (∀ ab ao cs, WinB w ab ao cs → ab ≠ C.E.tb → (own1 (U t 2) ab → ao + cs.length ≤ x.stack.length * 3) → WinB w' ab ao cs ∧ (own1 v2 ab → own1 (U t 2) ab)) → WL Tryz.prog ops Q rest (Fr n (upd (upd e0 d1 (.slice (some ⟨w.heap.size, 0, none⟩) m m)) d2 (.tuple #[])) ds) w') :
    WL Tryz.prog ops Q (⟨some d1, bs, ty1, ps1, af1, none⟩ :: ⟨some d2, .call ⟨.value (.func 151), #[tp, .tmp d1], ats⟩, ty2, ps2, af2, none⟩ :: rest) (Fr n e0 ds) w := by
  refine wle hb ?_
  have hF : Fram none' w (w.alloc (.cells (rws pvc vs).toArray 119)) := Fram.alloc none' w _
  subst hm
  refine wl_call ha en_151 (push151 (h.thruN hF) hx (Blk.new w (rws pvc vs) 119) hl) ?_
  rintro _ w' ⟨rfl, v2, ow', x1, fr, hv', hW⟩
  refine K w' v2 ow' (Xt.trans (w1 := w.alloc (.cells (rws pvc vs).toArray 119)) (Xt.refl _ _) hF.size x1) ((hF.wide (G := fun b => b = C.E.tb ∨ ow b = 440 + t)).trans' fr (fun _ _ q => q)) hv' (fun ab ao cs hw hne ho => ?_)
  obtain ⟨l, ty, hb1, hb2⟩ := hw
  obtain ⟨q1, q2⟩ := hW ab ao cs ⟨l, ty, hF.blkN hb1, hb2⟩ hne ho
  refine ⟨q1, fun q => ?_⟩
  rcases q2 q with z | z
  · exact z
  · have := hb1.lt
    have hsz := hF.size
    omega
end
section
variable {C : VC} {w w' w1 u u1 u2 : World} {ow ow' ow1 : Nat → Nat} {V : VS} {e fuel t : Nat} {out : Str} {T : List Tb} {Vv : Nat → Value} {U : Nat → Nat → Value} {x : VTh} {L : VL}
/-- arguments in memory. -/
def ArgS (C : VC) (w0 w : World) (sv : Value) (n : Nat) (av : Value) (zs : List PV) : Prop := ∃ ab ao cap, av = .slice (some ⟨ab, ao, none⟩) zs.length cap ∧ WinB w ab ao (rws pvc zs) ∧ ab ≠ C.E.tb ∧ (own1 sv ab → ao + zs.length * 3 ≤ n * 3) ∧ (cap = zs.length ∨ (Own w.heap av 119 3 zs.length (rws pvc zs) ∧ w0.heap.size ≤ ab))
theorem WinB.got {ab ao i : Nat} {zs : List PV} {v : PV} {l : List Value} (h : (l.drop ao).take (rws pvc zs).length = rws pvc zs) (hi : zs[i]? = some v) : (l.drop (ao + i * 3)).take 3 = pvc v := by
  have hl := (List.getElem?_eq_some_iff.1 hi).1
  rw [← rws_at pvc_len hi, ← h, List.drop_take, List.take_take, List.drop_drop]
  congr 1
  rw [rws_len pvc_len]
  omega
theorem ArgS.new {w0 u : World} {sv av : Value} {n : Nat} {zs : List PV} (ho : Own u.heap av 119 3 zs.length (rws pvc zs)) (hz : 0 < zs.length) (hb : ∀ q, av.ownBlock = some q → w0.heap.size ≤ q) (htb : C.E.tb < w0.heap.size) (hsv : ∀ q, own1 sv q → q < w0.heap.size) : ArgS C w0 u sv n av zs := by
  obtain ⟨g, cap, l, e1, hB, q1, q2, q3, q4⟩ := ho.pos hz
  have hg := hb g (by rw [e1]; rfl)
  refine ⟨g, 0, cap, e1, ⟨l, 119, hB, by rw [List.drop_zero, rws_len pvc_len]; exact q4⟩, by omega, fun q => by have := hsv g q; omega, .inr ⟨ho, hg⟩⟩
/-- a function's row. -/
theorem VW.pro (h : VW C w ow V e fuel out T Vv U) {j : Nat} (hj : j < C.F.length) : ∃ l a b c, Blk w.heap C.pg l 258 ∧ ow C.pg = 402 ∧ (l.drop (0 + j * 8)).take 8 = vpc (fsAt C.F j) a b c ∧
    (∃ D : List (Nat × Nat), OwT w ow 403 (Vv 3) 319 2 D.length (rws upc D) ∧ Win D a (fsAt C.F j).ups ∧ D.length ≤ 100000) ∧ (∃ K : List PV, OwT w ow 404 (Vv 4) 119 3 K.length (rws pvc K) ∧ Win K b (fsAt C.F j).ks ∧ K.length ≤ 100000) ∧ (∃ Cd : List (Nat × Nat), OwT w ow 405 (Vv 5) 322 2 Cd.length (rws inc Cd) ∧ Win Cd c (fsAt C.F j).code ∧ Cd.length ≤ 100000) := by
  obtain ⟨L, op, vl⟩ := h.ex
  obtain ⟨rows, D, K, Cd, h2, h3, h4, h5, h6, h7, -⟩ := vl.p
  have hl : j < rows.length := by rw [← h6, List.length_map] at hj; exact hj
  have hr : rows[j]? = some rows[j] := List.getElem?_eq_getElem hl
  have hm := List.getElem_mem hl
  generalize rows[j] = r at *
  have hf : r.1 = fsAt C.F j := by
    unfold fsAt
    rw [List.getD_eq_getElem?_getD, ← h6, List.getElem?_map, hr]; rfl
  have o2 := op.a 2 (.inl (by decide))
  have o3 := op.a 3 (.inl (by decide))
  have o4 := op.a 4 (.inl (by decide))
  have o5 := op.a 5 (.inl (by decide))
  have b3 := vl.pb 3 (by decide) (by decide)
  have b4 := vl.pb 4 (by decide) (by decide)
  have b5 := vl.pb 5 (by decide) (by decide)
  rw [h2] at o2
  rw [h3] at o3 b3
  rw [h4] at o4 b4
  rw [h5] at o5 b5
  have o2 : OwT w ow 402 (Vv 2) 258 8 rows.length (rws vpr rows) := o2
  obtain ⟨g, cap, l, e1, hB, q1, q2, q3, q4, q5⟩ := o2.at vpr_len hr
  rw [h.hp] at e1
  injection e1 with e2
  injection e2 with e2
  injection e2 with e2
  subst e2
  have h8 := h7 r hm
  rw [hf] at h8
  refine ⟨l, r.2.1, r.2.2.1, r.2.2.2, hB, q4, ?_, ⟨D, o3, h8.1, b3⟩, ⟨K, o4, h8.2.1, b4⟩, ⟨Cd, o5, h8.2.2, b5⟩⟩
  rw [q5 _ _ hr, ← hf]
  rfl
/-- a closure's row. -/
theorem VW.clo (h : VW C w ow V e fuel out T Vv U) {c p : Nat} {cs : List Nat} (hc : V.clos[c]? = some (p, cs)) : ∃ cg cc l up, Vv 6 = .slice (some ⟨cg, 0, none⟩) V.clos.length cc ∧ Blk w.heap cg l 209 ∧ ow cg = 406 ∧ (l.drop (0 + c * 3)).take 3 = vcc (p, up, cs.length) := by
  obtain ⟨L, op, vl⟩ := h.ex
  obtain ⟨cl, ux, c6, c7, cR, cb⟩ := vl.c
  obtain ⟨up, d1, d2⟩ := cR.lt hc
  obtain ⟨cg, ccap, cL, e6, hB2, -, -, -, t6, r6⟩ := (op.clk c6).at vcc_len d1
  rw [cR.1] at e6
  exact ⟨cg, ccap, cL, up, e6, hB2, t6, r6 _ _ d1⟩
theorem pad_get {ns np i : Nat} {zs : List PV} (hi : i < ns) : (padTo ns (zs.take np))[i]? = some (if i < np then zs.getD i vNil else vNil) := by
  unfold padTo
  rw [List.getElem?_map, List.getElem?_range hi]
  simp only [Option.map_some, List.getD_eq_getElem?_getD, List.getElem?_take]
  split <;> rfl
theorem pad_len {ns : Nat} {l : List PV} : (padTo ns l).length = ns := by unfold padTo; simp
/-- arguments with what is missing. -/
def argF (np : Nat) (zs : List PV) : List PV := zs ++ List.replicate (np - zs.length) vNil
theorem argF_pre {np : Nat} {zs zs' : List PV} (h : zs' <+: argF np zs) (h1 : zs.length ≤ zs'.length) (h2 : zs'.length < np) : zs' ++ [vNil] <+: argF np zs := by
  obtain ⟨r, hr⟩ := h
  have hlen : (argF np zs).length = np := by unfold argF; simp; omega
  have hr0 : 0 < r.length := by rw [← hr, List.length_append] at hlen; omega
  obtain ⟨v, r', rfl⟩ : ∃ v r', r = v :: r' := by
    rcases r with _ | ⟨v, r'⟩
    · simp at hr0
    · exact ⟨v, r', rfl⟩
  have hv : (argF np zs)[zs'.length]? = some v := by rw [← hr, List.getElem?_append_right (Nat.le_refl _), Nat.sub_self]; rfl
  have hv2 : (argF np zs)[zs'.length]? = some vNil := by
    unfold argF
    rw [List.getElem?_append_right h1, List.getElem?_replicate, if_pos (by omega)]
  rw [hv] at hv2
  injection hv2 with hv2
  subst hv2
  exact ⟨r', by rw [List.append_assoc]; exact hr⟩
theorem argF_get {np i : Nat} {zs zs' : List PV} (h : zs' <+: argF np zs) (hi : i < zs'.length) : zs'[i]? = some (zs.getD i vNil) := by
  obtain ⟨r, hr⟩ := h
  have h1 : zs'[i]? = (argF np zs)[i]? := by rw [← hr, List.getElem?_append_left hi]
  rw [h1]
  have hil : i < (argF np zs).length := by rw [← hr, List.length_append]; omega
  unfold argF at hil ⊢
  rw [List.getD_eq_getElem?_getD]
  by_cases hz : i < zs.length
  · rw [List.getElem?_append_left hz, List.getElem?_eq_getElem hz]; rfl
  · rw [List.getElem?_append_right (by omega), List.getElem?_replicate, if_pos (by simp at hil; omega), List.getElem?_eq_none (by omega)]; rfl
set_option maxHeartbeats 8000000 in
theorem enter150 (h : VW C w ow V e fuel out T Vv U) (hx : V.ths[t]? = some x) {c p : Nat} {cs : List Nat} (hcl : V.clos[c]? = some (p, cs)) (hp : p < C.F.length) {zs : List PV} {av : Value} {ab ao : Nat} (hav : av = .slice (some ⟨ab, ao, none⟩) zs.length zs.length) (haw : WinB w ab ao (rws pvc zs)) (hat : ab ≠ C.E.tb) (hao : own1 (U t 2) ab → ao + zs.length * 3 ≤ x.stack.length * 3) (hz3 : zs.length ≤ 3) {ret : Nat} {prot : Bool} (hlen : x.stack.length ≤ 50000) (hfl : x.frs.length ≤ 100) :
    Ret Tryz.prog 150 [ptr C.E.mb, tptr C t, i64c c, av, i64c ret, .bool prot] w (fun r w' => r = .tuple #[] ∧ ∃ ow' U', Xt w ow ow' ∧ Fram (tg ow vtT) w w' ∧ VW C w' ow' (V.setT t { x with stack := x.stack ++ padTo (fsAt C.F p).ns (zs.take (fsAt C.F p).np), frs := ⟨c, 0, x.stack.length, ret, prot⟩ :: x.frs }) e fuel out T Vv U') := by
  obtain ⟨e0, rfl⟩ : ∃ e0, e0 = e := ⟨e, rfl⟩
  have ht := h.lt hx
  have htl := (List.getElem?_eq_some_iff.1 hx).1
  have htt := h.tt.1
  have htm := h.tt.2
  have hfo := h.co.fok p
  obtain ⟨pl, pa, pb, pc, hB1, t1, r1, -, -, -⟩ := h.pro hp
  obtain ⟨cg, cc, cl, up, e6, hB2, t6, r6⟩ := h.clo hcl
  obtain ⟨lM, hM, -, -, hM2, -, -, -, hM6, -⟩ := h.mbA
  have hlc := (List.getElem?_eq_some_iff.1 hcl).1
  have hM6' : lM[6]? = some (.slice (some ⟨cg, 0, none⟩) V.clos.length cc) := by rw [hM6, e6]
  obtain ⟨Ff, hF1⟩ : ∃ Ff, Ff = fsAt C.F p := ⟨_, rfl⟩
  rw [← hF1] at hfo r1 ⊢
  have hns := hfo.1
  have hnp := hfo.2.1
  have hnn := hfo.2.2.1
  have hN : Fram none' w w := Fram.refl _ _
  obtain ⟨g2, c2, eU2⟩ : ∃ g2 c2, U t 2 = .slice g2 x.stack.length c2 := by
    obtain ⟨L, op, vl⟩ := h.ex
    exact (op.sk vl hx ht).form
  have htbl : C.E.tb < w.heap.size := by
    obtain ⟨L, op, vl⟩ := h.ex
    exact op.t.lt
  have hown9 : ∀ q, own1 (U t 2) q → q < w.heap.size := by
    obtain ⟨L, op, vl⟩ := h.ex
    exact fun q z => (op.sk vl hx ht).o.lt z
  refine ret_of Tryz.func150 rfl Tryz.ntmps150 rfl ?_
  refine c_seq (fun K1 hK1 => ?_)
  refine c_pi [(0, false), (1, false), (2, false), (3, false), (4, false), (5, false), (6, false), (7, false), (8, false), (9, false), (10, false), (11, false), (12, false), (13, false)] (SameH _) mixed (by kernel_rfl) rfl (by kernel_rfl) (po_then (po_bp)) (sameH_now _ _) ?_ -- region 0 call.go:13
  refine pi_ro rfl (fun w hS => ro_move rfl) ?_
  refine pi_ro rfl (fun w hS => ro_nilCheck rfl) ?_
  refine pi_ro rfl (fun w hS => ro_fieldAddr (k := 2) rfl fo_89_2) ?_
  refine pi_ro rfl (fun w hS => ro_loadB rfl sc_81 (Blk.of_heap hM hS) (hM2)) ?_
  refine pi_ro rfl (fun w hS => ro_move rfl) ?_
  refine pi_ro rfl (fun w hS => ro_nilCheck rfl) ?_
  refine pi_ro rfl (fun w hS => ro_fieldAddr (k := 6) rfl fo_89_6) ?_
  refine pi_ro rfl (fun w hS => ro_loadB rfl sc_85 (Blk.of_heap hM hS) (hM6')) ?_
  refine pi_ro rfl (fun w hS => ro_move rfl) ?_
  refine pi_ro rfl (fun w hS => ro_indexAddr (et := 209) (k := 3) rfl rfl se_85 (rfl) (hlc)) ?_
  refine pi_ro rfl (fun w hS => ro_fieldAddr (k := 0) rfl fo_209_0) ?_
  refine pi_ro rfl (fun w hS => ro_loadB rfl sc_3 (Blk.of_heap hB2 hS) (row_get r6 (by decide))) ?_
  refine pi_ro rfl (fun w hS => ro_indexAddr (et := 258) (k := 8) rfl rfl se_81 (rfl) (hp)) ?_
  refine pi_ro rfl (fun w hS => ro_assign rfl) ?_
  refine pi_nil (x_then (hK1 _ _ ?_))
  clear hK1 K1
  refine forget [(1, _), (2, _), (3, _), (4, _), (5, _), (12, _)] ⟨rfl, rfl, rfl, rfl, rfl, rfl, trivial⟩ (fun e => ?_)
  refine c_mid (fun a u => ∃ zs' av', Ff.np ≤ zs'.length ∧ zs' <+: argF Ff.np zs ∧ zs'.length ≤ 3 ∧ ArgS C w u (U t 2) x.stack.length av' zs' ∧ Fram none' w u ∧ ∃ e', a = Fr 83 (upds e' [(1, tptr C t), (2, i64c c), (3, av'), (4, i64c ret), (5, .bool prot), (12, .pointer (some ⟨C.pg, 0 + p * 8, none⟩))]) []) ?_ ?_
  · skip
    refine c_block ?_
    -- loop@r1: live slots [1, 2, 3, 4, 5, 12]
    refine c_loopG (fun m a u => ∃ zs' av', m = Ff.np - zs'.length ∧ zs' <+: argF Ff.np zs ∧ zs.length ≤ zs'.length ∧ zs'.length ≤ 3 ∧ ArgS C w u (U t 2) x.stack.length av' zs' ∧ Fram none' w u ∧ ∃ e', a = Fr 83 (upds e' [(1, tptr C t), (2, i64c c), (3, av'), (4, i64c ret), (5, .bool prot), (12, .pointer (some ⟨C.pg, 0 + p * 8, none⟩))]) []) _ ⟨zs, av, rfl, ⟨_, rfl⟩, Nat.le_refl _, hz3, ⟨ab, ao, zs.length, hav, haw.fram hN.thenDrew (fun q ↦ q), hat, hao, .inl rfl⟩, hN.thenDrew, kp _ ⟨rfl, rfl, rfl, rfl, rfl, rfl, trivial⟩⟩ ?_
    rintro m a u ⟨zs', av', rfl, hpre, hge, hle3, hA, hN1, e', rfl⟩
    obtain ⟨ab', ao', cap', q1, q2, q3, q4, q5⟩ := id hA
    subst q1
    have hP1 := hN1.blkN hB1
    refine c_seq (fun K2 hK2 => ?_)
    refine c_seq (fun K3 hK3 => ?_)
    refine c_reg ?_ -- region 1 call.go:14
    refine wl (ro_move rfl) ?_
    refine wl (ro_lenL rfl se_83) ?_
    refine wl (ro_move rfl) ?_
    refine wl (ro_nilCheck rfl) ?_
    refine wl (ro_fieldAddr (k := 0) rfl fo_258_0) ?_
    refine wl (ro_loadB rfl sc_3 (hP1) (row_get r1 (by decide))) ?_
    refine wl (ro_cmp rfl rfl rfl) ?_
    refine wl_nil (x_then (hK3 _ _ ?_))
    clear hK3 K3
    refine wc_cond rfl (fun hc34 => ?_) (fun hc34 => ?_)
    · try simp only [decide_eq_true_eq, decide_eq_false_iff_not, Bool.not_eq_true', Bool.not_eq_false', Bool.not_eq_eq_eq_not, Bool.not_true, Bool.not_false, beq_iff_eq, bne_iff_ne, ne_eq, beq_eq_false_iff_ne, bne_eq_false_iff_eq, gt_iff_lt, ge_iff_le, Int.not_lt, Int.not_le] at hc34
      have hlt9 : zs'.length < Ff.np := by omega
      have hsz1 := hN1.size
      have hpre2 : zs' ++ [vNil] <+: argF Ff.np zs := argF_pre hpre hge hlt9
      have hone : ∀ q ∈ rws pvc [vNil], q.oneCell' = true := rws_oneC pvc_one _
      refine c_skip (x_then (hK2 _ _ ?_))
      clear hK2 K2
      refine c_block ?_
      rcases q5 with q5 | q5
      · skip
        obtain ⟨lw, tyw, hw1, hw2⟩ := q2
        rw [rws_len pvc_len] at hw2
        refine c_reg ?_ -- region 2 call.go:15
        refine wl (ro_move rfl) ?_
        refine wl (ro_build rfl bld_119) ?_
        refine wle (eo_bsV1 (i := vNil) rfl se_83 zx_119) ?_
        refine wl_appN (t := 83) (et := 119) (k := 3) (m := zs'.length) (m2 := 1) (xs := rws pvc zs') (news := rws pvc [vNil]) (l := lw) rfl rfl se_83 zx_119 by_119 rfl (hw1.alloc _) hw2 (rws_len pvc_len _) (rws_oneC pvc_one _) (Blk.new u (rws pvc [vNil]) 119) rfl rfl hone (by omega) (by omega) (by omega) ?_
        intro av2 u2 hon2 F2 hnew
        have hFa : Fram none' u (u.alloc (.cells (rws pvc [vNil]).toArray 119)) := Fram.alloc none' u _
        have hsa := hFa.size
        replace hN1 := (hN1.trans hFa).trans F2
        have hon3 : Own u2.heap av2 119 3 (zs' ++ [vNil]).length (rws pvc (zs' ++ [vNil])) := by rw [rws_app, List.length_append]; exact hon2
        have hA2 : ArgS C w u2 (U t 2) x.stack.length av2 (zs' ++ [vNil]) := ArgS.new hon3 (by simp) (fun q z ↦ by have := hnew q z; omega) htbl hown9
        skip
        refine wl (ro_assign rfl) ?_
        refine wl_nil (x_blk (x_then ?_))
        exact ⟨Ff.np - (zs' ++ [vNil]).length, by simp; omega, zs' ++ [vNil], av2, rfl, hpre2, by simp; omega, by simp; omega, hA2, hN1, kp _ ⟨rfl, rfl, rfl, rfl, rfl, rfl, trivial⟩⟩
      · skip
        refine c_reg ?_ -- region 2 call.go:15
        refine wl (ro_move rfl) ?_
        refine wl (ro_build rfl bld_119) ?_
        refine wle (eo_bsV1 (i := vNil) rfl se_83 zx_119) ?_
        refine wl_app (t := 83) (et := 119) (k := 3) (m := zs'.length) (m2 := 1) (xs := rws pvc zs') (news := rws pvc [vNil]) rfl rfl se_83 zx_119 by_119 rfl (q5.1.alloc _) (Blk.new u (rws pvc [vNil]) 119) rfl rfl hone (by omega) (by omega) ?_
        intro av2 u2 hon2 hgr hlo
        have hFa : Fram none' u (u.alloc (.cells (rws pvc [vNil]).toArray 119)) := Fram.alloc none' u _
        have hsa := hFa.size
        have F2 : Fram (fun b ↦ b = ab') (u.alloc (.cells (rws pvc [vNil]).toArray 119)) u2 := Fram.grown hgr (fun k z ↦ .inl (by cases z; rfl))
        have hN2 : Fram none' w u2 := ((hN1.trans hFa).trans' F2 (fun b hb z ↦ by have := q5.2; omega))
        replace hN1 := hN2
        have hon3 : Own u2.heap av2 119 3 (zs' ++ [vNil]).length (rws pvc (zs' ++ [vNil])) := by rw [rws_app, List.length_append]; exact hon2
        have hA2 : ArgS C w u2 (U t 2) x.stack.length av2 (zs' ++ [vNil]) := ArgS.new hon3 (by simp) (fun q z ↦ by
          have := q5.2
          rcases hlo with hlo | hlo
          · rw [hlo] at z; cases z; exact this
          · rw [hlo] at z; injection z with z; omega) htbl hown9
        skip
        refine wl (ro_assign rfl) ?_
        refine wl_nil (x_blk (x_then ?_))
        exact ⟨Ff.np - (zs' ++ [vNil]).length, by simp; omega, zs' ++ [vNil], av2, rfl, hpre2, by simp; omega, by simp; omega, hA2, hN1, kp _ ⟨rfl, rfl, rfl, rfl, rfl, rfl, trivial⟩⟩
    · try simp only [decide_eq_true_eq, decide_eq_false_iff_not, Bool.not_eq_true', Bool.not_eq_false', Bool.not_eq_eq_eq_not, Bool.not_true, Bool.not_false, beq_iff_eq, bne_iff_ne, ne_eq, beq_eq_false_iff_ne, bne_eq_false_iff_eq, gt_iff_lt, ge_iff_le, Int.not_lt, Int.not_le] at hc34
      refine c_exit (x_thenX (x_thenX (x_blkX (x_then ?_))))
      exact ⟨zs', _, by omega, hpre, hle3, hA, hN1, kp _ ⟨rfl, rfl, rfl, rfl, rfl, rfl, trivial⟩⟩
  rintro a u ⟨zs', av', hge, hpre, hle3, hA, hN1, e', rfl⟩
  obtain ⟨ab', ao', cap', q1, q2, q3, q4, q5⟩ := id hA
  subst q1
  have hv1 := h.thruN hN1
  obtain ⟨lT, hT, hTl, -, -, hTr, -⟩ := hv1.thA hx
  have hT2 : lT[t * 5 + 2]? = some (.slice g2 x.stack.length c2) := by rw [hTr 2 (by simp), eU2]
  refine c_seq (fun K4 hK4 => ?_)
  refine c_reg ?_ -- region 3 call.go:17
  refine wl (ro_move rfl) ?_
  refine wl (ro_nilCheck rfl) ?_
  refine wl (ro_fieldAddr (k := 2) rfl fo_269_2) ?_
  refine wl (ro_loadB rfl sc_83 (hT) (hT2)) ?_
  refine wl (ro_lenL rfl se_83) ?_
  refine wl (ro_assign rfl) ?_
  refine wl_nil (x_then (hK4 _ _ ?_))
  clear hK4 K4
  refine c_seq (fun K5 hK5 => ?_)
  refine c_seq (fun K6 hK6 => ?_)
  refine c_reg ?_ -- region 4 call.go:18
  refine wl (ro_assign rfl) ?_
  refine wl_nil (x_then (hK6 _ _ ?_))
  clear hK6 K6
  refine c_block ?_
  -- loop@r5: live slots [1, 2, 3, 4, 5, 12, 13, 14]
  refine c_loopG (fun m a u' => ∃ i ow' v2, m = Ff.ns - i ∧ i ≤ Ff.ns ∧ Xt w ow ow' ∧ Fram (tg ow vtT) w u' ∧ VW C u' ow' (V.setT t { x with stack := x.stack ++ (padTo Ff.ns (zs.take Ff.np)).take i }) e0 fuel out T Vv (up1 U t (up1 (U t) 2 v2)) ∧ WinB u' ab' ao' (rws pvc zs') ∧ (own1 v2 ab' → own1 (U t 2) ab') ∧ ∃ e', a = Fr 83 (upds e' [(1, tptr C t), (2, i64c c), (3, .slice (some ⟨ab', ao', none⟩) zs'.length cap'), (4, i64c ret), (5, .bool prot), (12, .pointer (some ⟨C.pg, 0 + p * 8, none⟩)), (13, i64c x.stack.length), (14, i64c i)]) []) _ ⟨0, ow, U t 2, rfl, Nat.zero_le _, Xt.refl _ _, hN1.wide, ?_, q2, id, kp _ ⟨rfl, rfl, rfl, rfl, rfl, rfl, rfl, rfl, trivial⟩⟩ ?_
  · rw [up1_id, up1_id]
    have e1 : ({ x with stack := x.stack ++ (padTo Ff.ns (zs.take Ff.np)).take 0 } : VTh) = x := by rw [List.take_zero, List.append_nil]
    rw [e1, vset_self hx]
    exact hv1
  clear hT hv1 hTr hT2 hA
  rintro m a u' ⟨i, ow', v2, rfl, hi, hx9, hF9, hv9, hw9, ho9, e', rfl⟩
  have hxi := vset_at (x' := { x with stack := x.stack ++ (padTo Ff.ns (zs.take Ff.np)).take i }) hx
  obtain ⟨pl2, pa2, pb2, pc2, hP, t12, r12, -, -, -⟩ := hv9.pro hp
  rw [← hF1] at r12
  have hsl : (x.stack ++ (padTo Ff.ns (zs.take Ff.np)).take i).length ≤ 60000 := by rw [List.length_append, List.length_take, pad_len]; omega
  have hsz9 := hF9.size
  have hN9 : Fram none' u' u' := Fram.refl _ _
  refine c_seq (fun K7 hK7 => ?_)
  refine c_seq (fun K8 hK8 => ?_)
  refine c_reg ?_ -- region 5 call.go:18
  refine wl (ro_move rfl) ?_
  refine wl (ro_move rfl) ?_
  refine wl (ro_nilCheck rfl) ?_
  refine wl (ro_fieldAddr (k := 1) rfl fo_258_1) ?_
  refine wl (ro_loadB rfl sc_3 (hP) (row_get r12 (by decide))) ?_
  refine wl (ro_cmp rfl rfl rfl) ?_
  refine wl_nil (x_then (hK8 _ _ ?_))
  clear hK8 K8
  refine wc_cond rfl (fun hc49 => ?_) (fun hc49 => ?_)
  · try simp only [decide_eq_true_eq, decide_eq_false_iff_not, Bool.not_eq_true', Bool.not_eq_false', Bool.not_eq_eq_eq_not, Bool.not_true, Bool.not_false, beq_iff_eq, bne_iff_ne, ne_eq, beq_eq_false_iff_ne, bne_eq_false_iff_eq, gt_iff_lt, ge_iff_le, Int.not_lt, Int.not_le] at hc49
    have hilt : i < Ff.ns := by omega
    have hpg := pad_get (np := Ff.np) (zs := zs) hilt
    refine c_skip (x_then (hK7 _ _ ?_))
    clear hK7 K7
    refine forget [(1, _), (2, _), (3, _), (4, _), (5, _), (12, _), (13, _), (14, _)] ⟨rfl, rfl, rfl, rfl, rfl, rfl, rfl, rfl, trivial⟩ (fun e => ?_)
    refine c_seq (fun K9 hK9 => ?_)
    refine c_block ?_
    refine c_seq (fun K10 hK10 => ?_)
    refine c_reg ?_ -- region 7 call.go:19
    refine wl (ro_move rfl) ?_
    refine wl (ro_move rfl) ?_
    refine wl (ro_nilCheck rfl) ?_
    refine wl (ro_fieldAddr (k := 0) rfl fo_258_0) ?_
    refine wl (ro_loadB rfl sc_3 (hP) (row_get r12 (by decide))) ?_
    refine wl (ro_cmp rfl rfl rfl) ?_
    refine wl_nil (x_then (hK10 _ _ ?_))
    clear hK10 K10
    refine wc_cond rfl (fun hc57 => ?_) (fun hc57 => ?_)
    · try simp only [decide_eq_true_eq, decide_eq_false_iff_not, Bool.not_eq_true', Bool.not_eq_false', Bool.not_eq_eq_eq_not, Bool.not_true, Bool.not_false, beq_iff_eq, bne_iff_ne, ne_eq, beq_eq_false_iff_ne, bne_eq_false_iff_eq, gt_iff_lt, ge_iff_le, Int.not_lt, Int.not_le] at hc57
      have hinp : i < Ff.np := by omega
      have hget : zs'[i]? = some (zs.getD i vNil) := argF_get hpre (by omega)
      rw [if_pos hinp] at hpg
      obtain ⟨lw, tyw, hw1, hw2⟩ := id hw9
      have hrow := WinB.got (ab := ab') hw2 hget
      refine c_reg ?_ -- region 8 call.go:20
      refine wl (ro_move rfl) ?_
      refine wl (ro_move rfl) ?_
      refine wl (ro_move rfl) ?_
      refine wl (ro_indexAddr (et := 119) (k := 3) rfl rfl se_83 (rfl) ((by omega))) ?_
      refine wl (ro_loadAggB rfl ag_119 (hw1) (rfl) (hrow)) ?_
      refine wl_puV (vs := [zs.getD i vNil]) (eo_bsV1 rfl se_83 zx_119) rfl hv9 hxi rfl (by simp only [List.length_singleton]; omega) ?_
      intro u2 v3 ow2 x2 f2 hv2 hW
      skip
      refine wl_nil (x_blk (x_then (hK9 _ _ ?_)))
      clear hK9 K9
      refine c_reg ?_ -- region 6 call.go:18
      refine wl (ro_move rfl) ?_
      refine wl (ro_arith rfl rfl rfl (Go.IntWalk.i64_in _ (by omega))) ?_
      refine wl (ro_assign rfl) ?_
      refine wl_nil (x_then ?_)
      obtain ⟨hw3, ho3⟩ := hW ab' ao' _ hw9 q3 (fun q ↦ by
          rw [up1_self, up1_self] at q
          have := q4 (ho9 q)
          rw [rws_len pvc_len, List.length_append]
          omega)
      rw [up1_self, up1_self] at ho3
      refine ⟨Ff.ns - (i + 1), by omega, i + 1, ow2, v3, rfl, by omega, hx9.trans hsz9 x2, hF9.transG f2 (fun b hb z ↦ ?_), ?_, hw3, fun q ↦ ho9 (ho3 q), kp _ ⟨rfl, rfl, rfl, rfl, rfl, rfl, rfl, rfl, trivial⟩⟩
      · show vtT (ow b)
        rw [← hx9 b hb]
        rcases z with z | z
        · rw [z]; exact vt_tb hv9.tt.1
        · rw [z]; left; unfold vmT; omega
      · rw [vset_set, up1_up1, up1_self, up1_up1] at hv2
        have e1 : x.stack ++ (padTo Ff.ns (zs.take Ff.np)).take (i + 1) = (x.stack ++ (padTo Ff.ns (zs.take Ff.np)).take i) ++ [if i < Ff.np then zs.getD i vNil else vNil] := by
          rw [List.take_add_one, pad_get hilt, Option.toList_some, List.append_assoc]
        rw [e1]
        first
          | (rw [if_pos hinp]; exact hv2)
          | (rw [if_neg (by omega)]; exact hv2)
    · try simp only [decide_eq_true_eq, decide_eq_false_iff_not, Bool.not_eq_true', Bool.not_eq_false', Bool.not_eq_eq_eq_not, Bool.not_true, Bool.not_false, beq_iff_eq, bne_iff_ne, ne_eq, beq_eq_false_iff_ne, bne_eq_false_iff_eq, gt_iff_lt, ge_iff_le, Int.not_lt, Int.not_le] at hc57
      rw [if_neg (by omega)] at hpg
      refine c_reg ?_ -- region 9 call.go:22
      refine wl (ro_move rfl) ?_
      refine wl (ro_build rfl bld_119) ?_
      refine wl_puV (vs := [vNil]) (eo_bsV1 (i := vNil) rfl se_83 zx_119) rfl hv9 hxi rfl (by simp only [List.length_singleton]; omega) ?_
      intro u2 v3 ow2 x2 f2 hv2 hW
      skip
      refine wl_nil (x_blk (x_then (hK9 _ _ ?_)))
      clear hK9 K9
      refine c_reg ?_ -- region 6 call.go:18
      refine wl (ro_move rfl) ?_
      refine wl (ro_arith rfl rfl rfl (Go.IntWalk.i64_in _ (by omega))) ?_
      refine wl (ro_assign rfl) ?_
      refine wl_nil (x_then ?_)
      obtain ⟨hw3, ho3⟩ := hW ab' ao' _ hw9 q3 (fun q ↦ by
          rw [up1_self, up1_self] at q
          have := q4 (ho9 q)
          rw [rws_len pvc_len, List.length_append]
          omega)
      rw [up1_self, up1_self] at ho3
      refine ⟨Ff.ns - (i + 1), by omega, i + 1, ow2, v3, rfl, by omega, hx9.trans hsz9 x2, hF9.transG f2 (fun b hb z ↦ ?_), ?_, hw3, fun q ↦ ho9 (ho3 q), kp _ ⟨rfl, rfl, rfl, rfl, rfl, rfl, rfl, rfl, trivial⟩⟩
      · show vtT (ow b)
        rw [← hx9 b hb]
        rcases z with z | z
        · rw [z]; exact vt_tb hv9.tt.1
        · rw [z]; left; unfold vmT; omega
      · rw [vset_set, up1_up1, up1_self, up1_up1] at hv2
        have e1 : x.stack ++ (padTo Ff.ns (zs.take Ff.np)).take (i + 1) = (x.stack ++ (padTo Ff.ns (zs.take Ff.np)).take i) ++ [if i < Ff.np then zs.getD i vNil else vNil] := by
          rw [List.take_add_one, pad_get hilt, Option.toList_some, List.append_assoc]
        rw [e1]
        first
          | (rw [if_pos hinp]; exact hv2)
          | (rw [if_neg (by omega)]; exact hv2)
  · try simp only [decide_eq_true_eq, decide_eq_false_iff_not, Bool.not_eq_true', Bool.not_eq_false', Bool.not_eq_eq_eq_not, Bool.not_true, Bool.not_false, beq_iff_eq, bne_iff_ne, ne_eq, beq_eq_false_iff_ne, bne_eq_false_iff_eq, gt_iff_lt, ge_iff_le, Int.not_lt, Int.not_le] at hc49
    refine c_exit (x_thenX (x_thenX (x_blkX (x_then (hK5 _ _ ?_)))))
    clear hK7 K7 hK5 K5
    obtain rfl : i = Ff.ns := by omega
    obtain ⟨L9, op9, vl9⟩ := hv9.ex
    have hT := op9.trow vl9 hxi
    have hO9 := op9.fk vl9 hxi ht
    obtain ⟨gf, cf, ef⟩ := hO9.form
    unfold thr5 at hT
    rw [ef] at hT
    have htt9 := hv9.tt.1
    have hoT : ¬ own1 (up1 U t (up1 (U t) 2 v2) t 3) C.E.tb := fun y ↦ by have := hO9.t _ y; rw [htt9] at this; omega
    refine c_reg ?_ -- region 10 call.go:25
    refine wl (ro_move rfl) ?_
    refine wl (ro_move rfl) ?_
    refine wl (ro_nilCheck rfl) ?_
    refine wl (ro_fieldAddr (k := 3) rfl fo_269_3) ?_
    refine wl (ro_loadB rfl sc_267 (hT) (vt_get rfl ht (by decide))) ?_
    refine wl (ro_move rfl) ?_
    refine wl (ro_move rfl) ?_
    refine wl (ro_move rfl) ?_
    refine wl (ro_move rfl) ?_
    refine wl (ro_build rfl bld_331_0_2_3_4) ?_
    refine wl_bsapp (t := 267) (et := 331) (k := 5) (m := x.frs.length) (cs := frc ⟨c, 0, x.stack.length, ret, prot⟩) rfl rfl (by rw [← ef]; rfl) rfl se_267 zx_331 by_331 rfl rfl rfl (frc_one _) hO9.o (by omega) (by omega) ?_
    intro v3 u3 hon3 G3 hnb3
    obtain ⟨wa, wc, rfl⟩ := hon3.form
    replace hT := G3.blkF hT hoT
    skip
    refine wl (ro_nilCheck rfl) ?_
    refine wl (ro_fieldAddr (k := 3) rfl fo_269_3) ?_
    refine wl_put rfl rfl rfl sz_267 hT (vt_len rfl ht (by decide)) (rfl) (fun w1 hT F1 => ?_)
    have hF10 := (F1)
    replace hT := vt_put rfl ht (by decide) hT
    refine wl_nil ?_
    refine bp_end Tryz.results150 rfl ?_
    refine ⟨rfl, ?_⟩
    have hon4 : Own u3.heap (.slice wa (x.frs.length + 1) wc) 331 5 ((⟨c, 0, x.stack.length, ret, prot⟩ : VFr) :: x.frs).length (rws frc ((⟨c, 0, x.stack.length, ret, prot⟩ : VFr) :: x.frs).reverse) := by rw [List.reverse_cons, rws_app, rws_one]; exact hon3
    obtain ⟨ow3, x3, f3, hv3⟩ := hv9.grT op9 ht (i := 3) (by unfold thI; omega) hon4 G3 hnb3 hF10 (rowT vl9 hxi (.inr (.inl rfl)) hT) (vl9.frs hxi (⟨c, 0, x.stack.length, ret, prot⟩ :: x.frs)) rfl
    rw [vset_set] at hv3
    have e1 : (padTo Ff.ns (zs.take Ff.np)).take Ff.ns = padTo Ff.ns (zs.take Ff.np) := List.take_of_length_le (by rw [pad_len]; exact Nat.le_refl _)
    rw [e1] at hv3
    refine ⟨ow3, _, hx9.trans hsz9 x3, hF9.transG f3 (fun b hb z ↦ ?_), hv3⟩
    show vtT (ow b)
    rw [← hx9 b hb]
    rcases z with z | z
    · rw [z]; exact vt_tb htt9
    · rw [z]; left; unfold vmT; omega
end
end Go.Proofs.Qxb6500568aGreatDoor
