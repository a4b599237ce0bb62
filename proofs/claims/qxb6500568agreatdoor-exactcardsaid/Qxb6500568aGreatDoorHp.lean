import Derived.Test.Qxb6500568aGreatDoorHo
/- The machine: the checks ahead of an instruction. -/
namespace Go.Proofs.Qxb6500568aGreatDoor
open Ieee
set_option linter.unusedVariables false
set_option linter.unusedSimpArgs false
set_option linter.unusedSectionVars false

section
variable {C : VC} {w : World} {ow : Nat → Nat} {a : AS} {y : ATh} {gs : List AFr} {g : AFr} {vars : List PV} {fg fc p z : Nat} {ids : List Nat}
theorem AO.clos {u : World} {V : VS} {κ : List Nat} {Vv : Nat → Value} {U : Nat → Nat → Value} {x : VTh} {f : VFr} {fs : List VFr} (o : AO C fg fc u ow a y gs g vars V κ Vv U x f fs) (hk : a.clos[g.clo]? = some (p, ids)) : ∃ cs, V.clos[f.clo]? = some (p, cs) ∧ cs.length = ids.length := by
  have hl : g.clo < V.clos.length := by rw [o.z.r.clen]; exact (List.getElem?_eq_some_iff.1 hk).1
  have hcl : V.clos[g.clo]? = some (V.clos[g.clo].1, V.clos[g.clo].2) := List.getElem?_eq_getElem hl
  obtain ⟨q1, q2⟩ := o.z.r.clo _ _ _ hcl
  generalize V.clos[g.clo] = z0 at *
  obtain ⟨p0, cs⟩ := z0
  have q1 : a.clos[g.clo]? = _ := q1
  rw [hk] at q1
  injection q1 with q1
  injection q1 with e1 e2
  subst e1
  exact ⟨cs, by rw [o.t.clo]; exact hcl, by rw [e2]; simp⟩
set_option maxHeartbeats 8000000 in
theorem snd_1 (E : PE C fg fc w ow a y gs g vars p ids 1 z) : Ret Tryz.prog 241 [ptr C.E.mb, tptr C a.cur, fpt fg gs.length, prt C p, u8n 1, i64c z] w (fun r w' => r = .bool true ∧ Fram none' w w') := by
  have hc := E.hc
  have hk := E.hk
  obtain ⟨V, κ, Vv, U, x, f, fs, o⟩ := E.r.open hc
  have hF : Fram none' w w := Fram.refl _ _
  have hol := E.ol
  have hnd := E.nd
  have hzz := E.hz
  obtain ⟨lT, hT, -, -, -, hT2, -⟩ := o.v.thA o.t.hx
  have hT2 := hT2 2 (.inl rfl)
  obtain ⟨lB, hB1, k1, q1, -, -⟩ := o.frow
  obtain ⟨lP, pa, pb, pc, hP, tP, rp, hups, -, -⟩ := o.v.pro E.hp
  rw [Nat.zero_add] at rp
  obtain ⟨p0, ids0, n1, n2, n3⟩ := o.ns
  obtain ⟨rfl, rfl⟩ : p = p0 ∧ ids = ids0 := by have := hk.symm.trans n1; simpa using this
  have hln := o.t.ln
  have hsl := o.sl
  obtain ⟨cs, hcs, hcl⟩ := o.clos hk
  obtain ⟨cg, cc, lC, up, e6, hC, tC, rC⟩ := o.v.clo hcs
  obtain ⟨lM, hM, m0, m1, m2, m3, m4, m5, m6, -⟩ := o.v.mbA
  rw [e6] at m6
  have hclt := (List.getElem?_eq_some_iff.1 hcs).1
  have hx :  z < (fsAt C.F p).ks.length := by have := E.sn.r.2.2.1 rfl; rw [E.pr] at this; exact this
  refine ret_of Tryz.func241 rfl Tryz.ntmps241 rfl ?_
  refine c_seq (fun K1 hK1 => ?_)
  refine c_reg ?_ -- region 0 exec.go:160
  refine wl (ro_assign rfl) ?_
  refine wl_nil (x_then (hK1 _ _ ?_))
  clear hK1 K1
  refine forget [(0, _), (1, _), (2, _), (3, _), (4, _), (5, _)] ⟨rfl, rfl, rfl, rfl, rfl, rfl, trivial⟩ (fun e => ?_)
  refine c_seq (fun K2 hK2 => ?_)
  refine c_pi [(0, false), (1, false), (2, false), (3, false), (4, false), (5, false), (6, false), (7, false), (8, false), (9, false), (10, false), (11, false)] (SameH _) mixed (by kernel_rfl) rfl (by kernel_rfl) (po_then (po_bp)) (sameH_now _ _) ?_ -- region 1 exec.go:161
  refine pi_ro rfl (fun w hS => ro_move rfl) ?_
  refine pi_ro rfl (fun w hS => ro_nilCheck rfl) ?_
  refine pi_ro rfl (fun w hS => ro_fieldAddr (k := 6) rfl fo_89_6) ?_
  refine pi_ro rfl (fun w hS => ro_loadB rfl sc_85 (Blk.of_heap hM hS) (m6)) ?_
  refine pi_ro rfl (fun w hS => ro_move rfl) ?_
  refine pi_ro rfl (fun w hS => ro_nilCheck rfl) ?_
  refine pi_ro rfl (fun w hS => ro_fieldAddr (k := 0) rfl fo_331_0) ?_
  refine pi_ro rfl (fun w hS => ro_loadB rfl sc_3 (Blk.of_heap hB1 hS) (frow_at q1 (by decide))) ?_
  refine pi_ro rfl (fun w hS => ro_indexAddr (et := 209) (k := 3) rfl rfl se_85 (rfl) ((by omega))) ?_
  refine pi_ro rfl (fun w hS => ro_fieldAddr (k := 2) rfl fo_209_2) ?_
  refine pi_ro rfl (fun w hS => ro_loadB rfl sc_3 (Blk.of_heap hC hS) (row_get rC (by decide))) ?_
  refine pi_ro rfl (fun w hS => ro_assign rfl) ?_
  refine pi_nil (x_then (hK2 _ _ ?_))
  clear hK2 K2
  refine c_seq (fun K3 hK3 => ?_)
  refine c_seq (fun K4 hK4 => ?_)
  refine c_reg ?_ -- region 2 exec.go:162
  refine wl (ro_move rfl) ?_
  refine wl_nil (x_then (hK4 _ _ ?_))
  clear hK4 K4
  refine c_block ?_
  refine forget [(0, _), (1, _), (2, _), (3, _), (4, _), (5, _), (13, _), (29, _)] ⟨rfl, rfl, rfl, rfl, rfl, rfl, rfl, rfl, trivial⟩ (fun e => ?_)
  refine c_seq (fun K5 hK5 => ?_)
  refine c_reg ?_ -- region 3 exec.go:163
  refine wl (ro_cmp rfl rfl rfl) ?_
  refine wl (ro_assign rfl) ?_
  refine wl_nil (x_then (hK5 _ _ ?_))
  clear hK5 K5
  refine wc_condT rfl ?_
  refine c_seq (fun K6 hK6 => ?_)
  refine c_reg ?_ -- region 4 exec.go:164
  refine wl (ro_move rfl) ?_
  refine wl (ro_move rfl) ?_
  refine wl (ro_nilCheck rfl) ?_
  refine wl (ro_fieldAddr (k := 5) rfl fo_258_5) ?_
  refine wl (ro_loadB rfl sc_3 (hP) (row_get rp (by decide))) ?_
  refine wl (ro_cmp (r := true) rfl rfl (congrArg some (decide_eq_true (by omega)))) ?_
  refine wl (ro_assign rfl) ?_
  refine wl_nil (x_then (hK6 _ _ ?_))
  clear hK6 K6
  refine c_ret (x_blkR (x_thenR ?_))
  refine bp_ret Tryz.results241 rfl ?_
  exact ⟨rfl, hF.thenDrew⟩
set_option maxHeartbeats 8000000 in
theorem snd_2 (E : PE C fg fc w ow a y gs g vars p ids 2 z) : Ret Tryz.prog 241 [ptr C.E.mb, tptr C a.cur, fpt fg gs.length, prt C p, u8n 2, i64c z] w (fun r w' => r = .bool true ∧ Fram none' w w') := by
  have hc := E.hc
  have hk := E.hk
  obtain ⟨V, κ, Vv, U, x, f, fs, o⟩ := E.r.open hc
  have hF : Fram none' w w := Fram.refl _ _
  have hol := E.ol
  have hnd := E.nd
  have hzz := E.hz
  obtain ⟨lT, hT, -, -, -, hT2, -⟩ := o.v.thA o.t.hx
  have hT2 := hT2 2 (.inl rfl)
  obtain ⟨lB, hB1, k1, q1, -, -⟩ := o.frow
  obtain ⟨lP, pa, pb, pc, hP, tP, rp, hups, -, -⟩ := o.v.pro E.hp
  rw [Nat.zero_add] at rp
  obtain ⟨p0, ids0, n1, n2, n3⟩ := o.ns
  obtain ⟨rfl, rfl⟩ : p = p0 ∧ ids = ids0 := by have := hk.symm.trans n1; simpa using this
  have hln := o.t.ln
  have hsl := o.sl
  obtain ⟨cs, hcs, hcl⟩ := o.clos hk
  obtain ⟨cg, cc, lC, up, e6, hC, tC, rC⟩ := o.v.clo hcs
  obtain ⟨lM, hM, m0, m1, m2, m3, m4, m5, m6, -⟩ := o.v.mbA
  rw [e6] at m6
  have hclt := (List.getElem?_eq_some_iff.1 hcs).1
  refine ret_of Tryz.func241 rfl Tryz.ntmps241 rfl ?_
  refine c_seq (fun K1 hK1 => ?_)
  refine c_reg ?_ -- region 0 exec.go:160
  refine wl (ro_assign rfl) ?_
  refine wl_nil (x_then (hK1 _ _ ?_))
  clear hK1 K1
  refine forget [(0, _), (1, _), (2, _), (3, _), (4, _), (5, _)] ⟨rfl, rfl, rfl, rfl, rfl, rfl, trivial⟩ (fun e => ?_)
  refine c_seq (fun K2 hK2 => ?_)
  refine c_pi [(0, false), (1, false), (2, false), (3, false), (4, false), (5, false), (6, false), (7, false), (8, false), (9, false), (10, false), (11, false)] (SameH _) mixed (by kernel_rfl) rfl (by kernel_rfl) (po_then (po_bp)) (sameH_now _ _) ?_ -- region 1 exec.go:161
  refine pi_ro rfl (fun w hS => ro_move rfl) ?_
  refine pi_ro rfl (fun w hS => ro_nilCheck rfl) ?_
  refine pi_ro rfl (fun w hS => ro_fieldAddr (k := 6) rfl fo_89_6) ?_
  refine pi_ro rfl (fun w hS => ro_loadB rfl sc_85 (Blk.of_heap hM hS) (m6)) ?_
  refine pi_ro rfl (fun w hS => ro_move rfl) ?_
  refine pi_ro rfl (fun w hS => ro_nilCheck rfl) ?_
  refine pi_ro rfl (fun w hS => ro_fieldAddr (k := 0) rfl fo_331_0) ?_
  refine pi_ro rfl (fun w hS => ro_loadB rfl sc_3 (Blk.of_heap hB1 hS) (frow_at q1 (by decide))) ?_
  refine pi_ro rfl (fun w hS => ro_indexAddr (et := 209) (k := 3) rfl rfl se_85 (rfl) ((by omega))) ?_
  refine pi_ro rfl (fun w hS => ro_fieldAddr (k := 2) rfl fo_209_2) ?_
  refine pi_ro rfl (fun w hS => ro_loadB rfl sc_3 (Blk.of_heap hC hS) (row_get rC (by decide))) ?_
  refine pi_ro rfl (fun w hS => ro_assign rfl) ?_
  refine pi_nil (x_then (hK2 _ _ ?_))
  clear hK2 K2
  refine c_seq (fun K3 hK3 => ?_)
  refine c_seq (fun K4 hK4 => ?_)
  refine c_reg ?_ -- region 2 exec.go:162
  refine wl (ro_move rfl) ?_
  refine wl_nil (x_then (hK4 _ _ ?_))
  clear hK4 K4
  refine c_block ?_
  refine forget [(0, _), (1, _), (2, _), (3, _), (4, _), (5, _), (13, _), (29, _)] ⟨rfl, rfl, rfl, rfl, rfl, rfl, rfl, rfl, trivial⟩ (fun e => ?_)
  refine c_seq (fun K5 hK5 => ?_)
  refine c_reg ?_ -- region 3 exec.go:163
  refine wl (ro_cmp rfl rfl rfl) ?_
  refine wl (ro_assign rfl) ?_
  refine wl_nil (x_then (hK5 _ _ ?_))
  clear hK5 K5
  refine wc_condF rfl ?_
  refine c_seq (fun K6 hK6 => ?_)
  refine c_seq (fun K7 hK7 => ?_)
  refine c_reg ?_ -- region 5 exec.go:165
  refine wl (ro_cmp rfl rfl rfl) ?_
  refine wl (ro_assign rfl) ?_
  refine wl_nil (x_then (hK7 _ _ ?_))
  clear hK7 K7
  refine wc_condF rfl ?_
  refine c_reg ?_ -- region 6 exec.go:165
  refine wl (ro_cmp rfl rfl rfl) ?_
  refine wl (ro_assign rfl) ?_
  refine wl_nil (x_then (hK6 _ _ ?_))
  clear hK6 K6
  refine wc_condF rfl ?_
  refine c_seq (fun K8 hK8 => ?_)
  refine c_seq (fun K9 hK9 => ?_)
  refine c_reg ?_ -- region 8 exec.go:167
  refine wl (ro_cmp rfl rfl rfl) ?_
  refine wl (ro_assign rfl) ?_
  refine wl_nil (x_then (hK9 _ _ ?_))
  clear hK9 K9
  refine wc_condF rfl ?_
  refine c_reg ?_ -- region 9 exec.go:167
  refine wl (ro_cmp rfl rfl rfl) ?_
  refine wl (ro_assign rfl) ?_
  refine wl_nil (x_then (hK8 _ _ ?_))
  clear hK8 K8
  refine wc_condF rfl ?_
  refine c_seq (fun K10 hK10 => ?_)
  refine c_seq (fun K11 hK11 => ?_)
  refine c_reg ?_ -- region 11 exec.go:169
  refine wl (ro_cmp rfl rfl rfl) ?_
  refine wl (ro_assign rfl) ?_
  refine wl_nil (x_then (hK11 _ _ ?_))
  clear hK11 K11
  refine wc_condF rfl ?_
  refine c_reg ?_ -- region 12 exec.go:169
  refine wl (ro_cmp rfl rfl rfl) ?_
  refine wl (ro_assign rfl) ?_
  refine wl_nil (x_then (hK10 _ _ ?_))
  clear hK10 K10
  refine wc_condF rfl ?_
  refine c_seq (fun K12 hK12 => ?_)
  refine c_reg ?_ -- region 14 exec.go:171
  refine wl (ro_cmp rfl rfl rfl) ?_
  refine wl (ro_assign rfl) ?_
  refine wl_nil (x_then (hK12 _ _ ?_))
  clear hK12 K12
  refine wc_condF rfl ?_
  refine c_seq (fun K13 hK13 => ?_)
  refine c_reg ?_ -- region 16 exec.go:173
  refine wl (ro_cmp rfl rfl rfl) ?_
  refine wl (ro_assign rfl) ?_
  refine wl_nil (x_then (hK13 _ _ ?_))
  clear hK13 K13
  refine wc_condF rfl ?_
  refine c_seq (fun K14 hK14 => ?_)
  refine c_seq (fun K15 hK15 => ?_)
  refine c_reg ?_ -- region 18 exec.go:175
  refine wl (ro_cmp rfl rfl rfl) ?_
  refine wl (ro_assign rfl) ?_
  refine wl_nil (x_then (hK15 _ _ ?_))
  clear hK15 K15
  refine wc_condF rfl ?_
  refine c_seq (fun K16 hK16 => ?_)
  refine c_reg ?_ -- region 19 exec.go:175
  refine wl (ro_cmp rfl rfl rfl) ?_
  refine wl (ro_assign rfl) ?_
  refine wl_nil (x_then (hK16 _ _ ?_))
  clear hK16 K16
  refine wc_condF rfl ?_
  refine c_seq (fun K17 hK17 => ?_)
  refine c_reg ?_ -- region 20 exec.go:175
  refine wl (ro_cmp rfl rfl rfl) ?_
  refine wl (ro_assign rfl) ?_
  refine wl_nil (x_then (hK17 _ _ ?_))
  clear hK17 K17
  refine wc_condF rfl ?_
  refine c_reg ?_ -- region 21 exec.go:175
  refine wl (ro_cmp rfl rfl rfl) ?_
  refine wl (ro_assign rfl) ?_
  refine wl_nil (x_then (hK14 _ _ ?_))
  clear hK14 K14
  refine wc_condF rfl ?_
  refine c_seq (fun K18 hK18 => ?_)
  refine c_reg ?_ -- region 23 exec.go:177
  refine wl (ro_cmp rfl rfl rfl) ?_
  refine wl (ro_assign rfl) ?_
  refine wl_nil (x_then (hK18 _ _ ?_))
  clear hK18 K18
  refine wc_condF rfl ?_
  refine c_seq (fun K19 hK19 => ?_)
  refine c_reg ?_ -- region 25 exec.go:179
  refine wl (ro_cmp rfl rfl rfl) ?_
  refine wl (ro_assign rfl) ?_
  refine wl_nil (x_then (hK19 _ _ ?_))
  clear hK19 K19
  refine wc_condF rfl ?_
  refine c_seq (fun K20 hK20 => ?_)
  refine c_seq (fun K21 hK21 => ?_)
  refine c_reg ?_ -- region 27 exec.go:181
  refine wl (ro_cmp rfl rfl rfl) ?_
  refine wl (ro_assign rfl) ?_
  refine wl_nil (x_then (hK21 _ _ ?_))
  clear hK21 K21
  refine wc_condF rfl ?_
  refine c_reg ?_ -- region 28 exec.go:181
  refine wl (ro_cmp rfl rfl rfl) ?_
  refine wl (ro_assign rfl) ?_
  refine wl_nil (x_then (hK20 _ _ ?_))
  clear hK20 K20
  refine wc_condF rfl ?_
  refine c_seq (fun K22 hK22 => ?_)
  refine c_reg ?_ -- region 30 exec.go:183
  refine wl (ro_cmp rfl rfl rfl) ?_
  refine wl (ro_assign rfl) ?_
  refine wl_nil (x_then (hK22 _ _ ?_))
  clear hK22 K22
  refine wc_condF rfl ?_
  refine c_seq (fun K23 hK23 => ?_)
  refine c_reg ?_ -- region 35 exec.go:189
  refine wl (ro_cmp rfl rfl rfl) ?_
  refine wl (ro_assign rfl) ?_
  refine wl_nil (x_then (hK23 _ _ ?_))
  clear hK23 K23
  refine wc_condF rfl ?_
  refine c_skip (x_blk (x_then (hK3 _ _ ?_)))
  clear hK3 K3
  refine forget [(4, _)] ⟨rfl, trivial⟩ (fun e => ?_)
  refine c_seq (fun K24 hK24 => ?_)
  refine c_reg ?_ -- region 46 exec.go:201
  refine wl (ro_move rfl) ?_
  refine wl (ro_cmp (r := true) rfl rfl (congrArg some (decide_eq_true (by omega)))) ?_
  refine wl (ro_move rfl) ?_
  refine wlg_yes rfl (ro_move rfl) ?_
  refine wlg_yes rfl (ro_cmp (r := true) rfl rfl (congrArg some (decide_eq_true (by omega)))) ?_
  refine wl (ro_pick rfl rfl rfl) ?_
  refine wl (ro_assign rfl) ?_
  refine wl_nil (x_then (hK24 _ _ ?_))
  clear hK24 K24
  refine c_ret ?_
  refine bp_ret Tryz.results241 rfl ?_
  exact ⟨rfl, hF.thenDrew⟩
set_option maxHeartbeats 8000000 in
theorem snd_3 (E : PE C fg fc w ow a y gs g vars p ids 3 z) : Ret Tryz.prog 241 [ptr C.E.mb, tptr C a.cur, fpt fg gs.length, prt C p, u8n 3, i64c z] w (fun r w' => r = .bool true ∧ Fram none' w w') := by
  have hc := E.hc
  have hk := E.hk
  obtain ⟨V, κ, Vv, U, x, f, fs, o⟩ := E.r.open hc
  have hF : Fram none' w w := Fram.refl _ _
  have hol := E.ol
  have hnd := E.nd
  have hzz := E.hz
  obtain ⟨lT, hT, -, -, -, hT2, -⟩ := o.v.thA o.t.hx
  have hT2 := hT2 2 (.inl rfl)
  obtain ⟨lB, hB1, k1, q1, -, -⟩ := o.frow
  obtain ⟨lP, pa, pb, pc, hP, tP, rp, hups, -, -⟩ := o.v.pro E.hp
  rw [Nat.zero_add] at rp
  obtain ⟨p0, ids0, n1, n2, n3⟩ := o.ns
  obtain ⟨rfl, rfl⟩ : p = p0 ∧ ids = ids0 := by have := hk.symm.trans n1; simpa using this
  have hln := o.t.ln
  have hsl := o.sl
  obtain ⟨cs, hcs, hcl⟩ := o.clos hk
  obtain ⟨cg, cc, lC, up, e6, hC, tC, rC⟩ := o.v.clo hcs
  obtain ⟨lM, hM, m0, m1, m2, m3, m4, m5, m6, -⟩ := o.v.mbA
  rw [e6] at m6
  have hclt := (List.getElem?_eq_some_iff.1 hcs).1
  refine ret_of Tryz.func241 rfl Tryz.ntmps241 rfl ?_
  refine c_seq (fun K1 hK1 => ?_)
  refine c_reg ?_ -- region 0 exec.go:160
  refine wl (ro_assign rfl) ?_
  refine wl_nil (x_then (hK1 _ _ ?_))
  clear hK1 K1
  refine forget [(0, _), (1, _), (2, _), (3, _), (4, _), (5, _)] ⟨rfl, rfl, rfl, rfl, rfl, rfl, trivial⟩ (fun e => ?_)
  refine c_seq (fun K2 hK2 => ?_)
  refine c_pi [(0, false), (1, false), (2, false), (3, false), (4, false), (5, false), (6, false), (7, false), (8, false), (9, false), (10, false), (11, false)] (SameH _) mixed (by kernel_rfl) rfl (by kernel_rfl) (po_then (po_bp)) (sameH_now _ _) ?_ -- region 1 exec.go:161
  refine pi_ro rfl (fun w hS => ro_move rfl) ?_
  refine pi_ro rfl (fun w hS => ro_nilCheck rfl) ?_
  refine pi_ro rfl (fun w hS => ro_fieldAddr (k := 6) rfl fo_89_6) ?_
  refine pi_ro rfl (fun w hS => ro_loadB rfl sc_85 (Blk.of_heap hM hS) (m6)) ?_
  refine pi_ro rfl (fun w hS => ro_move rfl) ?_
  refine pi_ro rfl (fun w hS => ro_nilCheck rfl) ?_
  refine pi_ro rfl (fun w hS => ro_fieldAddr (k := 0) rfl fo_331_0) ?_
  refine pi_ro rfl (fun w hS => ro_loadB rfl sc_3 (Blk.of_heap hB1 hS) (frow_at q1 (by decide))) ?_
  refine pi_ro rfl (fun w hS => ro_indexAddr (et := 209) (k := 3) rfl rfl se_85 (rfl) ((by omega))) ?_
  refine pi_ro rfl (fun w hS => ro_fieldAddr (k := 2) rfl fo_209_2) ?_
  refine pi_ro rfl (fun w hS => ro_loadB rfl sc_3 (Blk.of_heap hC hS) (row_get rC (by decide))) ?_
  refine pi_ro rfl (fun w hS => ro_assign rfl) ?_
  refine pi_nil (x_then (hK2 _ _ ?_))
  clear hK2 K2
  refine c_seq (fun K3 hK3 => ?_)
  refine c_seq (fun K4 hK4 => ?_)
  refine c_reg ?_ -- region 2 exec.go:162
  refine wl (ro_move rfl) ?_
  refine wl_nil (x_then (hK4 _ _ ?_))
  clear hK4 K4
  refine c_block ?_
  refine forget [(0, _), (1, _), (2, _), (3, _), (4, _), (5, _), (13, _), (29, _)] ⟨rfl, rfl, rfl, rfl, rfl, rfl, rfl, rfl, trivial⟩ (fun e => ?_)
  refine c_seq (fun K5 hK5 => ?_)
  refine c_reg ?_ -- region 3 exec.go:163
  refine wl (ro_cmp rfl rfl rfl) ?_
  refine wl (ro_assign rfl) ?_
  refine wl_nil (x_then (hK5 _ _ ?_))
  clear hK5 K5
  refine wc_condF rfl ?_
  refine c_seq (fun K6 hK6 => ?_)
  refine c_seq (fun K7 hK7 => ?_)
  refine c_reg ?_ -- region 5 exec.go:165
  refine wl (ro_cmp rfl rfl rfl) ?_
  refine wl (ro_assign rfl) ?_
  refine wl_nil (x_then (hK7 _ _ ?_))
  clear hK7 K7
  refine wc_condF rfl ?_
  refine c_reg ?_ -- region 6 exec.go:165
  refine wl (ro_cmp rfl rfl rfl) ?_
  refine wl (ro_assign rfl) ?_
  refine wl_nil (x_then (hK6 _ _ ?_))
  clear hK6 K6
  refine wc_condF rfl ?_
  refine c_seq (fun K8 hK8 => ?_)
  refine c_seq (fun K9 hK9 => ?_)
  refine c_reg ?_ -- region 8 exec.go:167
  refine wl (ro_cmp rfl rfl rfl) ?_
  refine wl (ro_assign rfl) ?_
  refine wl_nil (x_then (hK9 _ _ ?_))
  clear hK9 K9
  refine wc_condF rfl ?_
  refine c_reg ?_ -- region 9 exec.go:167
  refine wl (ro_cmp rfl rfl rfl) ?_
  refine wl (ro_assign rfl) ?_
  refine wl_nil (x_then (hK8 _ _ ?_))
  clear hK8 K8
  refine wc_condF rfl ?_
  refine c_seq (fun K10 hK10 => ?_)
  refine c_seq (fun K11 hK11 => ?_)
  refine c_reg ?_ -- region 11 exec.go:169
  refine wl (ro_cmp rfl rfl rfl) ?_
  refine wl (ro_assign rfl) ?_
  refine wl_nil (x_then (hK11 _ _ ?_))
  clear hK11 K11
  refine wc_condF rfl ?_
  refine c_reg ?_ -- region 12 exec.go:169
  refine wl (ro_cmp rfl rfl rfl) ?_
  refine wl (ro_assign rfl) ?_
  refine wl_nil (x_then (hK10 _ _ ?_))
  clear hK10 K10
  refine wc_condF rfl ?_
  refine c_seq (fun K12 hK12 => ?_)
  refine c_reg ?_ -- region 14 exec.go:171
  refine wl (ro_cmp rfl rfl rfl) ?_
  refine wl (ro_assign rfl) ?_
  refine wl_nil (x_then (hK12 _ _ ?_))
  clear hK12 K12
  refine wc_condF rfl ?_
  refine c_seq (fun K13 hK13 => ?_)
  refine c_reg ?_ -- region 16 exec.go:173
  refine wl (ro_cmp rfl rfl rfl) ?_
  refine wl (ro_assign rfl) ?_
  refine wl_nil (x_then (hK13 _ _ ?_))
  clear hK13 K13
  refine wc_condF rfl ?_
  refine c_seq (fun K14 hK14 => ?_)
  refine c_seq (fun K15 hK15 => ?_)
  refine c_reg ?_ -- region 18 exec.go:175
  refine wl (ro_cmp rfl rfl rfl) ?_
  refine wl (ro_assign rfl) ?_
  refine wl_nil (x_then (hK15 _ _ ?_))
  clear hK15 K15
  refine wc_condF rfl ?_
  refine c_seq (fun K16 hK16 => ?_)
  refine c_reg ?_ -- region 19 exec.go:175
  refine wl (ro_cmp rfl rfl rfl) ?_
  refine wl (ro_assign rfl) ?_
  refine wl_nil (x_then (hK16 _ _ ?_))
  clear hK16 K16
  refine wc_condF rfl ?_
  refine c_seq (fun K17 hK17 => ?_)
  refine c_reg ?_ -- region 20 exec.go:175
  refine wl (ro_cmp rfl rfl rfl) ?_
  refine wl (ro_assign rfl) ?_
  refine wl_nil (x_then (hK17 _ _ ?_))
  clear hK17 K17
  refine wc_condF rfl ?_
  refine c_reg ?_ -- region 21 exec.go:175
  refine wl (ro_cmp rfl rfl rfl) ?_
  refine wl (ro_assign rfl) ?_
  refine wl_nil (x_then (hK14 _ _ ?_))
  clear hK14 K14
  refine wc_condF rfl ?_
  refine c_seq (fun K18 hK18 => ?_)
  refine c_reg ?_ -- region 23 exec.go:177
  refine wl (ro_cmp rfl rfl rfl) ?_
  refine wl (ro_assign rfl) ?_
  refine wl_nil (x_then (hK18 _ _ ?_))
  clear hK18 K18
  refine wc_condF rfl ?_
  refine c_seq (fun K19 hK19 => ?_)
  refine c_reg ?_ -- region 25 exec.go:179
  refine wl (ro_cmp rfl rfl rfl) ?_
  refine wl (ro_assign rfl) ?_
  refine wl_nil (x_then (hK19 _ _ ?_))
  clear hK19 K19
  refine wc_condF rfl ?_
  refine c_seq (fun K20 hK20 => ?_)
  refine c_seq (fun K21 hK21 => ?_)
  refine c_reg ?_ -- region 27 exec.go:181
  refine wl (ro_cmp rfl rfl rfl) ?_
  refine wl (ro_assign rfl) ?_
  refine wl_nil (x_then (hK21 _ _ ?_))
  clear hK21 K21
  refine wc_condF rfl ?_
  refine c_reg ?_ -- region 28 exec.go:181
  refine wl (ro_cmp rfl rfl rfl) ?_
  refine wl (ro_assign rfl) ?_
  refine wl_nil (x_then (hK20 _ _ ?_))
  clear hK20 K20
  refine wc_condF rfl ?_
  refine c_seq (fun K22 hK22 => ?_)
  refine c_reg ?_ -- region 30 exec.go:183
  refine wl (ro_cmp rfl rfl rfl) ?_
  refine wl (ro_assign rfl) ?_
  refine wl_nil (x_then (hK22 _ _ ?_))
  clear hK22 K22
  refine wc_condF rfl ?_
  refine c_seq (fun K23 hK23 => ?_)
  refine c_reg ?_ -- region 35 exec.go:189
  refine wl (ro_cmp rfl rfl rfl) ?_
  refine wl (ro_assign rfl) ?_
  refine wl_nil (x_then (hK23 _ _ ?_))
  clear hK23 K23
  refine wc_condF rfl ?_
  refine c_skip (x_blk (x_then (hK3 _ _ ?_)))
  clear hK3 K3
  refine forget [(4, _)] ⟨rfl, trivial⟩ (fun e => ?_)
  refine c_seq (fun K24 hK24 => ?_)
  refine c_reg ?_ -- region 46 exec.go:201
  refine wl (ro_move rfl) ?_
  refine wl (ro_cmp (r := true) rfl rfl (congrArg some (decide_eq_true (by omega)))) ?_
  refine wl (ro_move rfl) ?_
  refine wlg_yes rfl (ro_move rfl) ?_
  refine wlg_yes rfl (ro_cmp (r := true) rfl rfl (congrArg some (decide_eq_true (by omega)))) ?_
  refine wl (ro_pick rfl rfl rfl) ?_
  refine wl (ro_assign rfl) ?_
  refine wl_nil (x_then (hK24 _ _ ?_))
  clear hK24 K24
  refine c_ret ?_
  refine bp_ret Tryz.results241 rfl ?_
  exact ⟨rfl, hF.thenDrew⟩
set_option maxHeartbeats 8000000 in
theorem snd_4 (E : PE C fg fc w ow a y gs g vars p ids 4 z) : Ret Tryz.prog 241 [ptr C.E.mb, tptr C a.cur, fpt fg gs.length, prt C p, u8n 4, i64c z] w (fun r w' => r = .bool true ∧ Fram none' w w') := by
  have hc := E.hc
  have hk := E.hk
  obtain ⟨V, κ, Vv, U, x, f, fs, o⟩ := E.r.open hc
  have hF : Fram none' w w := Fram.refl _ _
  have hol := E.ol
  have hnd := E.nd
  have hzz := E.hz
  obtain ⟨lT, hT, -, -, -, hT2, -⟩ := o.v.thA o.t.hx
  have hT2 := hT2 2 (.inl rfl)
  obtain ⟨lB, hB1, k1, q1, -, -⟩ := o.frow
  obtain ⟨lP, pa, pb, pc, hP, tP, rp, hups, -, -⟩ := o.v.pro E.hp
  rw [Nat.zero_add] at rp
  obtain ⟨p0, ids0, n1, n2, n3⟩ := o.ns
  obtain ⟨rfl, rfl⟩ : p = p0 ∧ ids = ids0 := by have := hk.symm.trans n1; simpa using this
  have hln := o.t.ln
  have hsl := o.sl
  obtain ⟨cs, hcs, hcl⟩ := o.clos hk
  obtain ⟨cg, cc, lC, up, e6, hC, tC, rC⟩ := o.v.clo hcs
  obtain ⟨lM, hM, m0, m1, m2, m3, m4, m5, m6, -⟩ := o.v.mbA
  rw [e6] at m6
  have hclt := (List.getElem?_eq_some_iff.1 hcs).1
  refine ret_of Tryz.func241 rfl Tryz.ntmps241 rfl ?_
  refine c_seq (fun K1 hK1 => ?_)
  refine c_reg ?_ -- region 0 exec.go:160
  refine wl (ro_assign rfl) ?_
  refine wl_nil (x_then (hK1 _ _ ?_))
  clear hK1 K1
  refine forget [(0, _), (1, _), (2, _), (3, _), (4, _), (5, _)] ⟨rfl, rfl, rfl, rfl, rfl, rfl, trivial⟩ (fun e => ?_)
  refine c_seq (fun K2 hK2 => ?_)
  refine c_pi [(0, false), (1, false), (2, false), (3, false), (4, false), (5, false), (6, false), (7, false), (8, false), (9, false), (10, false), (11, false)] (SameH _) mixed (by kernel_rfl) rfl (by kernel_rfl) (po_then (po_bp)) (sameH_now _ _) ?_ -- region 1 exec.go:161
  refine pi_ro rfl (fun w hS => ro_move rfl) ?_
  refine pi_ro rfl (fun w hS => ro_nilCheck rfl) ?_
  refine pi_ro rfl (fun w hS => ro_fieldAddr (k := 6) rfl fo_89_6) ?_
  refine pi_ro rfl (fun w hS => ro_loadB rfl sc_85 (Blk.of_heap hM hS) (m6)) ?_
  refine pi_ro rfl (fun w hS => ro_move rfl) ?_
  refine pi_ro rfl (fun w hS => ro_nilCheck rfl) ?_
  refine pi_ro rfl (fun w hS => ro_fieldAddr (k := 0) rfl fo_331_0) ?_
  refine pi_ro rfl (fun w hS => ro_loadB rfl sc_3 (Blk.of_heap hB1 hS) (frow_at q1 (by decide))) ?_
  refine pi_ro rfl (fun w hS => ro_indexAddr (et := 209) (k := 3) rfl rfl se_85 (rfl) ((by omega))) ?_
  refine pi_ro rfl (fun w hS => ro_fieldAddr (k := 2) rfl fo_209_2) ?_
  refine pi_ro rfl (fun w hS => ro_loadB rfl sc_3 (Blk.of_heap hC hS) (row_get rC (by decide))) ?_
  refine pi_ro rfl (fun w hS => ro_assign rfl) ?_
  refine pi_nil (x_then (hK2 _ _ ?_))
  clear hK2 K2
  refine c_seq (fun K3 hK3 => ?_)
  refine c_seq (fun K4 hK4 => ?_)
  refine c_reg ?_ -- region 2 exec.go:162
  refine wl (ro_move rfl) ?_
  refine wl_nil (x_then (hK4 _ _ ?_))
  clear hK4 K4
  refine c_block ?_
  refine forget [(0, _), (1, _), (2, _), (3, _), (4, _), (5, _), (13, _), (29, _)] ⟨rfl, rfl, rfl, rfl, rfl, rfl, rfl, rfl, trivial⟩ (fun e => ?_)
  refine c_seq (fun K5 hK5 => ?_)
  refine c_reg ?_ -- region 3 exec.go:163
  refine wl (ro_cmp rfl rfl rfl) ?_
  refine wl (ro_assign rfl) ?_
  refine wl_nil (x_then (hK5 _ _ ?_))
  clear hK5 K5
  refine wc_condF rfl ?_
  refine c_seq (fun K6 hK6 => ?_)
  refine c_seq (fun K7 hK7 => ?_)
  refine c_reg ?_ -- region 5 exec.go:165
  refine wl (ro_cmp rfl rfl rfl) ?_
  refine wl (ro_assign rfl) ?_
  refine wl_nil (x_then (hK7 _ _ ?_))
  clear hK7 K7
  refine wc_condF rfl ?_
  refine c_reg ?_ -- region 6 exec.go:165
  refine wl (ro_cmp rfl rfl rfl) ?_
  refine wl (ro_assign rfl) ?_
  refine wl_nil (x_then (hK6 _ _ ?_))
  clear hK6 K6
  refine wc_condF rfl ?_
  refine c_seq (fun K8 hK8 => ?_)
  refine c_seq (fun K9 hK9 => ?_)
  refine c_reg ?_ -- region 8 exec.go:167
  refine wl (ro_cmp rfl rfl rfl) ?_
  refine wl (ro_assign rfl) ?_
  refine wl_nil (x_then (hK9 _ _ ?_))
  clear hK9 K9
  refine wc_condF rfl ?_
  refine c_reg ?_ -- region 9 exec.go:167
  refine wl (ro_cmp rfl rfl rfl) ?_
  refine wl (ro_assign rfl) ?_
  refine wl_nil (x_then (hK8 _ _ ?_))
  clear hK8 K8
  refine wc_condF rfl ?_
  refine c_seq (fun K10 hK10 => ?_)
  refine c_seq (fun K11 hK11 => ?_)
  refine c_reg ?_ -- region 11 exec.go:169
  refine wl (ro_cmp rfl rfl rfl) ?_
  refine wl (ro_assign rfl) ?_
  refine wl_nil (x_then (hK11 _ _ ?_))
  clear hK11 K11
  refine wc_condF rfl ?_
  refine c_reg ?_ -- region 12 exec.go:169
  refine wl (ro_cmp rfl rfl rfl) ?_
  refine wl (ro_assign rfl) ?_
  refine wl_nil (x_then (hK10 _ _ ?_))
  clear hK10 K10
  refine wc_condF rfl ?_
  refine c_seq (fun K12 hK12 => ?_)
  refine c_reg ?_ -- region 14 exec.go:171
  refine wl (ro_cmp rfl rfl rfl) ?_
  refine wl (ro_assign rfl) ?_
  refine wl_nil (x_then (hK12 _ _ ?_))
  clear hK12 K12
  refine wc_condF rfl ?_
  refine c_seq (fun K13 hK13 => ?_)
  refine c_reg ?_ -- region 16 exec.go:173
  refine wl (ro_cmp rfl rfl rfl) ?_
  refine wl (ro_assign rfl) ?_
  refine wl_nil (x_then (hK13 _ _ ?_))
  clear hK13 K13
  refine wc_condF rfl ?_
  refine c_seq (fun K14 hK14 => ?_)
  refine c_seq (fun K15 hK15 => ?_)
  refine c_reg ?_ -- region 18 exec.go:175
  refine wl (ro_cmp rfl rfl rfl) ?_
  refine wl (ro_assign rfl) ?_
  refine wl_nil (x_then (hK15 _ _ ?_))
  clear hK15 K15
  refine wc_condF rfl ?_
  refine c_seq (fun K16 hK16 => ?_)
  refine c_reg ?_ -- region 19 exec.go:175
  refine wl (ro_cmp rfl rfl rfl) ?_
  refine wl (ro_assign rfl) ?_
  refine wl_nil (x_then (hK16 _ _ ?_))
  clear hK16 K16
  refine wc_condF rfl ?_
  refine c_seq (fun K17 hK17 => ?_)
  refine c_reg ?_ -- region 20 exec.go:175
  refine wl (ro_cmp rfl rfl rfl) ?_
  refine wl (ro_assign rfl) ?_
  refine wl_nil (x_then (hK17 _ _ ?_))
  clear hK17 K17
  refine wc_condF rfl ?_
  refine c_reg ?_ -- region 21 exec.go:175
  refine wl (ro_cmp rfl rfl rfl) ?_
  refine wl (ro_assign rfl) ?_
  refine wl_nil (x_then (hK14 _ _ ?_))
  clear hK14 K14
  refine wc_condF rfl ?_
  refine c_seq (fun K18 hK18 => ?_)
  refine c_reg ?_ -- region 23 exec.go:177
  refine wl (ro_cmp rfl rfl rfl) ?_
  refine wl (ro_assign rfl) ?_
  refine wl_nil (x_then (hK18 _ _ ?_))
  clear hK18 K18
  refine wc_condF rfl ?_
  refine c_seq (fun K19 hK19 => ?_)
  refine c_reg ?_ -- region 25 exec.go:179
  refine wl (ro_cmp rfl rfl rfl) ?_
  refine wl (ro_assign rfl) ?_
  refine wl_nil (x_then (hK19 _ _ ?_))
  clear hK19 K19
  refine wc_condF rfl ?_
  refine c_seq (fun K20 hK20 => ?_)
  refine c_seq (fun K21 hK21 => ?_)
  refine c_reg ?_ -- region 27 exec.go:181
  refine wl (ro_cmp rfl rfl rfl) ?_
  refine wl (ro_assign rfl) ?_
  refine wl_nil (x_then (hK21 _ _ ?_))
  clear hK21 K21
  refine wc_condF rfl ?_
  refine c_reg ?_ -- region 28 exec.go:181
  refine wl (ro_cmp rfl rfl rfl) ?_
  refine wl (ro_assign rfl) ?_
  refine wl_nil (x_then (hK20 _ _ ?_))
  clear hK20 K20
  refine wc_condF rfl ?_
  refine c_seq (fun K22 hK22 => ?_)
  refine c_reg ?_ -- region 30 exec.go:183
  refine wl (ro_cmp rfl rfl rfl) ?_
  refine wl (ro_assign rfl) ?_
  refine wl_nil (x_then (hK22 _ _ ?_))
  clear hK22 K22
  refine wc_condF rfl ?_
  refine c_seq (fun K23 hK23 => ?_)
  refine c_reg ?_ -- region 35 exec.go:189
  refine wl (ro_cmp rfl rfl rfl) ?_
  refine wl (ro_assign rfl) ?_
  refine wl_nil (x_then (hK23 _ _ ?_))
  clear hK23 K23
  refine wc_condF rfl ?_
  refine c_skip (x_blk (x_then (hK3 _ _ ?_)))
  clear hK3 K3
  refine forget [(4, _)] ⟨rfl, trivial⟩ (fun e => ?_)
  refine c_seq (fun K24 hK24 => ?_)
  refine c_reg ?_ -- region 46 exec.go:201
  refine wl (ro_move rfl) ?_
  refine wl (ro_cmp (r := true) rfl rfl (congrArg some (decide_eq_true (by omega)))) ?_
  refine wl (ro_move rfl) ?_
  refine wlg_yes rfl (ro_move rfl) ?_
  refine wlg_yes rfl (ro_cmp (r := true) rfl rfl (congrArg some (decide_eq_true (by omega)))) ?_
  refine wl (ro_pick rfl rfl rfl) ?_
  refine wl (ro_assign rfl) ?_
  refine wl_nil (x_then (hK24 _ _ ?_))
  clear hK24 K24
  refine c_ret ?_
  refine bp_ret Tryz.results241 rfl ?_
  exact ⟨rfl, hF.thenDrew⟩
set_option maxHeartbeats 8000000 in
theorem snd_5 (E : PE C fg fc w ow a y gs g vars p ids 5 z) : Ret Tryz.prog 241 [ptr C.E.mb, tptr C a.cur, fpt fg gs.length, prt C p, u8n 5, i64c z] w (fun r w' => r = .bool true ∧ Fram none' w w') := by
  have hc := E.hc
  have hk := E.hk
  obtain ⟨V, κ, Vv, U, x, f, fs, o⟩ := E.r.open hc
  have hF : Fram none' w w := Fram.refl _ _
  have hol := E.ol
  have hnd := E.nd
  have hzz := E.hz
  obtain ⟨lT, hT, -, -, -, hT2, -⟩ := o.v.thA o.t.hx
  have hT2 := hT2 2 (.inl rfl)
  obtain ⟨lB, hB1, k1, q1, -, -⟩ := o.frow
  obtain ⟨lP, pa, pb, pc, hP, tP, rp, hups, -, -⟩ := o.v.pro E.hp
  rw [Nat.zero_add] at rp
  obtain ⟨p0, ids0, n1, n2, n3⟩ := o.ns
  obtain ⟨rfl, rfl⟩ : p = p0 ∧ ids = ids0 := by have := hk.symm.trans n1; simpa using this
  have hln := o.t.ln
  have hsl := o.sl
  obtain ⟨cs, hcs, hcl⟩ := o.clos hk
  obtain ⟨cg, cc, lC, up, e6, hC, tC, rC⟩ := o.v.clo hcs
  obtain ⟨lM, hM, m0, m1, m2, m3, m4, m5, m6, -⟩ := o.v.mbA
  rw [e6] at m6
  have hclt := (List.getElem?_eq_some_iff.1 hcs).1
  have hx : z < (fsAt C.F p).ns := by have := E.sn.r.2.2.2.2.1 (.inl rfl); rw [E.pr] at this; exact this
  refine ret_of Tryz.func241 rfl Tryz.ntmps241 rfl ?_
  refine c_seq (fun K1 hK1 => ?_)
  refine c_reg ?_ -- region 0 exec.go:160
  refine wl (ro_assign rfl) ?_
  refine wl_nil (x_then (hK1 _ _ ?_))
  clear hK1 K1
  refine forget [(0, _), (1, _), (2, _), (3, _), (4, _), (5, _)] ⟨rfl, rfl, rfl, rfl, rfl, rfl, trivial⟩ (fun e => ?_)
  refine c_seq (fun K2 hK2 => ?_)
  refine c_pi [(0, false), (1, false), (2, false), (3, false), (4, false), (5, false), (6, false), (7, false), (8, false), (9, false), (10, false), (11, false)] (SameH _) mixed (by kernel_rfl) rfl (by kernel_rfl) (po_then (po_bp)) (sameH_now _ _) ?_ -- region 1 exec.go:161
  refine pi_ro rfl (fun w hS => ro_move rfl) ?_
  refine pi_ro rfl (fun w hS => ro_nilCheck rfl) ?_
  refine pi_ro rfl (fun w hS => ro_fieldAddr (k := 6) rfl fo_89_6) ?_
  refine pi_ro rfl (fun w hS => ro_loadB rfl sc_85 (Blk.of_heap hM hS) (m6)) ?_
  refine pi_ro rfl (fun w hS => ro_move rfl) ?_
  refine pi_ro rfl (fun w hS => ro_nilCheck rfl) ?_
  refine pi_ro rfl (fun w hS => ro_fieldAddr (k := 0) rfl fo_331_0) ?_
  refine pi_ro rfl (fun w hS => ro_loadB rfl sc_3 (Blk.of_heap hB1 hS) (frow_at q1 (by decide))) ?_
  refine pi_ro rfl (fun w hS => ro_indexAddr (et := 209) (k := 3) rfl rfl se_85 (rfl) ((by omega))) ?_
  refine pi_ro rfl (fun w hS => ro_fieldAddr (k := 2) rfl fo_209_2) ?_
  refine pi_ro rfl (fun w hS => ro_loadB rfl sc_3 (Blk.of_heap hC hS) (row_get rC (by decide))) ?_
  refine pi_ro rfl (fun w hS => ro_assign rfl) ?_
  refine pi_nil (x_then (hK2 _ _ ?_))
  clear hK2 K2
  refine c_seq (fun K3 hK3 => ?_)
  refine c_seq (fun K4 hK4 => ?_)
  refine c_reg ?_ -- region 2 exec.go:162
  refine wl (ro_move rfl) ?_
  refine wl_nil (x_then (hK4 _ _ ?_))
  clear hK4 K4
  refine c_block ?_
  refine forget [(0, _), (1, _), (2, _), (3, _), (4, _), (5, _), (13, _), (29, _)] ⟨rfl, rfl, rfl, rfl, rfl, rfl, rfl, rfl, trivial⟩ (fun e => ?_)
  refine c_seq (fun K5 hK5 => ?_)
  refine c_reg ?_ -- region 3 exec.go:163
  refine wl (ro_cmp rfl rfl rfl) ?_
  refine wl (ro_assign rfl) ?_
  refine wl_nil (x_then (hK5 _ _ ?_))
  clear hK5 K5
  refine wc_condF rfl ?_
  refine c_seq (fun K6 hK6 => ?_)
  refine c_seq (fun K7 hK7 => ?_)
  refine c_reg ?_ -- region 5 exec.go:165
  refine wl (ro_cmp rfl rfl rfl) ?_
  refine wl (ro_assign rfl) ?_
  refine wl_nil (x_then (hK7 _ _ ?_))
  clear hK7 K7
  refine wc_condF rfl ?_
  refine c_reg ?_ -- region 6 exec.go:165
  refine wl (ro_cmp rfl rfl rfl) ?_
  refine wl (ro_assign rfl) ?_
  refine wl_nil (x_then (hK6 _ _ ?_))
  clear hK6 K6
  refine wc_condF rfl ?_
  refine c_seq (fun K8 hK8 => ?_)
  refine c_seq (fun K9 hK9 => ?_)
  refine c_reg ?_ -- region 8 exec.go:167
  refine wl (ro_cmp rfl rfl rfl) ?_
  refine wl (ro_assign rfl) ?_
  refine wl_nil (x_then (hK9 _ _ ?_))
  clear hK9 K9
  refine wc_condT rfl ?_
  refine c_skip (x_then (hK8 _ _ ?_))
  clear hK8 K8
  refine wc_condT rfl ?_
  refine c_seq (fun K10 hK10 => ?_)
  refine c_reg ?_ -- region 10 exec.go:168
  refine wl (ro_move rfl) ?_
  refine wl (ro_move rfl) ?_
  refine wl (ro_nilCheck rfl) ?_
  refine wl (ro_fieldAddr (k := 1) rfl fo_258_1) ?_
  refine wl (ro_loadB rfl sc_3 (hP) (row_get rp (by decide))) ?_
  refine wl (ro_cmp (r := true) rfl rfl (congrArg some (decide_eq_true (by omega)))) ?_
  refine wl (ro_assign rfl) ?_
  refine wl_nil (x_then (hK10 _ _ ?_))
  clear hK10 K10
  refine c_ret (x_blkR (x_thenR ?_))
  refine bp_ret Tryz.results241 rfl ?_
  exact ⟨rfl, hF.thenDrew⟩
set_option maxHeartbeats 8000000 in
theorem snd_6 (E : PE C fg fc w ow a y gs g vars p ids 6 z) : Ret Tryz.prog 241 [ptr C.E.mb, tptr C a.cur, fpt fg gs.length, prt C p, u8n 6, i64c z] w (fun r w' => r = .bool true ∧ Fram none' w w') := by
  have hc := E.hc
  have hk := E.hk
  obtain ⟨V, κ, Vv, U, x, f, fs, o⟩ := E.r.open hc
  have hF : Fram none' w w := Fram.refl _ _
  have hol := E.ol
  have hnd := E.nd
  have hzz := E.hz
  obtain ⟨lT, hT, -, -, -, hT2, -⟩ := o.v.thA o.t.hx
  have hT2 := hT2 2 (.inl rfl)
  obtain ⟨lB, hB1, k1, q1, -, -⟩ := o.frow
  obtain ⟨lP, pa, pb, pc, hP, tP, rp, hups, -, -⟩ := o.v.pro E.hp
  rw [Nat.zero_add] at rp
  obtain ⟨p0, ids0, n1, n2, n3⟩ := o.ns
  obtain ⟨rfl, rfl⟩ : p = p0 ∧ ids = ids0 := by have := hk.symm.trans n1; simpa using this
  have hln := o.t.ln
  have hsl := o.sl
  obtain ⟨cs, hcs, hcl⟩ := o.clos hk
  obtain ⟨cg, cc, lC, up, e6, hC, tC, rC⟩ := o.v.clo hcs
  obtain ⟨lM, hM, m0, m1, m2, m3, m4, m5, m6, -⟩ := o.v.mbA
  rw [e6] at m6
  have hclt := (List.getElem?_eq_some_iff.1 hcs).1
  have hx : z < (fsAt C.F p).ns := by have := E.sn.r.2.2.2.2.1 (.inr rfl); rw [E.pr] at this; exact this
  refine ret_of Tryz.func241 rfl Tryz.ntmps241 rfl ?_
  refine c_seq (fun K1 hK1 => ?_)
  refine c_reg ?_ -- region 0 exec.go:160
  refine wl (ro_assign rfl) ?_
  refine wl_nil (x_then (hK1 _ _ ?_))
  clear hK1 K1
  refine forget [(0, _), (1, _), (2, _), (3, _), (4, _), (5, _)] ⟨rfl, rfl, rfl, rfl, rfl, rfl, trivial⟩ (fun e => ?_)
  refine c_seq (fun K2 hK2 => ?_)
  refine c_pi [(0, false), (1, false), (2, false), (3, false), (4, false), (5, false), (6, false), (7, false), (8, false), (9, false), (10, false), (11, false)] (SameH _) mixed (by kernel_rfl) rfl (by kernel_rfl) (po_then (po_bp)) (sameH_now _ _) ?_ -- region 1 exec.go:161
  refine pi_ro rfl (fun w hS => ro_move rfl) ?_
  refine pi_ro rfl (fun w hS => ro_nilCheck rfl) ?_
  refine pi_ro rfl (fun w hS => ro_fieldAddr (k := 6) rfl fo_89_6) ?_
  refine pi_ro rfl (fun w hS => ro_loadB rfl sc_85 (Blk.of_heap hM hS) (m6)) ?_
  refine pi_ro rfl (fun w hS => ro_move rfl) ?_
  refine pi_ro rfl (fun w hS => ro_nilCheck rfl) ?_
  refine pi_ro rfl (fun w hS => ro_fieldAddr (k := 0) rfl fo_331_0) ?_
  refine pi_ro rfl (fun w hS => ro_loadB rfl sc_3 (Blk.of_heap hB1 hS) (frow_at q1 (by decide))) ?_
  refine pi_ro rfl (fun w hS => ro_indexAddr (et := 209) (k := 3) rfl rfl se_85 (rfl) ((by omega))) ?_
  refine pi_ro rfl (fun w hS => ro_fieldAddr (k := 2) rfl fo_209_2) ?_
  refine pi_ro rfl (fun w hS => ro_loadB rfl sc_3 (Blk.of_heap hC hS) (row_get rC (by decide))) ?_
  refine pi_ro rfl (fun w hS => ro_assign rfl) ?_
  refine pi_nil (x_then (hK2 _ _ ?_))
  clear hK2 K2
  refine c_seq (fun K3 hK3 => ?_)
  refine c_seq (fun K4 hK4 => ?_)
  refine c_reg ?_ -- region 2 exec.go:162
  refine wl (ro_move rfl) ?_
  refine wl_nil (x_then (hK4 _ _ ?_))
  clear hK4 K4
  refine c_block ?_
  refine forget [(0, _), (1, _), (2, _), (3, _), (4, _), (5, _), (13, _), (29, _)] ⟨rfl, rfl, rfl, rfl, rfl, rfl, rfl, rfl, trivial⟩ (fun e => ?_)
  refine c_seq (fun K5 hK5 => ?_)
  refine c_reg ?_ -- region 3 exec.go:163
  refine wl (ro_cmp rfl rfl rfl) ?_
  refine wl (ro_assign rfl) ?_
  refine wl_nil (x_then (hK5 _ _ ?_))
  clear hK5 K5
  refine wc_condF rfl ?_
  refine c_seq (fun K6 hK6 => ?_)
  refine c_seq (fun K7 hK7 => ?_)
  refine c_reg ?_ -- region 5 exec.go:165
  refine wl (ro_cmp rfl rfl rfl) ?_
  refine wl (ro_assign rfl) ?_
  refine wl_nil (x_then (hK7 _ _ ?_))
  clear hK7 K7
  refine wc_condF rfl ?_
  refine c_reg ?_ -- region 6 exec.go:165
  refine wl (ro_cmp rfl rfl rfl) ?_
  refine wl (ro_assign rfl) ?_
  refine wl_nil (x_then (hK6 _ _ ?_))
  clear hK6 K6
  refine wc_condF rfl ?_
  refine c_seq (fun K8 hK8 => ?_)
  refine c_seq (fun K9 hK9 => ?_)
  refine c_reg ?_ -- region 8 exec.go:167
  refine wl (ro_cmp rfl rfl rfl) ?_
  refine wl (ro_assign rfl) ?_
  refine wl_nil (x_then (hK9 _ _ ?_))
  clear hK9 K9
  refine wc_condF rfl ?_
  refine c_reg ?_ -- region 9 exec.go:167
  refine wl (ro_cmp rfl rfl rfl) ?_
  refine wl (ro_assign rfl) ?_
  refine wl_nil (x_then (hK8 _ _ ?_))
  clear hK8 K8
  refine wc_condT rfl ?_
  refine c_seq (fun K10 hK10 => ?_)
  refine c_reg ?_ -- region 10 exec.go:168
  refine wl (ro_move rfl) ?_
  refine wl (ro_move rfl) ?_
  refine wl (ro_nilCheck rfl) ?_
  refine wl (ro_fieldAddr (k := 1) rfl fo_258_1) ?_
  refine wl (ro_loadB rfl sc_3 (hP) (row_get rp (by decide))) ?_
  refine wl (ro_cmp (r := true) rfl rfl (congrArg some (decide_eq_true (by omega)))) ?_
  refine wl (ro_assign rfl) ?_
  refine wl_nil (x_then (hK10 _ _ ?_))
  clear hK10 K10
  refine c_ret (x_blkR (x_thenR ?_))
  refine bp_ret Tryz.results241 rfl ?_
  exact ⟨rfl, hF.thenDrew⟩
set_option maxHeartbeats 8000000 in
theorem snd_7 (E : PE C fg fc w ow a y gs g vars p ids 7 z) : Ret Tryz.prog 241 [ptr C.E.mb, tptr C a.cur, fpt fg gs.length, prt C p, u8n 7, i64c z] w (fun r w' => r = .bool true ∧ Fram none' w w') := by
  have hc := E.hc
  have hk := E.hk
  obtain ⟨V, κ, Vv, U, x, f, fs, o⟩ := E.r.open hc
  have hF : Fram none' w w := Fram.refl _ _
  have hol := E.ol
  have hnd := E.nd
  have hzz := E.hz
  obtain ⟨lT, hT, -, -, -, hT2, -⟩ := o.v.thA o.t.hx
  have hT2 := hT2 2 (.inl rfl)
  obtain ⟨lB, hB1, k1, q1, -, -⟩ := o.frow
  obtain ⟨lP, pa, pb, pc, hP, tP, rp, hups, -, -⟩ := o.v.pro E.hp
  rw [Nat.zero_add] at rp
  obtain ⟨p0, ids0, n1, n2, n3⟩ := o.ns
  obtain ⟨rfl, rfl⟩ : p = p0 ∧ ids = ids0 := by have := hk.symm.trans n1; simpa using this
  have hln := o.t.ln
  have hsl := o.sl
  obtain ⟨cs, hcs, hcl⟩ := o.clos hk
  obtain ⟨cg, cc, lC, up, e6, hC, tC, rC⟩ := o.v.clo hcs
  obtain ⟨lM, hM, m0, m1, m2, m3, m4, m5, m6, -⟩ := o.v.mbA
  rw [e6] at m6
  have hclt := (List.getElem?_eq_some_iff.1 hcs).1
  have hx : z < ids.length := by have := E.sn.r.2.2.2.2.2.1 (.inl rfl); rw [E.id] at this; exact this
  refine ret_of Tryz.func241 rfl Tryz.ntmps241 rfl ?_
  refine c_seq (fun K1 hK1 => ?_)
  refine c_reg ?_ -- region 0 exec.go:160
  refine wl (ro_assign rfl) ?_
  refine wl_nil (x_then (hK1 _ _ ?_))
  clear hK1 K1
  refine forget [(0, _), (1, _), (2, _), (3, _), (4, _), (5, _)] ⟨rfl, rfl, rfl, rfl, rfl, rfl, trivial⟩ (fun e => ?_)
  refine c_seq (fun K2 hK2 => ?_)
  refine c_pi [(0, false), (1, false), (2, false), (3, false), (4, false), (5, false), (6, false), (7, false), (8, false), (9, false), (10, false), (11, false)] (SameH _) mixed (by kernel_rfl) rfl (by kernel_rfl) (po_then (po_bp)) (sameH_now _ _) ?_ -- region 1 exec.go:161
  refine pi_ro rfl (fun w hS => ro_move rfl) ?_
  refine pi_ro rfl (fun w hS => ro_nilCheck rfl) ?_
  refine pi_ro rfl (fun w hS => ro_fieldAddr (k := 6) rfl fo_89_6) ?_
  refine pi_ro rfl (fun w hS => ro_loadB rfl sc_85 (Blk.of_heap hM hS) (m6)) ?_
  refine pi_ro rfl (fun w hS => ro_move rfl) ?_
  refine pi_ro rfl (fun w hS => ro_nilCheck rfl) ?_
  refine pi_ro rfl (fun w hS => ro_fieldAddr (k := 0) rfl fo_331_0) ?_
  refine pi_ro rfl (fun w hS => ro_loadB rfl sc_3 (Blk.of_heap hB1 hS) (frow_at q1 (by decide))) ?_
  refine pi_ro rfl (fun w hS => ro_indexAddr (et := 209) (k := 3) rfl rfl se_85 (rfl) ((by omega))) ?_
  refine pi_ro rfl (fun w hS => ro_fieldAddr (k := 2) rfl fo_209_2) ?_
  refine pi_ro rfl (fun w hS => ro_loadB rfl sc_3 (Blk.of_heap hC hS) (row_get rC (by decide))) ?_
  refine pi_ro rfl (fun w hS => ro_assign rfl) ?_
  refine pi_nil (x_then (hK2 _ _ ?_))
  clear hK2 K2
  refine c_seq (fun K3 hK3 => ?_)
  refine c_seq (fun K4 hK4 => ?_)
  refine c_reg ?_ -- region 2 exec.go:162
  refine wl (ro_move rfl) ?_
  refine wl_nil (x_then (hK4 _ _ ?_))
  clear hK4 K4
  refine c_block ?_
  refine forget [(0, _), (1, _), (2, _), (3, _), (4, _), (5, _), (13, _), (29, _)] ⟨rfl, rfl, rfl, rfl, rfl, rfl, rfl, rfl, trivial⟩ (fun e => ?_)
  refine c_seq (fun K5 hK5 => ?_)
  refine c_reg ?_ -- region 3 exec.go:163
  refine wl (ro_cmp rfl rfl rfl) ?_
  refine wl (ro_assign rfl) ?_
  refine wl_nil (x_then (hK5 _ _ ?_))
  clear hK5 K5
  refine wc_condF rfl ?_
  refine c_seq (fun K6 hK6 => ?_)
  refine c_seq (fun K7 hK7 => ?_)
  refine c_reg ?_ -- region 5 exec.go:165
  refine wl (ro_cmp rfl rfl rfl) ?_
  refine wl (ro_assign rfl) ?_
  refine wl_nil (x_then (hK7 _ _ ?_))
  clear hK7 K7
  refine wc_condF rfl ?_
  refine c_reg ?_ -- region 6 exec.go:165
  refine wl (ro_cmp rfl rfl rfl) ?_
  refine wl (ro_assign rfl) ?_
  refine wl_nil (x_then (hK6 _ _ ?_))
  clear hK6 K6
  refine wc_condF rfl ?_
  refine c_seq (fun K8 hK8 => ?_)
  refine c_seq (fun K9 hK9 => ?_)
  refine c_reg ?_ -- region 8 exec.go:167
  refine wl (ro_cmp rfl rfl rfl) ?_
  refine wl (ro_assign rfl) ?_
  refine wl_nil (x_then (hK9 _ _ ?_))
  clear hK9 K9
  refine wc_condF rfl ?_
  refine c_reg ?_ -- region 9 exec.go:167
  refine wl (ro_cmp rfl rfl rfl) ?_
  refine wl (ro_assign rfl) ?_
  refine wl_nil (x_then (hK8 _ _ ?_))
  clear hK8 K8
  refine wc_condF rfl ?_
  refine c_seq (fun K10 hK10 => ?_)
  refine c_seq (fun K11 hK11 => ?_)
  refine c_reg ?_ -- region 11 exec.go:169
  refine wl (ro_cmp rfl rfl rfl) ?_
  refine wl (ro_assign rfl) ?_
  refine wl_nil (x_then (hK11 _ _ ?_))
  clear hK11 K11
  refine wc_condT rfl ?_
  refine c_skip (x_then (hK10 _ _ ?_))
  clear hK10 K10
  refine wc_condT rfl ?_
  refine c_seq (fun K12 hK12 => ?_)
  refine c_reg ?_ -- region 13 exec.go:170
  refine wl (ro_move rfl) ?_
  refine wl (ro_move rfl) ?_
  refine wl (ro_cmp (r := true) rfl rfl (congrArg some (decide_eq_true (by show (z : Int) < (cs.length : Int); omega)))) ?_
  refine wl (ro_assign rfl) ?_
  refine wl_nil (x_then (hK12 _ _ ?_))
  clear hK12 K12
  refine c_ret (x_blkR (x_thenR ?_))
  refine bp_ret Tryz.results241 rfl ?_
  exact ⟨rfl, hF.thenDrew⟩
set_option maxHeartbeats 8000000 in
theorem snd_8 (E : PE C fg fc w ow a y gs g vars p ids 8 z) : Ret Tryz.prog 241 [ptr C.E.mb, tptr C a.cur, fpt fg gs.length, prt C p, u8n 8, i64c z] w (fun r w' => r = .bool true ∧ Fram none' w w') := by
  have hc := E.hc
  have hk := E.hk
  obtain ⟨V, κ, Vv, U, x, f, fs, o⟩ := E.r.open hc
  have hF : Fram none' w w := Fram.refl _ _
  have hol := E.ol
  have hnd := E.nd
  have hzz := E.hz
  obtain ⟨lT, hT, -, -, -, hT2, -⟩ := o.v.thA o.t.hx
  have hT2 := hT2 2 (.inl rfl)
  obtain ⟨lB, hB1, k1, q1, -, -⟩ := o.frow
  obtain ⟨lP, pa, pb, pc, hP, tP, rp, hups, -, -⟩ := o.v.pro E.hp
  rw [Nat.zero_add] at rp
  obtain ⟨p0, ids0, n1, n2, n3⟩ := o.ns
  obtain ⟨rfl, rfl⟩ : p = p0 ∧ ids = ids0 := by have := hk.symm.trans n1; simpa using this
  have hln := o.t.ln
  have hsl := o.sl
  obtain ⟨cs, hcs, hcl⟩ := o.clos hk
  obtain ⟨cg, cc, lC, up, e6, hC, tC, rC⟩ := o.v.clo hcs
  obtain ⟨lM, hM, m0, m1, m2, m3, m4, m5, m6, -⟩ := o.v.mbA
  rw [e6] at m6
  have hclt := (List.getElem?_eq_some_iff.1 hcs).1
  have hx : z < ids.length := by have := E.sn.r.2.2.2.2.2.1 (.inr rfl); rw [E.id] at this; exact this
  refine ret_of Tryz.func241 rfl Tryz.ntmps241 rfl ?_
  refine c_seq (fun K1 hK1 => ?_)
  refine c_reg ?_ -- region 0 exec.go:160
  refine wl (ro_assign rfl) ?_
  refine wl_nil (x_then (hK1 _ _ ?_))
  clear hK1 K1
  refine forget [(0, _), (1, _), (2, _), (3, _), (4, _), (5, _)] ⟨rfl, rfl, rfl, rfl, rfl, rfl, trivial⟩ (fun e => ?_)
  refine c_seq (fun K2 hK2 => ?_)
  refine c_pi [(0, false), (1, false), (2, false), (3, false), (4, false), (5, false), (6, false), (7, false), (8, false), (9, false), (10, false), (11, false)] (SameH _) mixed (by kernel_rfl) rfl (by kernel_rfl) (po_then (po_bp)) (sameH_now _ _) ?_ -- region 1 exec.go:161
  refine pi_ro rfl (fun w hS => ro_move rfl) ?_
  refine pi_ro rfl (fun w hS => ro_nilCheck rfl) ?_
  refine pi_ro rfl (fun w hS => ro_fieldAddr (k := 6) rfl fo_89_6) ?_
  refine pi_ro rfl (fun w hS => ro_loadB rfl sc_85 (Blk.of_heap hM hS) (m6)) ?_
  refine pi_ro rfl (fun w hS => ro_move rfl) ?_
  refine pi_ro rfl (fun w hS => ro_nilCheck rfl) ?_
  refine pi_ro rfl (fun w hS => ro_fieldAddr (k := 0) rfl fo_331_0) ?_
  refine pi_ro rfl (fun w hS => ro_loadB rfl sc_3 (Blk.of_heap hB1 hS) (frow_at q1 (by decide))) ?_
  refine pi_ro rfl (fun w hS => ro_indexAddr (et := 209) (k := 3) rfl rfl se_85 (rfl) ((by omega))) ?_
  refine pi_ro rfl (fun w hS => ro_fieldAddr (k := 2) rfl fo_209_2) ?_
  refine pi_ro rfl (fun w hS => ro_loadB rfl sc_3 (Blk.of_heap hC hS) (row_get rC (by decide))) ?_
  refine pi_ro rfl (fun w hS => ro_assign rfl) ?_
  refine pi_nil (x_then (hK2 _ _ ?_))
  clear hK2 K2
  refine c_seq (fun K3 hK3 => ?_)
  refine c_seq (fun K4 hK4 => ?_)
  refine c_reg ?_ -- region 2 exec.go:162
  refine wl (ro_move rfl) ?_
  refine wl_nil (x_then (hK4 _ _ ?_))
  clear hK4 K4
  refine c_block ?_
  refine forget [(0, _), (1, _), (2, _), (3, _), (4, _), (5, _), (13, _), (29, _)] ⟨rfl, rfl, rfl, rfl, rfl, rfl, rfl, rfl, trivial⟩ (fun e => ?_)
  refine c_seq (fun K5 hK5 => ?_)
  refine c_reg ?_ -- region 3 exec.go:163
  refine wl (ro_cmp rfl rfl rfl) ?_
  refine wl (ro_assign rfl) ?_
  refine wl_nil (x_then (hK5 _ _ ?_))
  clear hK5 K5
  refine wc_condF rfl ?_
  refine c_seq (fun K6 hK6 => ?_)
  refine c_seq (fun K7 hK7 => ?_)
  refine c_reg ?_ -- region 5 exec.go:165
  refine wl (ro_cmp rfl rfl rfl) ?_
  refine wl (ro_assign rfl) ?_
  refine wl_nil (x_then (hK7 _ _ ?_))
  clear hK7 K7
  refine wc_condF rfl ?_
  refine c_reg ?_ -- region 6 exec.go:165
  refine wl (ro_cmp rfl rfl rfl) ?_
  refine wl (ro_assign rfl) ?_
  refine wl_nil (x_then (hK6 _ _ ?_))
  clear hK6 K6
  refine wc_condF rfl ?_
  refine c_seq (fun K8 hK8 => ?_)
  refine c_seq (fun K9 hK9 => ?_)
  refine c_reg ?_ -- region 8 exec.go:167
  refine wl (ro_cmp rfl rfl rfl) ?_
  refine wl (ro_assign rfl) ?_
  refine wl_nil (x_then (hK9 _ _ ?_))
  clear hK9 K9
  refine wc_condF rfl ?_
  refine c_reg ?_ -- region 9 exec.go:167
  refine wl (ro_cmp rfl rfl rfl) ?_
  refine wl (ro_assign rfl) ?_
  refine wl_nil (x_then (hK8 _ _ ?_))
  clear hK8 K8
  refine wc_condF rfl ?_
  refine c_seq (fun K10 hK10 => ?_)
  refine c_seq (fun K11 hK11 => ?_)
  refine c_reg ?_ -- region 11 exec.go:169
  refine wl (ro_cmp rfl rfl rfl) ?_
  refine wl (ro_assign rfl) ?_
  refine wl_nil (x_then (hK11 _ _ ?_))
  clear hK11 K11
  refine wc_condF rfl ?_
  refine c_reg ?_ -- region 12 exec.go:169
  refine wl (ro_cmp rfl rfl rfl) ?_
  refine wl (ro_assign rfl) ?_
  refine wl_nil (x_then (hK10 _ _ ?_))
  clear hK10 K10
  refine wc_condT rfl ?_
  refine c_seq (fun K12 hK12 => ?_)
  refine c_reg ?_ -- region 13 exec.go:170
  refine wl (ro_move rfl) ?_
  refine wl (ro_move rfl) ?_
  refine wl (ro_cmp (r := true) rfl rfl (congrArg some (decide_eq_true (by show (z : Int) < (cs.length : Int); omega)))) ?_
  refine wl (ro_assign rfl) ?_
  refine wl_nil (x_then (hK12 _ _ ?_))
  clear hK12 K12
  refine c_ret (x_blkR (x_thenR ?_))
  refine bp_ret Tryz.results241 rfl ?_
  exact ⟨rfl, hF.thenDrew⟩
set_option maxHeartbeats 8000000 in
theorem snd_9 (E : PE C fg fc w ow a y gs g vars p ids 9 z) : Ret Tryz.prog 241 [ptr C.E.mb, tptr C a.cur, fpt fg gs.length, prt C p, u8n 9, i64c z] w (fun r w' => r = .bool true ∧ Fram none' w w') := by
  have hc := E.hc
  have hk := E.hk
  obtain ⟨V, κ, Vv, U, x, f, fs, o⟩ := E.r.open hc
  have hF : Fram none' w w := Fram.refl _ _
  have hol := E.ol
  have hnd := E.nd
  have hzz := E.hz
  obtain ⟨lT, hT, -, -, -, hT2, -⟩ := o.v.thA o.t.hx
  have hT2 := hT2 2 (.inl rfl)
  obtain ⟨lB, hB1, k1, q1, -, -⟩ := o.frow
  obtain ⟨lP, pa, pb, pc, hP, tP, rp, hups, -, -⟩ := o.v.pro E.hp
  rw [Nat.zero_add] at rp
  obtain ⟨p0, ids0, n1, n2, n3⟩ := o.ns
  obtain ⟨rfl, rfl⟩ : p = p0 ∧ ids = ids0 := by have := hk.symm.trans n1; simpa using this
  have hln := o.t.ln
  have hsl := o.sl
  obtain ⟨cs, hcs, hcl⟩ := o.clos hk
  obtain ⟨cg, cc, lC, up, e6, hC, tC, rC⟩ := o.v.clo hcs
  obtain ⟨lM, hM, m0, m1, m2, m3, m4, m5, m6, -⟩ := o.v.mbA
  rw [e6] at m6
  have hclt := (List.getElem?_eq_some_iff.1 hcs).1
  obtain ⟨ks, hkv⟩ : ∃ s, (fsAt C.F p).ks[z]? = some (vStr s) := by obtain ⟨s, q⟩ := E.sn.r.2.2.2.1 (.inl rfl); rw [E.pr] at q; exact ⟨s, q⟩
  have hx := (List.getElem?_eq_some_iff.1 hkv).1
  obtain ⟨lM2, lP2, lK, kg, kcap, kn, kb, hM2, hM4, hM1, hP2, hPk, hK, hKr, hkb, hkn⟩ := o.kon E.hp hkv
  obtain rfl := (hP.uniq hP2).1
  obtain rfl := (hM.uniq hM2).1
  refine ret_of Tryz.func241 rfl Tryz.ntmps241 rfl ?_
  refine c_seq (fun K1 hK1 => ?_)
  refine c_reg ?_ -- region 0 exec.go:160
  refine wl (ro_assign rfl) ?_
  refine wl_nil (x_then (hK1 _ _ ?_))
  clear hK1 K1
  refine forget [(0, _), (1, _), (2, _), (3, _), (4, _), (5, _)] ⟨rfl, rfl, rfl, rfl, rfl, rfl, trivial⟩ (fun e => ?_)
  refine c_seq (fun K2 hK2 => ?_)
  refine c_pi [(0, false), (1, false), (2, false), (3, false), (4, false), (5, false), (6, false), (7, false), (8, false), (9, false), (10, false), (11, false)] (SameH _) mixed (by kernel_rfl) rfl (by kernel_rfl) (po_then (po_bp)) (sameH_now _ _) ?_ -- region 1 exec.go:161
  refine pi_ro rfl (fun w hS => ro_move rfl) ?_
  refine pi_ro rfl (fun w hS => ro_nilCheck rfl) ?_
  refine pi_ro rfl (fun w hS => ro_fieldAddr (k := 6) rfl fo_89_6) ?_
  refine pi_ro rfl (fun w hS => ro_loadB rfl sc_85 (Blk.of_heap hM hS) (m6)) ?_
  refine pi_ro rfl (fun w hS => ro_move rfl) ?_
  refine pi_ro rfl (fun w hS => ro_nilCheck rfl) ?_
  refine pi_ro rfl (fun w hS => ro_fieldAddr (k := 0) rfl fo_331_0) ?_
  refine pi_ro rfl (fun w hS => ro_loadB rfl sc_3 (Blk.of_heap hB1 hS) (frow_at q1 (by decide))) ?_
  refine pi_ro rfl (fun w hS => ro_indexAddr (et := 209) (k := 3) rfl rfl se_85 (rfl) ((by omega))) ?_
  refine pi_ro rfl (fun w hS => ro_fieldAddr (k := 2) rfl fo_209_2) ?_
  refine pi_ro rfl (fun w hS => ro_loadB rfl sc_3 (Blk.of_heap hC hS) (row_get rC (by decide))) ?_
  refine pi_ro rfl (fun w hS => ro_assign rfl) ?_
  refine pi_nil (x_then (hK2 _ _ ?_))
  clear hK2 K2
  refine c_seq (fun K3 hK3 => ?_)
  refine c_seq (fun K4 hK4 => ?_)
  refine c_reg ?_ -- region 2 exec.go:162
  refine wl (ro_move rfl) ?_
  refine wl_nil (x_then (hK4 _ _ ?_))
  clear hK4 K4
  refine c_block ?_
  refine forget [(0, _), (1, _), (2, _), (3, _), (4, _), (5, _), (13, _), (29, _)] ⟨rfl, rfl, rfl, rfl, rfl, rfl, rfl, rfl, trivial⟩ (fun e => ?_)
  refine c_seq (fun K5 hK5 => ?_)
  refine c_reg ?_ -- region 3 exec.go:163
  refine wl (ro_cmp rfl rfl rfl) ?_
  refine wl (ro_assign rfl) ?_
  refine wl_nil (x_then (hK5 _ _ ?_))
  clear hK5 K5
  refine wc_condF rfl ?_
  refine c_seq (fun K6 hK6 => ?_)
  refine c_seq (fun K7 hK7 => ?_)
  refine c_reg ?_ -- region 5 exec.go:165
  refine wl (ro_cmp rfl rfl rfl) ?_
  refine wl (ro_assign rfl) ?_
  refine wl_nil (x_then (hK7 _ _ ?_))
  clear hK7 K7
  refine wc_condT rfl ?_
  refine c_skip (x_then (hK6 _ _ ?_))
  clear hK6 K6
  refine wc_condT rfl ?_
  refine c_seq (fun K8 hK8 => ?_)
  refine c_pi [(0, false), (1, false), (2, false), (3, false), (4, false), (5, false), (6, false), (7, false), (8, false), (9, false), (10, false), (11, false), (12, false), (13, false), (14, false), (15, false), (16, false), (17, false), (18, false), (19, false), (20, false), (21, false), (22, false)] (SameH _) mixed (by kernel_rfl) rfl (by kernel_rfl) (po_then (po_blk (po_then (po_bp)))) (sameH_now _ _) ?_ -- region 7 exec.go:166
  refine pi_ro rfl (fun w hS => ro_move rfl) ?_
  refine pi_ro rfl (fun w hS => ro_move rfl) ?_
  refine pi_ro rfl (fun w hS => ro_nilCheck rfl) ?_
  refine pi_ro rfl (fun w hS => ro_fieldAddr (k := 5) rfl fo_258_5) ?_
  refine pi_ro rfl (fun w hS => ro_loadB rfl sc_3 (Blk.of_heap hP hS) (row_get rp (by decide))) ?_
  refine pi_ro rfl (fun w hS => ro_cmp (r := true) rfl rfl (congrArg some (decide_eq_true (by omega)))) ?_
  refine pi_ro rfl (fun w hS => ro_move rfl) ?_
  refine pi_gyes rfl rfl (fun w hS => ro_move rfl) ?_
  refine pi_gyes rfl rfl (fun w hS => ro_nilCheck rfl) ?_
  refine pi_gyes rfl rfl (fun w hS => ro_fieldAddr (k := 4) rfl fo_89_4) ?_
  refine pi_gyes rfl rfl (fun w hS => ro_loadB rfl sc_83 (Blk.of_heap hM hS) (hM4)) ?_
  refine pi_gyes rfl rfl (fun w hS => ro_move rfl) ?_
  refine pi_gyes rfl rfl (fun w hS => ro_nilCheck rfl) ?_
  refine pi_gyes rfl rfl (fun w hS => ro_fieldAddr (k := 4) rfl fo_258_4) ?_
  refine pi_gyes rfl rfl (fun w hS => ro_loadB rfl sc_3 (Blk.of_heap hP hS) (hPk)) ?_
  refine pi_gyes rfl rfl (fun w hS => ro_move rfl) ?_
  refine pi_gyes rfl rfl (fun w hS => ro_addN rfl rfl (by omega)) ?_
  refine pi_gyes rfl rfl (fun w hS => ro_indexAddr (et := 119) (k := 3) rfl rfl se_83 (rfl) ((by omega))) ?_
  refine pi_gyes rfl rfl (fun w hS => ro_fieldAddr (k := 0) rfl fo_119_0) ?_
  refine pi_gyes rfl rfl (fun w hS => ro_loadB rfl sc_3 (Blk.of_heap hK hS) (row_get hKr (by decide))) ?_
  refine pi_gyes rfl rfl (fun w hS => ro_cmp rfl rfl rfl) ?_
  refine pi_ro rfl (fun w hS => ro_pick rfl rfl rfl) ?_
  refine pi_ro rfl (fun w hS => ro_assign rfl) ?_
  refine pi_nil (x_then (hK8 _ _ ?_))
  clear hK8 K8
  refine c_ret (x_blkR (x_thenR ?_))
  refine bp_ret Tryz.results241 rfl ?_
  exact ⟨rfl, hF.thenDrew⟩
set_option maxHeartbeats 8000000 in
theorem snd_10 (E : PE C fg fc w ow a y gs g vars p ids 10 z) : Ret Tryz.prog 241 [ptr C.E.mb, tptr C a.cur, fpt fg gs.length, prt C p, u8n 10, i64c z] w (fun r w' => r = .bool true ∧ Fram none' w w') := by
  have hc := E.hc
  have hk := E.hk
  obtain ⟨V, κ, Vv, U, x, f, fs, o⟩ := E.r.open hc
  have hF : Fram none' w w := Fram.refl _ _
  have hol := E.ol
  have hnd := E.nd
  have hzz := E.hz
  obtain ⟨lT, hT, -, -, -, hT2, -⟩ := o.v.thA o.t.hx
  have hT2 := hT2 2 (.inl rfl)
  obtain ⟨lB, hB1, k1, q1, -, -⟩ := o.frow
  obtain ⟨lP, pa, pb, pc, hP, tP, rp, hups, -, -⟩ := o.v.pro E.hp
  rw [Nat.zero_add] at rp
  obtain ⟨p0, ids0, n1, n2, n3⟩ := o.ns
  obtain ⟨rfl, rfl⟩ : p = p0 ∧ ids = ids0 := by have := hk.symm.trans n1; simpa using this
  have hln := o.t.ln
  have hsl := o.sl
  obtain ⟨cs, hcs, hcl⟩ := o.clos hk
  obtain ⟨cg, cc, lC, up, e6, hC, tC, rC⟩ := o.v.clo hcs
  obtain ⟨lM, hM, m0, m1, m2, m3, m4, m5, m6, -⟩ := o.v.mbA
  rw [e6] at m6
  have hclt := (List.getElem?_eq_some_iff.1 hcs).1
  obtain ⟨ks, hkv⟩ : ∃ s, (fsAt C.F p).ks[z]? = some (vStr s) := by obtain ⟨s, q⟩ := E.sn.r.2.2.2.1 (.inr rfl); rw [E.pr] at q; exact ⟨s, q⟩
  have hx := (List.getElem?_eq_some_iff.1 hkv).1
  obtain ⟨lM2, lP2, lK, kg, kcap, kn, kb, hM2, hM4, hM1, hP2, hPk, hK, hKr, hkb, hkn⟩ := o.kon E.hp hkv
  obtain rfl := (hP.uniq hP2).1
  obtain rfl := (hM.uniq hM2).1
  refine ret_of Tryz.func241 rfl Tryz.ntmps241 rfl ?_
  refine c_seq (fun K1 hK1 => ?_)
  refine c_reg ?_ -- region 0 exec.go:160
  refine wl (ro_assign rfl) ?_
  refine wl_nil (x_then (hK1 _ _ ?_))
  clear hK1 K1
  refine forget [(0, _), (1, _), (2, _), (3, _), (4, _), (5, _)] ⟨rfl, rfl, rfl, rfl, rfl, rfl, trivial⟩ (fun e => ?_)
  refine c_seq (fun K2 hK2 => ?_)
  refine c_pi [(0, false), (1, false), (2, false), (3, false), (4, false), (5, false), (6, false), (7, false), (8, false), (9, false), (10, false), (11, false)] (SameH _) mixed (by kernel_rfl) rfl (by kernel_rfl) (po_then (po_bp)) (sameH_now _ _) ?_ -- region 1 exec.go:161
  refine pi_ro rfl (fun w hS => ro_move rfl) ?_
  refine pi_ro rfl (fun w hS => ro_nilCheck rfl) ?_
  refine pi_ro rfl (fun w hS => ro_fieldAddr (k := 6) rfl fo_89_6) ?_
  refine pi_ro rfl (fun w hS => ro_loadB rfl sc_85 (Blk.of_heap hM hS) (m6)) ?_
  refine pi_ro rfl (fun w hS => ro_move rfl) ?_
  refine pi_ro rfl (fun w hS => ro_nilCheck rfl) ?_
  refine pi_ro rfl (fun w hS => ro_fieldAddr (k := 0) rfl fo_331_0) ?_
  refine pi_ro rfl (fun w hS => ro_loadB rfl sc_3 (Blk.of_heap hB1 hS) (frow_at q1 (by decide))) ?_
  refine pi_ro rfl (fun w hS => ro_indexAddr (et := 209) (k := 3) rfl rfl se_85 (rfl) ((by omega))) ?_
  refine pi_ro rfl (fun w hS => ro_fieldAddr (k := 2) rfl fo_209_2) ?_
  refine pi_ro rfl (fun w hS => ro_loadB rfl sc_3 (Blk.of_heap hC hS) (row_get rC (by decide))) ?_
  refine pi_ro rfl (fun w hS => ro_assign rfl) ?_
  refine pi_nil (x_then (hK2 _ _ ?_))
  clear hK2 K2
  refine c_seq (fun K3 hK3 => ?_)
  refine c_seq (fun K4 hK4 => ?_)
  refine c_reg ?_ -- region 2 exec.go:162
  refine wl (ro_move rfl) ?_
  refine wl_nil (x_then (hK4 _ _ ?_))
  clear hK4 K4
  refine c_block ?_
  refine forget [(0, _), (1, _), (2, _), (3, _), (4, _), (5, _), (13, _), (29, _)] ⟨rfl, rfl, rfl, rfl, rfl, rfl, rfl, rfl, trivial⟩ (fun e => ?_)
  refine c_seq (fun K5 hK5 => ?_)
  refine c_reg ?_ -- region 3 exec.go:163
  refine wl (ro_cmp rfl rfl rfl) ?_
  refine wl (ro_assign rfl) ?_
  refine wl_nil (x_then (hK5 _ _ ?_))
  clear hK5 K5
  refine wc_condF rfl ?_
  refine c_seq (fun K6 hK6 => ?_)
  refine c_seq (fun K7 hK7 => ?_)
  refine c_reg ?_ -- region 5 exec.go:165
  refine wl (ro_cmp rfl rfl rfl) ?_
  refine wl (ro_assign rfl) ?_
  refine wl_nil (x_then (hK7 _ _ ?_))
  clear hK7 K7
  refine wc_condF rfl ?_
  refine c_reg ?_ -- region 6 exec.go:165
  refine wl (ro_cmp rfl rfl rfl) ?_
  refine wl (ro_assign rfl) ?_
  refine wl_nil (x_then (hK6 _ _ ?_))
  clear hK6 K6
  refine wc_condT rfl ?_
  refine c_seq (fun K8 hK8 => ?_)
  refine c_pi [(0, false), (1, false), (2, false), (3, false), (4, false), (5, false), (6, false), (7, false), (8, false), (9, false), (10, false), (11, false), (12, false), (13, false), (14, false), (15, false), (16, false), (17, false), (18, false), (19, false), (20, false), (21, false), (22, false)] (SameH _) mixed (by kernel_rfl) rfl (by kernel_rfl) (po_then (po_blk (po_then (po_bp)))) (sameH_now _ _) ?_ -- region 7 exec.go:166
  refine pi_ro rfl (fun w hS => ro_move rfl) ?_
  refine pi_ro rfl (fun w hS => ro_move rfl) ?_
  refine pi_ro rfl (fun w hS => ro_nilCheck rfl) ?_
  refine pi_ro rfl (fun w hS => ro_fieldAddr (k := 5) rfl fo_258_5) ?_
  refine pi_ro rfl (fun w hS => ro_loadB rfl sc_3 (Blk.of_heap hP hS) (row_get rp (by decide))) ?_
  refine pi_ro rfl (fun w hS => ro_cmp (r := true) rfl rfl (congrArg some (decide_eq_true (by omega)))) ?_
  refine pi_ro rfl (fun w hS => ro_move rfl) ?_
  refine pi_gyes rfl rfl (fun w hS => ro_move rfl) ?_
  refine pi_gyes rfl rfl (fun w hS => ro_nilCheck rfl) ?_
  refine pi_gyes rfl rfl (fun w hS => ro_fieldAddr (k := 4) rfl fo_89_4) ?_
  refine pi_gyes rfl rfl (fun w hS => ro_loadB rfl sc_83 (Blk.of_heap hM hS) (hM4)) ?_
  refine pi_gyes rfl rfl (fun w hS => ro_move rfl) ?_
  refine pi_gyes rfl rfl (fun w hS => ro_nilCheck rfl) ?_
  refine pi_gyes rfl rfl (fun w hS => ro_fieldAddr (k := 4) rfl fo_258_4) ?_
  refine pi_gyes rfl rfl (fun w hS => ro_loadB rfl sc_3 (Blk.of_heap hP hS) (hPk)) ?_
  refine pi_gyes rfl rfl (fun w hS => ro_move rfl) ?_
  refine pi_gyes rfl rfl (fun w hS => ro_addN rfl rfl (by omega)) ?_
  refine pi_gyes rfl rfl (fun w hS => ro_indexAddr (et := 119) (k := 3) rfl rfl se_83 (rfl) ((by omega))) ?_
  refine pi_gyes rfl rfl (fun w hS => ro_fieldAddr (k := 0) rfl fo_119_0) ?_
  refine pi_gyes rfl rfl (fun w hS => ro_loadB rfl sc_3 (Blk.of_heap hK hS) (row_get hKr (by decide))) ?_
  refine pi_gyes rfl rfl (fun w hS => ro_cmp rfl rfl rfl) ?_
  refine pi_ro rfl (fun w hS => ro_pick rfl rfl rfl) ?_
  refine pi_ro rfl (fun w hS => ro_assign rfl) ?_
  refine pi_nil (x_then (hK8 _ _ ?_))
  clear hK8 K8
  refine c_ret (x_blkR (x_thenR ?_))
  refine bp_ret Tryz.results241 rfl ?_
  exact ⟨rfl, hF.thenDrew⟩
set_option maxHeartbeats 8000000 in
theorem snd_11 (E : PE C fg fc w ow a y gs g vars p ids 11 z) : Ret Tryz.prog 241 [ptr C.E.mb, tptr C a.cur, fpt fg gs.length, prt C p, u8n 11, i64c z] w (fun r w' => r = .bool true ∧ Fram none' w w') := by
  have hc := E.hc
  have hk := E.hk
  obtain ⟨V, κ, Vv, U, x, f, fs, o⟩ := E.r.open hc
  have hF : Fram none' w w := Fram.refl _ _
  have hol := E.ol
  have hnd := E.nd
  have hzz := E.hz
  obtain ⟨lT, hT, -, -, -, hT2, -⟩ := o.v.thA o.t.hx
  have hT2 := hT2 2 (.inl rfl)
  obtain ⟨lB, hB1, k1, q1, -, -⟩ := o.frow
  obtain ⟨lP, pa, pb, pc, hP, tP, rp, hups, -, -⟩ := o.v.pro E.hp
  rw [Nat.zero_add] at rp
  obtain ⟨p0, ids0, n1, n2, n3⟩ := o.ns
  obtain ⟨rfl, rfl⟩ : p = p0 ∧ ids = ids0 := by have := hk.symm.trans n1; simpa using this
  have hln := o.t.ln
  have hsl := o.sl
  obtain ⟨cs, hcs, hcl⟩ := o.clos hk
  obtain ⟨cg, cc, lC, up, e6, hC, tC, rC⟩ := o.v.clo hcs
  obtain ⟨lM, hM, m0, m1, m2, m3, m4, m5, m6, -⟩ := o.v.mbA
  rw [e6] at m6
  have hclt := (List.getElem?_eq_some_iff.1 hcs).1
  refine ret_of Tryz.func241 rfl Tryz.ntmps241 rfl ?_
  refine c_seq (fun K1 hK1 => ?_)
  refine c_reg ?_ -- region 0 exec.go:160
  refine wl (ro_assign rfl) ?_
  refine wl_nil (x_then (hK1 _ _ ?_))
  clear hK1 K1
  refine forget [(0, _), (1, _), (2, _), (3, _), (4, _), (5, _)] ⟨rfl, rfl, rfl, rfl, rfl, rfl, trivial⟩ (fun e => ?_)
  refine c_seq (fun K2 hK2 => ?_)
  refine c_pi [(0, false), (1, false), (2, false), (3, false), (4, false), (5, false), (6, false), (7, false), (8, false), (9, false), (10, false), (11, false)] (SameH _) mixed (by kernel_rfl) rfl (by kernel_rfl) (po_then (po_bp)) (sameH_now _ _) ?_ -- region 1 exec.go:161
  refine pi_ro rfl (fun w hS => ro_move rfl) ?_
  refine pi_ro rfl (fun w hS => ro_nilCheck rfl) ?_
  refine pi_ro rfl (fun w hS => ro_fieldAddr (k := 6) rfl fo_89_6) ?_
  refine pi_ro rfl (fun w hS => ro_loadB rfl sc_85 (Blk.of_heap hM hS) (m6)) ?_
  refine pi_ro rfl (fun w hS => ro_move rfl) ?_
  refine pi_ro rfl (fun w hS => ro_nilCheck rfl) ?_
  refine pi_ro rfl (fun w hS => ro_fieldAddr (k := 0) rfl fo_331_0) ?_
  refine pi_ro rfl (fun w hS => ro_loadB rfl sc_3 (Blk.of_heap hB1 hS) (frow_at q1 (by decide))) ?_
  refine pi_ro rfl (fun w hS => ro_indexAddr (et := 209) (k := 3) rfl rfl se_85 (rfl) ((by omega))) ?_
  refine pi_ro rfl (fun w hS => ro_fieldAddr (k := 2) rfl fo_209_2) ?_
  refine pi_ro rfl (fun w hS => ro_loadB rfl sc_3 (Blk.of_heap hC hS) (row_get rC (by decide))) ?_
  refine pi_ro rfl (fun w hS => ro_assign rfl) ?_
  refine pi_nil (x_then (hK2 _ _ ?_))
  clear hK2 K2
  refine c_seq (fun K3 hK3 => ?_)
  refine c_seq (fun K4 hK4 => ?_)
  refine c_reg ?_ -- region 2 exec.go:162
  refine wl (ro_move rfl) ?_
  refine wl_nil (x_then (hK4 _ _ ?_))
  clear hK4 K4
  refine c_block ?_
  refine forget [(0, _), (1, _), (2, _), (3, _), (4, _), (5, _), (13, _), (29, _)] ⟨rfl, rfl, rfl, rfl, rfl, rfl, rfl, rfl, trivial⟩ (fun e => ?_)
  refine c_seq (fun K5 hK5 => ?_)
  refine c_reg ?_ -- region 3 exec.go:163
  refine wl (ro_cmp rfl rfl rfl) ?_
  refine wl (ro_assign rfl) ?_
  refine wl_nil (x_then (hK5 _ _ ?_))
  clear hK5 K5
  refine wc_condF rfl ?_
  refine c_seq (fun K6 hK6 => ?_)
  refine c_seq (fun K7 hK7 => ?_)
  refine c_reg ?_ -- region 5 exec.go:165
  refine wl (ro_cmp rfl rfl rfl) ?_
  refine wl (ro_assign rfl) ?_
  refine wl_nil (x_then (hK7 _ _ ?_))
  clear hK7 K7
  refine wc_condF rfl ?_
  refine c_reg ?_ -- region 6 exec.go:165
  refine wl (ro_cmp rfl rfl rfl) ?_
  refine wl (ro_assign rfl) ?_
  refine wl_nil (x_then (hK6 _ _ ?_))
  clear hK6 K6
  refine wc_condF rfl ?_
  refine c_seq (fun K8 hK8 => ?_)
  refine c_seq (fun K9 hK9 => ?_)
  refine c_reg ?_ -- region 8 exec.go:167
  refine wl (ro_cmp rfl rfl rfl) ?_
  refine wl (ro_assign rfl) ?_
  refine wl_nil (x_then (hK9 _ _ ?_))
  clear hK9 K9
  refine wc_condF rfl ?_
  refine c_reg ?_ -- region 9 exec.go:167
  refine wl (ro_cmp rfl rfl rfl) ?_
  refine wl (ro_assign rfl) ?_
  refine wl_nil (x_then (hK8 _ _ ?_))
  clear hK8 K8
  refine wc_condF rfl ?_
  refine c_seq (fun K10 hK10 => ?_)
  refine c_seq (fun K11 hK11 => ?_)
  refine c_reg ?_ -- region 11 exec.go:169
  refine wl (ro_cmp rfl rfl rfl) ?_
  refine wl (ro_assign rfl) ?_
  refine wl_nil (x_then (hK11 _ _ ?_))
  clear hK11 K11
  refine wc_condF rfl ?_
  refine c_reg ?_ -- region 12 exec.go:169
  refine wl (ro_cmp rfl rfl rfl) ?_
  refine wl (ro_assign rfl) ?_
  refine wl_nil (x_then (hK10 _ _ ?_))
  clear hK10 K10
  refine wc_condF rfl ?_
  refine c_seq (fun K12 hK12 => ?_)
  refine c_reg ?_ -- region 14 exec.go:171
  refine wl (ro_cmp rfl rfl rfl) ?_
  refine wl (ro_assign rfl) ?_
  refine wl_nil (x_then (hK12 _ _ ?_))
  clear hK12 K12
  refine wc_condF rfl ?_
  refine c_seq (fun K13 hK13 => ?_)
  refine c_reg ?_ -- region 16 exec.go:173
  refine wl (ro_cmp rfl rfl rfl) ?_
  refine wl (ro_assign rfl) ?_
  refine wl_nil (x_then (hK13 _ _ ?_))
  clear hK13 K13
  refine wc_condF rfl ?_
  refine c_seq (fun K14 hK14 => ?_)
  refine c_seq (fun K15 hK15 => ?_)
  refine c_reg ?_ -- region 18 exec.go:175
  refine wl (ro_cmp rfl rfl rfl) ?_
  refine wl (ro_assign rfl) ?_
  refine wl_nil (x_then (hK15 _ _ ?_))
  clear hK15 K15
  refine wc_condF rfl ?_
  refine c_seq (fun K16 hK16 => ?_)
  refine c_reg ?_ -- region 19 exec.go:175
  refine wl (ro_cmp rfl rfl rfl) ?_
  refine wl (ro_assign rfl) ?_
  refine wl_nil (x_then (hK16 _ _ ?_))
  clear hK16 K16
  refine wc_condF rfl ?_
  refine c_seq (fun K17 hK17 => ?_)
  refine c_reg ?_ -- region 20 exec.go:175
  refine wl (ro_cmp rfl rfl rfl) ?_
  refine wl (ro_assign rfl) ?_
  refine wl_nil (x_then (hK17 _ _ ?_))
  clear hK17 K17
  refine wc_condF rfl ?_
  refine c_reg ?_ -- region 21 exec.go:175
  refine wl (ro_cmp rfl rfl rfl) ?_
  refine wl (ro_assign rfl) ?_
  refine wl_nil (x_then (hK14 _ _ ?_))
  clear hK14 K14
  refine wc_condF rfl ?_
  refine c_seq (fun K18 hK18 => ?_)
  refine c_reg ?_ -- region 23 exec.go:177
  refine wl (ro_cmp rfl rfl rfl) ?_
  refine wl (ro_assign rfl) ?_
  refine wl_nil (x_then (hK18 _ _ ?_))
  clear hK18 K18
  refine wc_condF rfl ?_
  refine c_seq (fun K19 hK19 => ?_)
  refine c_reg ?_ -- region 25 exec.go:179
  refine wl (ro_cmp rfl rfl rfl) ?_
  refine wl (ro_assign rfl) ?_
  refine wl_nil (x_then (hK19 _ _ ?_))
  clear hK19 K19
  refine wc_condF rfl ?_
  refine c_seq (fun K20 hK20 => ?_)
  refine c_seq (fun K21 hK21 => ?_)
  refine c_reg ?_ -- region 27 exec.go:181
  refine wl (ro_cmp rfl rfl rfl) ?_
  refine wl (ro_assign rfl) ?_
  refine wl_nil (x_then (hK21 _ _ ?_))
  clear hK21 K21
  refine wc_condF rfl ?_
  refine c_reg ?_ -- region 28 exec.go:181
  refine wl (ro_cmp rfl rfl rfl) ?_
  refine wl (ro_assign rfl) ?_
  refine wl_nil (x_then (hK20 _ _ ?_))
  clear hK20 K20
  refine wc_condF rfl ?_
  refine c_seq (fun K22 hK22 => ?_)
  refine c_reg ?_ -- region 30 exec.go:183
  refine wl (ro_cmp rfl rfl rfl) ?_
  refine wl (ro_assign rfl) ?_
  refine wl_nil (x_then (hK22 _ _ ?_))
  clear hK22 K22
  refine wc_condF rfl ?_
  refine c_seq (fun K23 hK23 => ?_)
  refine c_reg ?_ -- region 35 exec.go:189
  refine wl (ro_cmp rfl rfl rfl) ?_
  refine wl (ro_assign rfl) ?_
  refine wl_nil (x_then (hK23 _ _ ?_))
  clear hK23 K23
  refine wc_condF rfl ?_
  refine c_skip (x_blk (x_then (hK3 _ _ ?_)))
  clear hK3 K3
  refine forget [(4, _)] ⟨rfl, trivial⟩ (fun e => ?_)
  refine c_seq (fun K24 hK24 => ?_)
  refine c_reg ?_ -- region 46 exec.go:201
  refine wl (ro_move rfl) ?_
  refine wl (ro_cmp (r := true) rfl rfl (congrArg some (decide_eq_true (by omega)))) ?_
  refine wl (ro_move rfl) ?_
  refine wlg_yes rfl (ro_move rfl) ?_
  refine wlg_yes rfl (ro_cmp (r := true) rfl rfl (congrArg some (decide_eq_true (by omega)))) ?_
  refine wl (ro_pick rfl rfl rfl) ?_
  refine wl (ro_assign rfl) ?_
  refine wl_nil (x_then (hK24 _ _ ?_))
  clear hK24 K24
  refine c_ret ?_
  refine bp_ret Tryz.results241 rfl ?_
  exact ⟨rfl, hF.thenDrew⟩
set_option maxHeartbeats 8000000 in
theorem snd_12 (E : PE C fg fc w ow a y gs g vars p ids 12 z) : Ret Tryz.prog 241 [ptr C.E.mb, tptr C a.cur, fpt fg gs.length, prt C p, u8n 12, i64c z] w (fun r w' => r = .bool true ∧ Fram none' w w') := by
  have hc := E.hc
  have hk := E.hk
  obtain ⟨V, κ, Vv, U, x, f, fs, o⟩ := E.r.open hc
  have hF : Fram none' w w := Fram.refl _ _
  have hol := E.ol
  have hnd := E.nd
  have hzz := E.hz
  obtain ⟨lT, hT, -, -, -, hT2, -⟩ := o.v.thA o.t.hx
  have hT2 := hT2 2 (.inl rfl)
  obtain ⟨lB, hB1, k1, q1, -, -⟩ := o.frow
  obtain ⟨lP, pa, pb, pc, hP, tP, rp, hups, -, -⟩ := o.v.pro E.hp
  rw [Nat.zero_add] at rp
  obtain ⟨p0, ids0, n1, n2, n3⟩ := o.ns
  obtain ⟨rfl, rfl⟩ : p = p0 ∧ ids = ids0 := by have := hk.symm.trans n1; simpa using this
  have hln := o.t.ln
  have hsl := o.sl
  obtain ⟨cs, hcs, hcl⟩ := o.clos hk
  obtain ⟨cg, cc, lC, up, e6, hC, tC, rC⟩ := o.v.clo hcs
  obtain ⟨lM, hM, m0, m1, m2, m3, m4, m5, m6, -⟩ := o.v.mbA
  rw [e6] at m6
  have hclt := (List.getElem?_eq_some_iff.1 hcs).1
  refine ret_of Tryz.func241 rfl Tryz.ntmps241 rfl ?_
  refine c_seq (fun K1 hK1 => ?_)
  refine c_reg ?_ -- region 0 exec.go:160
  refine wl (ro_assign rfl) ?_
  refine wl_nil (x_then (hK1 _ _ ?_))
  clear hK1 K1
  refine forget [(0, _), (1, _), (2, _), (3, _), (4, _), (5, _)] ⟨rfl, rfl, rfl, rfl, rfl, rfl, trivial⟩ (fun e => ?_)
  refine c_seq (fun K2 hK2 => ?_)
  refine c_pi [(0, false), (1, false), (2, false), (3, false), (4, false), (5, false), (6, false), (7, false), (8, false), (9, false), (10, false), (11, false)] (SameH _) mixed (by kernel_rfl) rfl (by kernel_rfl) (po_then (po_bp)) (sameH_now _ _) ?_ -- region 1 exec.go:161
  refine pi_ro rfl (fun w hS => ro_move rfl) ?_
  refine pi_ro rfl (fun w hS => ro_nilCheck rfl) ?_
  refine pi_ro rfl (fun w hS => ro_fieldAddr (k := 6) rfl fo_89_6) ?_
  refine pi_ro rfl (fun w hS => ro_loadB rfl sc_85 (Blk.of_heap hM hS) (m6)) ?_
  refine pi_ro rfl (fun w hS => ro_move rfl) ?_
  refine pi_ro rfl (fun w hS => ro_nilCheck rfl) ?_
  refine pi_ro rfl (fun w hS => ro_fieldAddr (k := 0) rfl fo_331_0) ?_
  refine pi_ro rfl (fun w hS => ro_loadB rfl sc_3 (Blk.of_heap hB1 hS) (frow_at q1 (by decide))) ?_
  refine pi_ro rfl (fun w hS => ro_indexAddr (et := 209) (k := 3) rfl rfl se_85 (rfl) ((by omega))) ?_
  refine pi_ro rfl (fun w hS => ro_fieldAddr (k := 2) rfl fo_209_2) ?_
  refine pi_ro rfl (fun w hS => ro_loadB rfl sc_3 (Blk.of_heap hC hS) (row_get rC (by decide))) ?_
  refine pi_ro rfl (fun w hS => ro_assign rfl) ?_
  refine pi_nil (x_then (hK2 _ _ ?_))
  clear hK2 K2
  refine c_seq (fun K3 hK3 => ?_)
  refine c_seq (fun K4 hK4 => ?_)
  refine c_reg ?_ -- region 2 exec.go:162
  refine wl (ro_move rfl) ?_
  refine wl_nil (x_then (hK4 _ _ ?_))
  clear hK4 K4
  refine c_block ?_
  refine forget [(0, _), (1, _), (2, _), (3, _), (4, _), (5, _), (13, _), (29, _)] ⟨rfl, rfl, rfl, rfl, rfl, rfl, rfl, rfl, trivial⟩ (fun e => ?_)
  refine c_seq (fun K5 hK5 => ?_)
  refine c_reg ?_ -- region 3 exec.go:163
  refine wl (ro_cmp rfl rfl rfl) ?_
  refine wl (ro_assign rfl) ?_
  refine wl_nil (x_then (hK5 _ _ ?_))
  clear hK5 K5
  refine wc_condF rfl ?_
  refine c_seq (fun K6 hK6 => ?_)
  refine c_seq (fun K7 hK7 => ?_)
  refine c_reg ?_ -- region 5 exec.go:165
  refine wl (ro_cmp rfl rfl rfl) ?_
  refine wl (ro_assign rfl) ?_
  refine wl_nil (x_then (hK7 _ _ ?_))
  clear hK7 K7
  refine wc_condF rfl ?_
  refine c_reg ?_ -- region 6 exec.go:165
  refine wl (ro_cmp rfl rfl rfl) ?_
  refine wl (ro_assign rfl) ?_
  refine wl_nil (x_then (hK6 _ _ ?_))
  clear hK6 K6
  refine wc_condF rfl ?_
  refine c_seq (fun K8 hK8 => ?_)
  refine c_seq (fun K9 hK9 => ?_)
  refine c_reg ?_ -- region 8 exec.go:167
  refine wl (ro_cmp rfl rfl rfl) ?_
  refine wl (ro_assign rfl) ?_
  refine wl_nil (x_then (hK9 _ _ ?_))
  clear hK9 K9
  refine wc_condF rfl ?_
  refine c_reg ?_ -- region 9 exec.go:167
  refine wl (ro_cmp rfl rfl rfl) ?_
  refine wl (ro_assign rfl) ?_
  refine wl_nil (x_then (hK8 _ _ ?_))
  clear hK8 K8
  refine wc_condF rfl ?_
  refine c_seq (fun K10 hK10 => ?_)
  refine c_seq (fun K11 hK11 => ?_)
  refine c_reg ?_ -- region 11 exec.go:169
  refine wl (ro_cmp rfl rfl rfl) ?_
  refine wl (ro_assign rfl) ?_
  refine wl_nil (x_then (hK11 _ _ ?_))
  clear hK11 K11
  refine wc_condF rfl ?_
  refine c_reg ?_ -- region 12 exec.go:169
  refine wl (ro_cmp rfl rfl rfl) ?_
  refine wl (ro_assign rfl) ?_
  refine wl_nil (x_then (hK10 _ _ ?_))
  clear hK10 K10
  refine wc_condF rfl ?_
  refine c_seq (fun K12 hK12 => ?_)
  refine c_reg ?_ -- region 14 exec.go:171
  refine wl (ro_cmp rfl rfl rfl) ?_
  refine wl (ro_assign rfl) ?_
  refine wl_nil (x_then (hK12 _ _ ?_))
  clear hK12 K12
  refine wc_condF rfl ?_
  refine c_seq (fun K13 hK13 => ?_)
  refine c_reg ?_ -- region 16 exec.go:173
  refine wl (ro_cmp rfl rfl rfl) ?_
  refine wl (ro_assign rfl) ?_
  refine wl_nil (x_then (hK13 _ _ ?_))
  clear hK13 K13
  refine wc_condF rfl ?_
  refine c_seq (fun K14 hK14 => ?_)
  refine c_seq (fun K15 hK15 => ?_)
  refine c_reg ?_ -- region 18 exec.go:175
  refine wl (ro_cmp rfl rfl rfl) ?_
  refine wl (ro_assign rfl) ?_
  refine wl_nil (x_then (hK15 _ _ ?_))
  clear hK15 K15
  refine wc_condF rfl ?_
  refine c_seq (fun K16 hK16 => ?_)
  refine c_reg ?_ -- region 19 exec.go:175
  refine wl (ro_cmp rfl rfl rfl) ?_
  refine wl (ro_assign rfl) ?_
  refine wl_nil (x_then (hK16 _ _ ?_))
  clear hK16 K16
  refine wc_condF rfl ?_
  refine c_seq (fun K17 hK17 => ?_)
  refine c_reg ?_ -- region 20 exec.go:175
  refine wl (ro_cmp rfl rfl rfl) ?_
  refine wl (ro_assign rfl) ?_
  refine wl_nil (x_then (hK17 _ _ ?_))
  clear hK17 K17
  refine wc_condF rfl ?_
  refine c_reg ?_ -- region 21 exec.go:175
  refine wl (ro_cmp rfl rfl rfl) ?_
  refine wl (ro_assign rfl) ?_
  refine wl_nil (x_then (hK14 _ _ ?_))
  clear hK14 K14
  refine wc_condF rfl ?_
  refine c_seq (fun K18 hK18 => ?_)
  refine c_reg ?_ -- region 23 exec.go:177
  refine wl (ro_cmp rfl rfl rfl) ?_
  refine wl (ro_assign rfl) ?_
  refine wl_nil (x_then (hK18 _ _ ?_))
  clear hK18 K18
  refine wc_condF rfl ?_
  refine c_seq (fun K19 hK19 => ?_)
  refine c_reg ?_ -- region 25 exec.go:179
  refine wl (ro_cmp rfl rfl rfl) ?_
  refine wl (ro_assign rfl) ?_
  refine wl_nil (x_then (hK19 _ _ ?_))
  clear hK19 K19
  refine wc_condF rfl ?_
  refine c_seq (fun K20 hK20 => ?_)
  refine c_seq (fun K21 hK21 => ?_)
  refine c_reg ?_ -- region 27 exec.go:181
  refine wl (ro_cmp rfl rfl rfl) ?_
  refine wl (ro_assign rfl) ?_
  refine wl_nil (x_then (hK21 _ _ ?_))
  clear hK21 K21
  refine wc_condF rfl ?_
  refine c_reg ?_ -- region 28 exec.go:181
  refine wl (ro_cmp rfl rfl rfl) ?_
  refine wl (ro_assign rfl) ?_
  refine wl_nil (x_then (hK20 _ _ ?_))
  clear hK20 K20
  refine wc_condF rfl ?_
  refine c_seq (fun K22 hK22 => ?_)
  refine c_reg ?_ -- region 30 exec.go:183
  refine wl (ro_cmp rfl rfl rfl) ?_
  refine wl (ro_assign rfl) ?_
  refine wl_nil (x_then (hK22 _ _ ?_))
  clear hK22 K22
  refine wc_condF rfl ?_
  refine c_seq (fun K23 hK23 => ?_)
  refine c_reg ?_ -- region 35 exec.go:189
  refine wl (ro_cmp rfl rfl rfl) ?_
  refine wl (ro_assign rfl) ?_
  refine wl_nil (x_then (hK23 _ _ ?_))
  clear hK23 K23
  refine wc_condF rfl ?_
  refine c_skip (x_blk (x_then (hK3 _ _ ?_)))
  clear hK3 K3
  refine forget [(4, _)] ⟨rfl, trivial⟩ (fun e => ?_)
  refine c_seq (fun K24 hK24 => ?_)
  refine c_reg ?_ -- region 46 exec.go:201
  refine wl (ro_move rfl) ?_
  refine wl (ro_cmp (r := true) rfl rfl (congrArg some (decide_eq_true (by omega)))) ?_
  refine wl (ro_move rfl) ?_
  refine wlg_yes rfl (ro_move rfl) ?_
  refine wlg_yes rfl (ro_cmp (r := true) rfl rfl (congrArg some (decide_eq_true (by omega)))) ?_
  refine wl (ro_pick rfl rfl rfl) ?_
  refine wl (ro_assign rfl) ?_
  refine wl_nil (x_then (hK24 _ _ ?_))
  clear hK24 K24
  refine c_ret ?_
  refine bp_ret Tryz.results241 rfl ?_
  exact ⟨rfl, hF.thenDrew⟩
set_option maxHeartbeats 8000000 in
theorem snd_13 (E : PE C fg fc w ow a y gs g vars p ids 13 z) : Ret Tryz.prog 241 [ptr C.E.mb, tptr C a.cur, fpt fg gs.length, prt C p, u8n 13, i64c z] w (fun r w' => r = .bool true ∧ Fram none' w w') := by
  have hc := E.hc
  have hk := E.hk
  obtain ⟨V, κ, Vv, U, x, f, fs, o⟩ := E.r.open hc
  have hF : Fram none' w w := Fram.refl _ _
  have hol := E.ol
  have hnd := E.nd
  have hzz := E.hz
  obtain ⟨lT, hT, -, -, -, hT2, -⟩ := o.v.thA o.t.hx
  have hT2 := hT2 2 (.inl rfl)
  obtain ⟨lB, hB1, k1, q1, -, -⟩ := o.frow
  obtain ⟨lP, pa, pb, pc, hP, tP, rp, hups, -, -⟩ := o.v.pro E.hp
  rw [Nat.zero_add] at rp
  obtain ⟨p0, ids0, n1, n2, n3⟩ := o.ns
  obtain ⟨rfl, rfl⟩ : p = p0 ∧ ids = ids0 := by have := hk.symm.trans n1; simpa using this
  have hln := o.t.ln
  have hsl := o.sl
  obtain ⟨cs, hcs, hcl⟩ := o.clos hk
  obtain ⟨cg, cc, lC, up, e6, hC, tC, rC⟩ := o.v.clo hcs
  obtain ⟨lM, hM, m0, m1, m2, m3, m4, m5, m6, -⟩ := o.v.mbA
  rw [e6] at m6
  have hclt := (List.getElem?_eq_some_iff.1 hcs).1
  refine ret_of Tryz.func241 rfl Tryz.ntmps241 rfl ?_
  refine c_seq (fun K1 hK1 => ?_)
  refine c_reg ?_ -- region 0 exec.go:160
  refine wl (ro_assign rfl) ?_
  refine wl_nil (x_then (hK1 _ _ ?_))
  clear hK1 K1
  refine forget [(0, _), (1, _), (2, _), (3, _), (4, _), (5, _)] ⟨rfl, rfl, rfl, rfl, rfl, rfl, trivial⟩ (fun e => ?_)
  refine c_seq (fun K2 hK2 => ?_)
  refine c_pi [(0, false), (1, false), (2, false), (3, false), (4, false), (5, false), (6, false), (7, false), (8, false), (9, false), (10, false), (11, false)] (SameH _) mixed (by kernel_rfl) rfl (by kernel_rfl) (po_then (po_bp)) (sameH_now _ _) ?_ -- region 1 exec.go:161
  refine pi_ro rfl (fun w hS => ro_move rfl) ?_
  refine pi_ro rfl (fun w hS => ro_nilCheck rfl) ?_
  refine pi_ro rfl (fun w hS => ro_fieldAddr (k := 6) rfl fo_89_6) ?_
  refine pi_ro rfl (fun w hS => ro_loadB rfl sc_85 (Blk.of_heap hM hS) (m6)) ?_
  refine pi_ro rfl (fun w hS => ro_move rfl) ?_
  refine pi_ro rfl (fun w hS => ro_nilCheck rfl) ?_
  refine pi_ro rfl (fun w hS => ro_fieldAddr (k := 0) rfl fo_331_0) ?_
  refine pi_ro rfl (fun w hS => ro_loadB rfl sc_3 (Blk.of_heap hB1 hS) (frow_at q1 (by decide))) ?_
  refine pi_ro rfl (fun w hS => ro_indexAddr (et := 209) (k := 3) rfl rfl se_85 (rfl) ((by omega))) ?_
  refine pi_ro rfl (fun w hS => ro_fieldAddr (k := 2) rfl fo_209_2) ?_
  refine pi_ro rfl (fun w hS => ro_loadB rfl sc_3 (Blk.of_heap hC hS) (row_get rC (by decide))) ?_
  refine pi_ro rfl (fun w hS => ro_assign rfl) ?_
  refine pi_nil (x_then (hK2 _ _ ?_))
  clear hK2 K2
  refine c_seq (fun K3 hK3 => ?_)
  refine c_seq (fun K4 hK4 => ?_)
  refine c_reg ?_ -- region 2 exec.go:162
  refine wl (ro_move rfl) ?_
  refine wl_nil (x_then (hK4 _ _ ?_))
  clear hK4 K4
  refine c_block ?_
  refine forget [(0, _), (1, _), (2, _), (3, _), (4, _), (5, _), (13, _), (29, _)] ⟨rfl, rfl, rfl, rfl, rfl, rfl, rfl, rfl, trivial⟩ (fun e => ?_)
  refine c_seq (fun K5 hK5 => ?_)
  refine c_reg ?_ -- region 3 exec.go:163
  refine wl (ro_cmp rfl rfl rfl) ?_
  refine wl (ro_assign rfl) ?_
  refine wl_nil (x_then (hK5 _ _ ?_))
  clear hK5 K5
  refine wc_condF rfl ?_
  refine c_seq (fun K6 hK6 => ?_)
  refine c_seq (fun K7 hK7 => ?_)
  refine c_reg ?_ -- region 5 exec.go:165
  refine wl (ro_cmp rfl rfl rfl) ?_
  refine wl (ro_assign rfl) ?_
  refine wl_nil (x_then (hK7 _ _ ?_))
  clear hK7 K7
  refine wc_condF rfl ?_
  refine c_reg ?_ -- region 6 exec.go:165
  refine wl (ro_cmp rfl rfl rfl) ?_
  refine wl (ro_assign rfl) ?_
  refine wl_nil (x_then (hK6 _ _ ?_))
  clear hK6 K6
  refine wc_condF rfl ?_
  refine c_seq (fun K8 hK8 => ?_)
  refine c_seq (fun K9 hK9 => ?_)
  refine c_reg ?_ -- region 8 exec.go:167
  refine wl (ro_cmp rfl rfl rfl) ?_
  refine wl (ro_assign rfl) ?_
  refine wl_nil (x_then (hK9 _ _ ?_))
  clear hK9 K9
  refine wc_condF rfl ?_
  refine c_reg ?_ -- region 9 exec.go:167
  refine wl (ro_cmp rfl rfl rfl) ?_
  refine wl (ro_assign rfl) ?_
  refine wl_nil (x_then (hK8 _ _ ?_))
  clear hK8 K8
  refine wc_condF rfl ?_
  refine c_seq (fun K10 hK10 => ?_)
  refine c_seq (fun K11 hK11 => ?_)
  refine c_reg ?_ -- region 11 exec.go:169
  refine wl (ro_cmp rfl rfl rfl) ?_
  refine wl (ro_assign rfl) ?_
  refine wl_nil (x_then (hK11 _ _ ?_))
  clear hK11 K11
  refine wc_condF rfl ?_
  refine c_reg ?_ -- region 12 exec.go:169
  refine wl (ro_cmp rfl rfl rfl) ?_
  refine wl (ro_assign rfl) ?_
  refine wl_nil (x_then (hK10 _ _ ?_))
  clear hK10 K10
  refine wc_condF rfl ?_
  refine c_seq (fun K12 hK12 => ?_)
  refine c_reg ?_ -- region 14 exec.go:171
  refine wl (ro_cmp rfl rfl rfl) ?_
  refine wl (ro_assign rfl) ?_
  refine wl_nil (x_then (hK12 _ _ ?_))
  clear hK12 K12
  refine wc_condF rfl ?_
  refine c_seq (fun K13 hK13 => ?_)
  refine c_reg ?_ -- region 16 exec.go:173
  refine wl (ro_cmp rfl rfl rfl) ?_
  refine wl (ro_assign rfl) ?_
  refine wl_nil (x_then (hK13 _ _ ?_))
  clear hK13 K13
  refine wc_condF rfl ?_
  refine c_seq (fun K14 hK14 => ?_)
  refine c_seq (fun K15 hK15 => ?_)
  refine c_reg ?_ -- region 18 exec.go:175
  refine wl (ro_cmp rfl rfl rfl) ?_
  refine wl (ro_assign rfl) ?_
  refine wl_nil (x_then (hK15 _ _ ?_))
  clear hK15 K15
  refine wc_condF rfl ?_
  refine c_seq (fun K16 hK16 => ?_)
  refine c_reg ?_ -- region 19 exec.go:175
  refine wl (ro_cmp rfl rfl rfl) ?_
  refine wl (ro_assign rfl) ?_
  refine wl_nil (x_then (hK16 _ _ ?_))
  clear hK16 K16
  refine wc_condF rfl ?_
  refine c_seq (fun K17 hK17 => ?_)
  refine c_reg ?_ -- region 20 exec.go:175
  refine wl (ro_cmp rfl rfl rfl) ?_
  refine wl (ro_assign rfl) ?_
  refine wl_nil (x_then (hK17 _ _ ?_))
  clear hK17 K17
  refine wc_condF rfl ?_
  refine c_reg ?_ -- region 21 exec.go:175
  refine wl (ro_cmp rfl rfl rfl) ?_
  refine wl (ro_assign rfl) ?_
  refine wl_nil (x_then (hK14 _ _ ?_))
  clear hK14 K14
  refine wc_condF rfl ?_
  refine c_seq (fun K18 hK18 => ?_)
  refine c_reg ?_ -- region 23 exec.go:177
  refine wl (ro_cmp rfl rfl rfl) ?_
  refine wl (ro_assign rfl) ?_
  refine wl_nil (x_then (hK18 _ _ ?_))
  clear hK18 K18
  refine wc_condF rfl ?_
  refine c_seq (fun K19 hK19 => ?_)
  refine c_reg ?_ -- region 25 exec.go:179
  refine wl (ro_cmp rfl rfl rfl) ?_
  refine wl (ro_assign rfl) ?_
  refine wl_nil (x_then (hK19 _ _ ?_))
  clear hK19 K19
  refine wc_condF rfl ?_
  refine c_seq (fun K20 hK20 => ?_)
  refine c_seq (fun K21 hK21 => ?_)
  refine c_reg ?_ -- region 27 exec.go:181
  refine wl (ro_cmp rfl rfl rfl) ?_
  refine wl (ro_assign rfl) ?_
  refine wl_nil (x_then (hK21 _ _ ?_))
  clear hK21 K21
  refine wc_condF rfl ?_
  refine c_reg ?_ -- region 28 exec.go:181
  refine wl (ro_cmp rfl rfl rfl) ?_
  refine wl (ro_assign rfl) ?_
  refine wl_nil (x_then (hK20 _ _ ?_))
  clear hK20 K20
  refine wc_condF rfl ?_
  refine c_seq (fun K22 hK22 => ?_)
  refine c_reg ?_ -- region 30 exec.go:183
  refine wl (ro_cmp rfl rfl rfl) ?_
  refine wl (ro_assign rfl) ?_
  refine wl_nil (x_then (hK22 _ _ ?_))
  clear hK22 K22
  refine wc_condF rfl ?_
  refine c_seq (fun K23 hK23 => ?_)
  refine c_reg ?_ -- region 35 exec.go:189
  refine wl (ro_cmp rfl rfl rfl) ?_
  refine wl (ro_assign rfl) ?_
  refine wl_nil (x_then (hK23 _ _ ?_))
  clear hK23 K23
  refine wc_condF rfl ?_
  refine c_skip (x_blk (x_then (hK3 _ _ ?_)))
  clear hK3 K3
  refine forget [(4, _)] ⟨rfl, trivial⟩ (fun e => ?_)
  refine c_seq (fun K24 hK24 => ?_)
  refine c_reg ?_ -- region 46 exec.go:201
  refine wl (ro_move rfl) ?_
  refine wl (ro_cmp (r := true) rfl rfl (congrArg some (decide_eq_true (by omega)))) ?_
  refine wl (ro_move rfl) ?_
  refine wlg_yes rfl (ro_move rfl) ?_
  refine wlg_yes rfl (ro_cmp (r := true) rfl rfl (congrArg some (decide_eq_true (by omega)))) ?_
  refine wl (ro_pick rfl rfl rfl) ?_
  refine wl (ro_assign rfl) ?_
  refine wl_nil (x_then (hK24 _ _ ?_))
  clear hK24 K24
  refine c_ret ?_
  refine bp_ret Tryz.results241 rfl ?_
  exact ⟨rfl, hF.thenDrew⟩
set_option maxHeartbeats 8000000 in
theorem snd_14 (E : PE C fg fc w ow a y gs g vars p ids 14 z) : Ret Tryz.prog 241 [ptr C.E.mb, tptr C a.cur, fpt fg gs.length, prt C p, u8n 14, i64c z] w (fun r w' => r = .bool true ∧ Fram none' w w') := by
  have hc := E.hc
  have hk := E.hk
  obtain ⟨V, κ, Vv, U, x, f, fs, o⟩ := E.r.open hc
  have hF : Fram none' w w := Fram.refl _ _
  have hol := E.ol
  have hnd := E.nd
  have hzz := E.hz
  obtain ⟨lT, hT, -, -, -, hT2, -⟩ := o.v.thA o.t.hx
  have hT2 := hT2 2 (.inl rfl)
  obtain ⟨lB, hB1, k1, q1, -, -⟩ := o.frow
  obtain ⟨lP, pa, pb, pc, hP, tP, rp, hups, -, -⟩ := o.v.pro E.hp
  rw [Nat.zero_add] at rp
  obtain ⟨p0, ids0, n1, n2, n3⟩ := o.ns
  obtain ⟨rfl, rfl⟩ : p = p0 ∧ ids = ids0 := by have := hk.symm.trans n1; simpa using this
  have hln := o.t.ln
  have hsl := o.sl
  obtain ⟨cs, hcs, hcl⟩ := o.clos hk
  obtain ⟨cg, cc, lC, up, e6, hC, tC, rC⟩ := o.v.clo hcs
  obtain ⟨lM, hM, m0, m1, m2, m3, m4, m5, m6, -⟩ := o.v.mbA
  rw [e6] at m6
  have hclt := (List.getElem?_eq_some_iff.1 hcs).1
  refine ret_of Tryz.func241 rfl Tryz.ntmps241 rfl ?_
  refine c_seq (fun K1 hK1 => ?_)
  refine c_reg ?_ -- region 0 exec.go:160
  refine wl (ro_assign rfl) ?_
  refine wl_nil (x_then (hK1 _ _ ?_))
  clear hK1 K1
  refine forget [(0, _), (1, _), (2, _), (3, _), (4, _), (5, _)] ⟨rfl, rfl, rfl, rfl, rfl, rfl, trivial⟩ (fun e => ?_)
  refine c_seq (fun K2 hK2 => ?_)
  refine c_pi [(0, false), (1, false), (2, false), (3, false), (4, false), (5, false), (6, false), (7, false), (8, false), (9, false), (10, false), (11, false)] (SameH _) mixed (by kernel_rfl) rfl (by kernel_rfl) (po_then (po_bp)) (sameH_now _ _) ?_ -- region 1 exec.go:161
  refine pi_ro rfl (fun w hS => ro_move rfl) ?_
  refine pi_ro rfl (fun w hS => ro_nilCheck rfl) ?_
  refine pi_ro rfl (fun w hS => ro_fieldAddr (k := 6) rfl fo_89_6) ?_
  refine pi_ro rfl (fun w hS => ro_loadB rfl sc_85 (Blk.of_heap hM hS) (m6)) ?_
  refine pi_ro rfl (fun w hS => ro_move rfl) ?_
  refine pi_ro rfl (fun w hS => ro_nilCheck rfl) ?_
  refine pi_ro rfl (fun w hS => ro_fieldAddr (k := 0) rfl fo_331_0) ?_
  refine pi_ro rfl (fun w hS => ro_loadB rfl sc_3 (Blk.of_heap hB1 hS) (frow_at q1 (by decide))) ?_
  refine pi_ro rfl (fun w hS => ro_indexAddr (et := 209) (k := 3) rfl rfl se_85 (rfl) ((by omega))) ?_
  refine pi_ro rfl (fun w hS => ro_fieldAddr (k := 2) rfl fo_209_2) ?_
  refine pi_ro rfl (fun w hS => ro_loadB rfl sc_3 (Blk.of_heap hC hS) (row_get rC (by decide))) ?_
  refine pi_ro rfl (fun w hS => ro_assign rfl) ?_
  refine pi_nil (x_then (hK2 _ _ ?_))
  clear hK2 K2
  refine c_seq (fun K3 hK3 => ?_)
  refine c_seq (fun K4 hK4 => ?_)
  refine c_reg ?_ -- region 2 exec.go:162
  refine wl (ro_move rfl) ?_
  refine wl_nil (x_then (hK4 _ _ ?_))
  clear hK4 K4
  refine c_block ?_
  refine forget [(0, _), (1, _), (2, _), (3, _), (4, _), (5, _), (13, _), (29, _)] ⟨rfl, rfl, rfl, rfl, rfl, rfl, rfl, rfl, trivial⟩ (fun e => ?_)
  refine c_seq (fun K5 hK5 => ?_)
  refine c_reg ?_ -- region 3 exec.go:163
  refine wl (ro_cmp rfl rfl rfl) ?_
  refine wl (ro_assign rfl) ?_
  refine wl_nil (x_then (hK5 _ _ ?_))
  clear hK5 K5
  refine wc_condF rfl ?_
  refine c_seq (fun K6 hK6 => ?_)
  refine c_seq (fun K7 hK7 => ?_)
  refine c_reg ?_ -- region 5 exec.go:165
  refine wl (ro_cmp rfl rfl rfl) ?_
  refine wl (ro_assign rfl) ?_
  refine wl_nil (x_then (hK7 _ _ ?_))
  clear hK7 K7
  refine wc_condF rfl ?_
  refine c_reg ?_ -- region 6 exec.go:165
  refine wl (ro_cmp rfl rfl rfl) ?_
  refine wl (ro_assign rfl) ?_
  refine wl_nil (x_then (hK6 _ _ ?_))
  clear hK6 K6
  refine wc_condF rfl ?_
  refine c_seq (fun K8 hK8 => ?_)
  refine c_seq (fun K9 hK9 => ?_)
  refine c_reg ?_ -- region 8 exec.go:167
  refine wl (ro_cmp rfl rfl rfl) ?_
  refine wl (ro_assign rfl) ?_
  refine wl_nil (x_then (hK9 _ _ ?_))
  clear hK9 K9
  refine wc_condF rfl ?_
  refine c_reg ?_ -- region 9 exec.go:167
  refine wl (ro_cmp rfl rfl rfl) ?_
  refine wl (ro_assign rfl) ?_
  refine wl_nil (x_then (hK8 _ _ ?_))
  clear hK8 K8
  refine wc_condF rfl ?_
  refine c_seq (fun K10 hK10 => ?_)
  refine c_seq (fun K11 hK11 => ?_)
  refine c_reg ?_ -- region 11 exec.go:169
  refine wl (ro_cmp rfl rfl rfl) ?_
  refine wl (ro_assign rfl) ?_
  refine wl_nil (x_then (hK11 _ _ ?_))
  clear hK11 K11
  refine wc_condF rfl ?_
  refine c_reg ?_ -- region 12 exec.go:169
  refine wl (ro_cmp rfl rfl rfl) ?_
  refine wl (ro_assign rfl) ?_
  refine wl_nil (x_then (hK10 _ _ ?_))
  clear hK10 K10
  refine wc_condF rfl ?_
  refine c_seq (fun K12 hK12 => ?_)
  refine c_reg ?_ -- region 14 exec.go:171
  refine wl (ro_cmp rfl rfl rfl) ?_
  refine wl (ro_assign rfl) ?_
  refine wl_nil (x_then (hK12 _ _ ?_))
  clear hK12 K12
  refine wc_condF rfl ?_
  refine c_seq (fun K13 hK13 => ?_)
  refine c_reg ?_ -- region 16 exec.go:173
  refine wl (ro_cmp rfl rfl rfl) ?_
  refine wl (ro_assign rfl) ?_
  refine wl_nil (x_then (hK13 _ _ ?_))
  clear hK13 K13
  refine wc_condF rfl ?_
  refine c_seq (fun K14 hK14 => ?_)
  refine c_seq (fun K15 hK15 => ?_)
  refine c_reg ?_ -- region 18 exec.go:175
  refine wl (ro_cmp rfl rfl rfl) ?_
  refine wl (ro_assign rfl) ?_
  refine wl_nil (x_then (hK15 _ _ ?_))
  clear hK15 K15
  refine wc_condF rfl ?_
  refine c_seq (fun K16 hK16 => ?_)
  refine c_reg ?_ -- region 19 exec.go:175
  refine wl (ro_cmp rfl rfl rfl) ?_
  refine wl (ro_assign rfl) ?_
  refine wl_nil (x_then (hK16 _ _ ?_))
  clear hK16 K16
  refine wc_condF rfl ?_
  refine c_seq (fun K17 hK17 => ?_)
  refine c_reg ?_ -- region 20 exec.go:175
  refine wl (ro_cmp rfl rfl rfl) ?_
  refine wl (ro_assign rfl) ?_
  refine wl_nil (x_then (hK17 _ _ ?_))
  clear hK17 K17
  refine wc_condF rfl ?_
  refine c_reg ?_ -- region 21 exec.go:175
  refine wl (ro_cmp rfl rfl rfl) ?_
  refine wl (ro_assign rfl) ?_
  refine wl_nil (x_then (hK14 _ _ ?_))
  clear hK14 K14
  refine wc_condF rfl ?_
  refine c_seq (fun K18 hK18 => ?_)
  refine c_reg ?_ -- region 23 exec.go:177
  refine wl (ro_cmp rfl rfl rfl) ?_
  refine wl (ro_assign rfl) ?_
  refine wl_nil (x_then (hK18 _ _ ?_))
  clear hK18 K18
  refine wc_condF rfl ?_
  refine c_seq (fun K19 hK19 => ?_)
  refine c_reg ?_ -- region 25 exec.go:179
  refine wl (ro_cmp rfl rfl rfl) ?_
  refine wl (ro_assign rfl) ?_
  refine wl_nil (x_then (hK19 _ _ ?_))
  clear hK19 K19
  refine wc_condF rfl ?_
  refine c_seq (fun K20 hK20 => ?_)
  refine c_seq (fun K21 hK21 => ?_)
  refine c_reg ?_ -- region 27 exec.go:181
  refine wl (ro_cmp rfl rfl rfl) ?_
  refine wl (ro_assign rfl) ?_
  refine wl_nil (x_then (hK21 _ _ ?_))
  clear hK21 K21
  refine wc_condF rfl ?_
  refine c_reg ?_ -- region 28 exec.go:181
  refine wl (ro_cmp rfl rfl rfl) ?_
  refine wl (ro_assign rfl) ?_
  refine wl_nil (x_then (hK20 _ _ ?_))
  clear hK20 K20
  refine wc_condF rfl ?_
  refine c_seq (fun K22 hK22 => ?_)
  refine c_reg ?_ -- region 30 exec.go:183
  refine wl (ro_cmp rfl rfl rfl) ?_
  refine wl (ro_assign rfl) ?_
  refine wl_nil (x_then (hK22 _ _ ?_))
  clear hK22 K22
  refine wc_condF rfl ?_
  refine c_seq (fun K23 hK23 => ?_)
  refine c_reg ?_ -- region 35 exec.go:189
  refine wl (ro_cmp rfl rfl rfl) ?_
  refine wl (ro_assign rfl) ?_
  refine wl_nil (x_then (hK23 _ _ ?_))
  clear hK23 K23
  refine wc_condF rfl ?_
  refine c_skip (x_blk (x_then (hK3 _ _ ?_)))
  clear hK3 K3
  refine forget [(4, _)] ⟨rfl, trivial⟩ (fun e => ?_)
  refine c_seq (fun K24 hK24 => ?_)
  refine c_reg ?_ -- region 46 exec.go:201
  refine wl (ro_move rfl) ?_
  refine wl (ro_cmp (r := true) rfl rfl (congrArg some (decide_eq_true (by omega)))) ?_
  refine wl (ro_move rfl) ?_
  refine wlg_yes rfl (ro_move rfl) ?_
  refine wlg_yes rfl (ro_cmp (r := true) rfl rfl (congrArg some (decide_eq_true (by omega)))) ?_
  refine wl (ro_pick rfl rfl rfl) ?_
  refine wl (ro_assign rfl) ?_
  refine wl_nil (x_then (hK24 _ _ ?_))
  clear hK24 K24
  refine c_ret ?_
  refine bp_ret Tryz.results241 rfl ?_
  exact ⟨rfl, hF.thenDrew⟩
set_option maxHeartbeats 8000000 in
theorem snd_15 (E : PE C fg fc w ow a y gs g vars p ids 15 z) : Ret Tryz.prog 241 [ptr C.E.mb, tptr C a.cur, fpt fg gs.length, prt C p, u8n 15, i64c z] w (fun r w' => r = .bool true ∧ Fram none' w w') := by
  have hc := E.hc
  have hk := E.hk
  obtain ⟨V, κ, Vv, U, x, f, fs, o⟩ := E.r.open hc
  have hF : Fram none' w w := Fram.refl _ _
  have hol := E.ol
  have hnd := E.nd
  have hzz := E.hz
  obtain ⟨lT, hT, -, -, -, hT2, -⟩ := o.v.thA o.t.hx
  have hT2 := hT2 2 (.inl rfl)
  obtain ⟨lB, hB1, k1, q1, -, -⟩ := o.frow
  obtain ⟨lP, pa, pb, pc, hP, tP, rp, hups, -, -⟩ := o.v.pro E.hp
  rw [Nat.zero_add] at rp
  obtain ⟨p0, ids0, n1, n2, n3⟩ := o.ns
  obtain ⟨rfl, rfl⟩ : p = p0 ∧ ids = ids0 := by have := hk.symm.trans n1; simpa using this
  have hln := o.t.ln
  have hsl := o.sl
  obtain ⟨cs, hcs, hcl⟩ := o.clos hk
  obtain ⟨cg, cc, lC, up, e6, hC, tC, rC⟩ := o.v.clo hcs
  obtain ⟨lM, hM, m0, m1, m2, m3, m4, m5, m6, -⟩ := o.v.mbA
  rw [e6] at m6
  have hclt := (List.getElem?_eq_some_iff.1 hcs).1
  have hx := E.sn.r.2.2.2.2.2.2.1 (.inl rfl)
  refine ret_of Tryz.func241 rfl Tryz.ntmps241 rfl ?_
  refine c_seq (fun K1 hK1 => ?_)
  refine c_reg ?_ -- region 0 exec.go:160
  refine wl (ro_assign rfl) ?_
  refine wl_nil (x_then (hK1 _ _ ?_))
  clear hK1 K1
  refine forget [(0, _), (1, _), (2, _), (3, _), (4, _), (5, _)] ⟨rfl, rfl, rfl, rfl, rfl, rfl, trivial⟩ (fun e => ?_)
  refine c_seq (fun K2 hK2 => ?_)
  refine c_pi [(0, false), (1, false), (2, false), (3, false), (4, false), (5, false), (6, false), (7, false), (8, false), (9, false), (10, false), (11, false)] (SameH _) mixed (by kernel_rfl) rfl (by kernel_rfl) (po_then (po_bp)) (sameH_now _ _) ?_ -- region 1 exec.go:161
  refine pi_ro rfl (fun w hS => ro_move rfl) ?_
  refine pi_ro rfl (fun w hS => ro_nilCheck rfl) ?_
  refine pi_ro rfl (fun w hS => ro_fieldAddr (k := 6) rfl fo_89_6) ?_
  refine pi_ro rfl (fun w hS => ro_loadB rfl sc_85 (Blk.of_heap hM hS) (m6)) ?_
  refine pi_ro rfl (fun w hS => ro_move rfl) ?_
  refine pi_ro rfl (fun w hS => ro_nilCheck rfl) ?_
  refine pi_ro rfl (fun w hS => ro_fieldAddr (k := 0) rfl fo_331_0) ?_
  refine pi_ro rfl (fun w hS => ro_loadB rfl sc_3 (Blk.of_heap hB1 hS) (frow_at q1 (by decide))) ?_
  refine pi_ro rfl (fun w hS => ro_indexAddr (et := 209) (k := 3) rfl rfl se_85 (rfl) ((by omega))) ?_
  refine pi_ro rfl (fun w hS => ro_fieldAddr (k := 2) rfl fo_209_2) ?_
  refine pi_ro rfl (fun w hS => ro_loadB rfl sc_3 (Blk.of_heap hC hS) (row_get rC (by decide))) ?_
  refine pi_ro rfl (fun w hS => ro_assign rfl) ?_
  refine pi_nil (x_then (hK2 _ _ ?_))
  clear hK2 K2
  refine c_seq (fun K3 hK3 => ?_)
  refine c_seq (fun K4 hK4 => ?_)
  refine c_reg ?_ -- region 2 exec.go:162
  refine wl (ro_move rfl) ?_
  refine wl_nil (x_then (hK4 _ _ ?_))
  clear hK4 K4
  refine c_block ?_
  refine forget [(0, _), (1, _), (2, _), (3, _), (4, _), (5, _), (13, _), (29, _)] ⟨rfl, rfl, rfl, rfl, rfl, rfl, rfl, rfl, trivial⟩ (fun e => ?_)
  refine c_seq (fun K5 hK5 => ?_)
  refine c_reg ?_ -- region 3 exec.go:163
  refine wl (ro_cmp rfl rfl rfl) ?_
  refine wl (ro_assign rfl) ?_
  refine wl_nil (x_then (hK5 _ _ ?_))
  clear hK5 K5
  refine wc_condF rfl ?_
  refine c_seq (fun K6 hK6 => ?_)
  refine c_seq (fun K7 hK7 => ?_)
  refine c_reg ?_ -- region 5 exec.go:165
  refine wl (ro_cmp rfl rfl rfl) ?_
  refine wl (ro_assign rfl) ?_
  refine wl_nil (x_then (hK7 _ _ ?_))
  clear hK7 K7
  refine wc_condF rfl ?_
  refine c_reg ?_ -- region 6 exec.go:165
  refine wl (ro_cmp rfl rfl rfl) ?_
  refine wl (ro_assign rfl) ?_
  refine wl_nil (x_then (hK6 _ _ ?_))
  clear hK6 K6
  refine wc_condF rfl ?_
  refine c_seq (fun K8 hK8 => ?_)
  refine c_seq (fun K9 hK9 => ?_)
  refine c_reg ?_ -- region 8 exec.go:167
  refine wl (ro_cmp rfl rfl rfl) ?_
  refine wl (ro_assign rfl) ?_
  refine wl_nil (x_then (hK9 _ _ ?_))
  clear hK9 K9
  refine wc_condF rfl ?_
  refine c_reg ?_ -- region 9 exec.go:167
  refine wl (ro_cmp rfl rfl rfl) ?_
  refine wl (ro_assign rfl) ?_
  refine wl_nil (x_then (hK8 _ _ ?_))
  clear hK8 K8
  refine wc_condF rfl ?_
  refine c_seq (fun K10 hK10 => ?_)
  refine c_seq (fun K11 hK11 => ?_)
  refine c_reg ?_ -- region 11 exec.go:169
  refine wl (ro_cmp rfl rfl rfl) ?_
  refine wl (ro_assign rfl) ?_
  refine wl_nil (x_then (hK11 _ _ ?_))
  clear hK11 K11
  refine wc_condF rfl ?_
  refine c_reg ?_ -- region 12 exec.go:169
  refine wl (ro_cmp rfl rfl rfl) ?_
  refine wl (ro_assign rfl) ?_
  refine wl_nil (x_then (hK10 _ _ ?_))
  clear hK10 K10
  refine wc_condF rfl ?_
  refine c_seq (fun K12 hK12 => ?_)
  refine c_reg ?_ -- region 14 exec.go:171
  refine wl (ro_cmp rfl rfl rfl) ?_
  refine wl (ro_assign rfl) ?_
  refine wl_nil (x_then (hK12 _ _ ?_))
  clear hK12 K12
  refine wc_condT rfl ?_
  refine c_seq (fun K13 hK13 => ?_)
  refine c_reg ?_ -- region 15 exec.go:172
  refine wl (ro_move rfl) ?_
  refine wl (ro_cmp (r := true) rfl rfl (congrArg some (decide_eq_true (by omega)))) ?_
  refine wl (ro_move rfl) ?_
  refine wlg_yes rfl (ro_move rfl) ?_
  refine wlg_yes rfl (ro_cmp (r := true) rfl rfl (congrArg some (decide_eq_true (by omega)))) ?_
  refine wl (ro_pick rfl rfl rfl) ?_
  refine wl (ro_assign rfl) ?_
  refine wl_nil (x_then (hK13 _ _ ?_))
  clear hK13 K13
  refine c_ret (x_blkR (x_thenR ?_))
  refine bp_ret Tryz.results241 rfl ?_
  exact ⟨rfl, hF.thenDrew⟩
set_option maxHeartbeats 8000000 in
theorem snd_16 (E : PE C fg fc w ow a y gs g vars p ids 16 z) : Ret Tryz.prog 241 [ptr C.E.mb, tptr C a.cur, fpt fg gs.length, prt C p, u8n 16, i64c z] w (fun r w' => r = .bool true ∧ Fram none' w w') := by
  have hc := E.hc
  have hk := E.hk
  obtain ⟨V, κ, Vv, U, x, f, fs, o⟩ := E.r.open hc
  have hF : Fram none' w w := Fram.refl _ _
  have hol := E.ol
  have hnd := E.nd
  have hzz := E.hz
  obtain ⟨lT, hT, -, -, -, hT2, -⟩ := o.v.thA o.t.hx
  have hT2 := hT2 2 (.inl rfl)
  obtain ⟨lB, hB1, k1, q1, -, -⟩ := o.frow
  obtain ⟨lP, pa, pb, pc, hP, tP, rp, hups, -, -⟩ := o.v.pro E.hp
  rw [Nat.zero_add] at rp
  obtain ⟨p0, ids0, n1, n2, n3⟩ := o.ns
  obtain ⟨rfl, rfl⟩ : p = p0 ∧ ids = ids0 := by have := hk.symm.trans n1; simpa using this
  have hln := o.t.ln
  have hsl := o.sl
  obtain ⟨cs, hcs, hcl⟩ := o.clos hk
  obtain ⟨cg, cc, lC, up, e6, hC, tC, rC⟩ := o.v.clo hcs
  obtain ⟨lM, hM, m0, m1, m2, m3, m4, m5, m6, -⟩ := o.v.mbA
  rw [e6] at m6
  have hclt := (List.getElem?_eq_some_iff.1 hcs).1
  have hx := E.sn.r.2.2.2.2.2.2.1 (.inr rfl)
  refine ret_of Tryz.func241 rfl Tryz.ntmps241 rfl ?_
  refine c_seq (fun K1 hK1 => ?_)
  refine c_reg ?_ -- region 0 exec.go:160
  refine wl (ro_assign rfl) ?_
  refine wl_nil (x_then (hK1 _ _ ?_))
  clear hK1 K1
  refine forget [(0, _), (1, _), (2, _), (3, _), (4, _), (5, _)] ⟨rfl, rfl, rfl, rfl, rfl, rfl, trivial⟩ (fun e => ?_)
  refine c_seq (fun K2 hK2 => ?_)
  refine c_pi [(0, false), (1, false), (2, false), (3, false), (4, false), (5, false), (6, false), (7, false), (8, false), (9, false), (10, false), (11, false)] (SameH _) mixed (by kernel_rfl) rfl (by kernel_rfl) (po_then (po_bp)) (sameH_now _ _) ?_ -- region 1 exec.go:161
  refine pi_ro rfl (fun w hS => ro_move rfl) ?_
  refine pi_ro rfl (fun w hS => ro_nilCheck rfl) ?_
  refine pi_ro rfl (fun w hS => ro_fieldAddr (k := 6) rfl fo_89_6) ?_
  refine pi_ro rfl (fun w hS => ro_loadB rfl sc_85 (Blk.of_heap hM hS) (m6)) ?_
  refine pi_ro rfl (fun w hS => ro_move rfl) ?_
  refine pi_ro rfl (fun w hS => ro_nilCheck rfl) ?_
  refine pi_ro rfl (fun w hS => ro_fieldAddr (k := 0) rfl fo_331_0) ?_
  refine pi_ro rfl (fun w hS => ro_loadB rfl sc_3 (Blk.of_heap hB1 hS) (frow_at q1 (by decide))) ?_
  refine pi_ro rfl (fun w hS => ro_indexAddr (et := 209) (k := 3) rfl rfl se_85 (rfl) ((by omega))) ?_
  refine pi_ro rfl (fun w hS => ro_fieldAddr (k := 2) rfl fo_209_2) ?_
  refine pi_ro rfl (fun w hS => ro_loadB rfl sc_3 (Blk.of_heap hC hS) (row_get rC (by decide))) ?_
  refine pi_ro rfl (fun w hS => ro_assign rfl) ?_
  refine pi_nil (x_then (hK2 _ _ ?_))
  clear hK2 K2
  refine c_seq (fun K3 hK3 => ?_)
  refine c_seq (fun K4 hK4 => ?_)
  refine c_reg ?_ -- region 2 exec.go:162
  refine wl (ro_move rfl) ?_
  refine wl_nil (x_then (hK4 _ _ ?_))
  clear hK4 K4
  refine c_block ?_
  refine forget [(0, _), (1, _), (2, _), (3, _), (4, _), (5, _), (13, _), (29, _)] ⟨rfl, rfl, rfl, rfl, rfl, rfl, rfl, rfl, trivial⟩ (fun e => ?_)
  refine c_seq (fun K5 hK5 => ?_)
  refine c_reg ?_ -- region 3 exec.go:163
  refine wl (ro_cmp rfl rfl rfl) ?_
  refine wl (ro_assign rfl) ?_
  refine wl_nil (x_then (hK5 _ _ ?_))
  clear hK5 K5
  refine wc_condF rfl ?_
  refine c_seq (fun K6 hK6 => ?_)
  refine c_seq (fun K7 hK7 => ?_)
  refine c_reg ?_ -- region 5 exec.go:165
  refine wl (ro_cmp rfl rfl rfl) ?_
  refine wl (ro_assign rfl) ?_
  refine wl_nil (x_then (hK7 _ _ ?_))
  clear hK7 K7
  refine wc_condF rfl ?_
  refine c_reg ?_ -- region 6 exec.go:165
  refine wl (ro_cmp rfl rfl rfl) ?_
  refine wl (ro_assign rfl) ?_
  refine wl_nil (x_then (hK6 _ _ ?_))
  clear hK6 K6
  refine wc_condF rfl ?_
  refine c_seq (fun K8 hK8 => ?_)
  refine c_seq (fun K9 hK9 => ?_)
  refine c_reg ?_ -- region 8 exec.go:167
  refine wl (ro_cmp rfl rfl rfl) ?_
  refine wl (ro_assign rfl) ?_
  refine wl_nil (x_then (hK9 _ _ ?_))
  clear hK9 K9
  refine wc_condF rfl ?_
  refine c_reg ?_ -- region 9 exec.go:167
  refine wl (ro_cmp rfl rfl rfl) ?_
  refine wl (ro_assign rfl) ?_
  refine wl_nil (x_then (hK8 _ _ ?_))
  clear hK8 K8
  refine wc_condF rfl ?_
  refine c_seq (fun K10 hK10 => ?_)
  refine c_seq (fun K11 hK11 => ?_)
  refine c_reg ?_ -- region 11 exec.go:169
  refine wl (ro_cmp rfl rfl rfl) ?_
  refine wl (ro_assign rfl) ?_
  refine wl_nil (x_then (hK11 _ _ ?_))
  clear hK11 K11
  refine wc_condF rfl ?_
  refine c_reg ?_ -- region 12 exec.go:169
  refine wl (ro_cmp rfl rfl rfl) ?_
  refine wl (ro_assign rfl) ?_
  refine wl_nil (x_then (hK10 _ _ ?_))
  clear hK10 K10
  refine wc_condF rfl ?_
  refine c_seq (fun K12 hK12 => ?_)
  refine c_reg ?_ -- region 14 exec.go:171
  refine wl (ro_cmp rfl rfl rfl) ?_
  refine wl (ro_assign rfl) ?_
  refine wl_nil (x_then (hK12 _ _ ?_))
  clear hK12 K12
  refine wc_condF rfl ?_
  refine c_seq (fun K13 hK13 => ?_)
  refine c_reg ?_ -- region 16 exec.go:173
  refine wl (ro_cmp rfl rfl rfl) ?_
  refine wl (ro_assign rfl) ?_
  refine wl_nil (x_then (hK13 _ _ ?_))
  clear hK13 K13
  refine wc_condT rfl ?_
  refine c_seq (fun K14 hK14 => ?_)
  refine c_reg ?_ -- region 17 exec.go:174
  refine wl (ro_move rfl) ?_
  refine wl (ro_cmp (r := true) rfl rfl (congrArg some (decide_eq_true (by omega)))) ?_
  refine wl (ro_move rfl) ?_
  refine wlg_yes rfl (ro_move rfl) ?_
  refine wlg_yes rfl (ro_cmp (r := true) rfl rfl (congrArg some (decide_eq_true (by omega)))) ?_
  refine wl (ro_pick rfl rfl rfl) ?_
  refine wl (ro_assign rfl) ?_
  refine wl_nil (x_then (hK14 _ _ ?_))
  clear hK14 K14
  refine c_ret (x_blkR (x_thenR ?_))
  refine bp_ret Tryz.results241 rfl ?_
  exact ⟨rfl, hF.thenDrew⟩
set_option maxHeartbeats 8000000 in
theorem snd_17 (E : PE C fg fc w ow a y gs g vars p ids 17 z) : Ret Tryz.prog 241 [ptr C.E.mb, tptr C a.cur, fpt fg gs.length, prt C p, u8n 17, i64c z] w (fun r w' => r = .bool true ∧ Fram none' w w') := by
  have hc := E.hc
  have hk := E.hk
  obtain ⟨V, κ, Vv, U, x, f, fs, o⟩ := E.r.open hc
  have hF : Fram none' w w := Fram.refl _ _
  have hol := E.ol
  have hnd := E.nd
  have hzz := E.hz
  obtain ⟨lT, hT, -, -, -, hT2, -⟩ := o.v.thA o.t.hx
  have hT2 := hT2 2 (.inl rfl)
  obtain ⟨lB, hB1, k1, q1, -, -⟩ := o.frow
  obtain ⟨lP, pa, pb, pc, hP, tP, rp, hups, -, -⟩ := o.v.pro E.hp
  rw [Nat.zero_add] at rp
  obtain ⟨p0, ids0, n1, n2, n3⟩ := o.ns
  obtain ⟨rfl, rfl⟩ : p = p0 ∧ ids = ids0 := by have := hk.symm.trans n1; simpa using this
  have hln := o.t.ln
  have hsl := o.sl
  obtain ⟨cs, hcs, hcl⟩ := o.clos hk
  obtain ⟨cg, cc, lC, up, e6, hC, tC, rC⟩ := o.v.clo hcs
  obtain ⟨lM, hM, m0, m1, m2, m3, m4, m5, m6, -⟩ := o.v.mbA
  rw [e6] at m6
  have hclt := (List.getElem?_eq_some_iff.1 hcs).1
  refine ret_of Tryz.func241 rfl Tryz.ntmps241 rfl ?_
  refine c_seq (fun K1 hK1 => ?_)
  refine c_reg ?_ -- region 0 exec.go:160
  refine wl (ro_assign rfl) ?_
  refine wl_nil (x_then (hK1 _ _ ?_))
  clear hK1 K1
  refine forget [(0, _), (1, _), (2, _), (3, _), (4, _), (5, _)] ⟨rfl, rfl, rfl, rfl, rfl, rfl, trivial⟩ (fun e => ?_)
  refine c_seq (fun K2 hK2 => ?_)
  refine c_pi [(0, false), (1, false), (2, false), (3, false), (4, false), (5, false), (6, false), (7, false), (8, false), (9, false), (10, false), (11, false)] (SameH _) mixed (by kernel_rfl) rfl (by kernel_rfl) (po_then (po_bp)) (sameH_now _ _) ?_ -- region 1 exec.go:161
  refine pi_ro rfl (fun w hS => ro_move rfl) ?_
  refine pi_ro rfl (fun w hS => ro_nilCheck rfl) ?_
  refine pi_ro rfl (fun w hS => ro_fieldAddr (k := 6) rfl fo_89_6) ?_
  refine pi_ro rfl (fun w hS => ro_loadB rfl sc_85 (Blk.of_heap hM hS) (m6)) ?_
  refine pi_ro rfl (fun w hS => ro_move rfl) ?_
  refine pi_ro rfl (fun w hS => ro_nilCheck rfl) ?_
  refine pi_ro rfl (fun w hS => ro_fieldAddr (k := 0) rfl fo_331_0) ?_
  refine pi_ro rfl (fun w hS => ro_loadB rfl sc_3 (Blk.of_heap hB1 hS) (frow_at q1 (by decide))) ?_
  refine pi_ro rfl (fun w hS => ro_indexAddr (et := 209) (k := 3) rfl rfl se_85 (rfl) ((by omega))) ?_
  refine pi_ro rfl (fun w hS => ro_fieldAddr (k := 2) rfl fo_209_2) ?_
  refine pi_ro rfl (fun w hS => ro_loadB rfl sc_3 (Blk.of_heap hC hS) (row_get rC (by decide))) ?_
  refine pi_ro rfl (fun w hS => ro_assign rfl) ?_
  refine pi_nil (x_then (hK2 _ _ ?_))
  clear hK2 K2
  refine c_seq (fun K3 hK3 => ?_)
  refine c_seq (fun K4 hK4 => ?_)
  refine c_reg ?_ -- region 2 exec.go:162
  refine wl (ro_move rfl) ?_
  refine wl_nil (x_then (hK4 _ _ ?_))
  clear hK4 K4
  refine c_block ?_
  refine forget [(0, _), (1, _), (2, _), (3, _), (4, _), (5, _), (13, _), (29, _)] ⟨rfl, rfl, rfl, rfl, rfl, rfl, rfl, rfl, trivial⟩ (fun e => ?_)
  refine c_seq (fun K5 hK5 => ?_)
  refine c_reg ?_ -- region 3 exec.go:163
  refine wl (ro_cmp rfl rfl rfl) ?_
  refine wl (ro_assign rfl) ?_
  refine wl_nil (x_then (hK5 _ _ ?_))
  clear hK5 K5
  refine wc_condF rfl ?_
  refine c_seq (fun K6 hK6 => ?_)
  refine c_seq (fun K7 hK7 => ?_)
  refine c_reg ?_ -- region 5 exec.go:165
  refine wl (ro_cmp rfl rfl rfl) ?_
  refine wl (ro_assign rfl) ?_
  refine wl_nil (x_then (hK7 _ _ ?_))
  clear hK7 K7
  refine wc_condF rfl ?_
  refine c_reg ?_ -- region 6 exec.go:165
  refine wl (ro_cmp rfl rfl rfl) ?_
  refine wl (ro_assign rfl) ?_
  refine wl_nil (x_then (hK6 _ _ ?_))
  clear hK6 K6
  refine wc_condF rfl ?_
  refine c_seq (fun K8 hK8 => ?_)
  refine c_seq (fun K9 hK9 => ?_)
  refine c_reg ?_ -- region 8 exec.go:167
  refine wl (ro_cmp rfl rfl rfl) ?_
  refine wl (ro_assign rfl) ?_
  refine wl_nil (x_then (hK9 _ _ ?_))
  clear hK9 K9
  refine wc_condF rfl ?_
  refine c_reg ?_ -- region 9 exec.go:167
  refine wl (ro_cmp rfl rfl rfl) ?_
  refine wl (ro_assign rfl) ?_
  refine wl_nil (x_then (hK8 _ _ ?_))
  clear hK8 K8
  refine wc_condF rfl ?_
  refine c_seq (fun K10 hK10 => ?_)
  refine c_seq (fun K11 hK11 => ?_)
  refine c_reg ?_ -- region 11 exec.go:169
  refine wl (ro_cmp rfl rfl rfl) ?_
  refine wl (ro_assign rfl) ?_
  refine wl_nil (x_then (hK11 _ _ ?_))
  clear hK11 K11
  refine wc_condF rfl ?_
  refine c_reg ?_ -- region 12 exec.go:169
  refine wl (ro_cmp rfl rfl rfl) ?_
  refine wl (ro_assign rfl) ?_
  refine wl_nil (x_then (hK10 _ _ ?_))
  clear hK10 K10
  refine wc_condF rfl ?_
  refine c_seq (fun K12 hK12 => ?_)
  refine c_reg ?_ -- region 14 exec.go:171
  refine wl (ro_cmp rfl rfl rfl) ?_
  refine wl (ro_assign rfl) ?_
  refine wl_nil (x_then (hK12 _ _ ?_))
  clear hK12 K12
  refine wc_condF rfl ?_
  refine c_seq (fun K13 hK13 => ?_)
  refine c_reg ?_ -- region 16 exec.go:173
  refine wl (ro_cmp rfl rfl rfl) ?_
  refine wl (ro_assign rfl) ?_
  refine wl_nil (x_then (hK13 _ _ ?_))
  clear hK13 K13
  refine wc_condF rfl ?_
  refine c_seq (fun K14 hK14 => ?_)
  refine c_seq (fun K15 hK15 => ?_)
  refine c_reg ?_ -- region 18 exec.go:175
  refine wl (ro_cmp rfl rfl rfl) ?_
  refine wl (ro_assign rfl) ?_
  refine wl_nil (x_then (hK15 _ _ ?_))
  clear hK15 K15
  refine wc_condF rfl ?_
  refine c_seq (fun K16 hK16 => ?_)
  refine c_reg ?_ -- region 19 exec.go:175
  refine wl (ro_cmp rfl rfl rfl) ?_
  refine wl (ro_assign rfl) ?_
  refine wl_nil (x_then (hK16 _ _ ?_))
  clear hK16 K16
  refine wc_condF rfl ?_
  refine c_seq (fun K17 hK17 => ?_)
  refine c_reg ?_ -- region 20 exec.go:175
  refine wl (ro_cmp rfl rfl rfl) ?_
  refine wl (ro_assign rfl) ?_
  refine wl_nil (x_then (hK17 _ _ ?_))
  clear hK17 K17
  refine wc_condF rfl ?_
  refine c_reg ?_ -- region 21 exec.go:175
  refine wl (ro_cmp rfl rfl rfl) ?_
  refine wl (ro_assign rfl) ?_
  refine wl_nil (x_then (hK14 _ _ ?_))
  clear hK14 K14
  refine wc_condF rfl ?_
  refine c_seq (fun K18 hK18 => ?_)
  refine c_reg ?_ -- region 23 exec.go:177
  refine wl (ro_cmp rfl rfl rfl) ?_
  refine wl (ro_assign rfl) ?_
  refine wl_nil (x_then (hK18 _ _ ?_))
  clear hK18 K18
  refine wc_condF rfl ?_
  refine c_seq (fun K19 hK19 => ?_)
  refine c_reg ?_ -- region 25 exec.go:179
  refine wl (ro_cmp rfl rfl rfl) ?_
  refine wl (ro_assign rfl) ?_
  refine wl_nil (x_then (hK19 _ _ ?_))
  clear hK19 K19
  refine wc_condF rfl ?_
  refine c_seq (fun K20 hK20 => ?_)
  refine c_seq (fun K21 hK21 => ?_)
  refine c_reg ?_ -- region 27 exec.go:181
  refine wl (ro_cmp rfl rfl rfl) ?_
  refine wl (ro_assign rfl) ?_
  refine wl_nil (x_then (hK21 _ _ ?_))
  clear hK21 K21
  refine wc_condF rfl ?_
  refine c_reg ?_ -- region 28 exec.go:181
  refine wl (ro_cmp rfl rfl rfl) ?_
  refine wl (ro_assign rfl) ?_
  refine wl_nil (x_then (hK20 _ _ ?_))
  clear hK20 K20
  refine wc_condF rfl ?_
  refine c_seq (fun K22 hK22 => ?_)
  refine c_reg ?_ -- region 30 exec.go:183
  refine wl (ro_cmp rfl rfl rfl) ?_
  refine wl (ro_assign rfl) ?_
  refine wl_nil (x_then (hK22 _ _ ?_))
  clear hK22 K22
  refine wc_condF rfl ?_
  refine c_seq (fun K23 hK23 => ?_)
  refine c_reg ?_ -- region 35 exec.go:189
  refine wl (ro_cmp rfl rfl rfl) ?_
  refine wl (ro_assign rfl) ?_
  refine wl_nil (x_then (hK23 _ _ ?_))
  clear hK23 K23
  refine wc_condF rfl ?_
  refine c_skip (x_blk (x_then (hK3 _ _ ?_)))
  clear hK3 K3
  refine forget [(4, _)] ⟨rfl, trivial⟩ (fun e => ?_)
  refine c_seq (fun K24 hK24 => ?_)
  refine c_reg ?_ -- region 46 exec.go:201
  refine wl (ro_move rfl) ?_
  refine wl (ro_cmp (r := true) rfl rfl (congrArg some (decide_eq_true (by omega)))) ?_
  refine wl (ro_move rfl) ?_
  refine wlg_yes rfl (ro_move rfl) ?_
  refine wlg_yes rfl (ro_cmp (r := true) rfl rfl (congrArg some (decide_eq_true (by omega)))) ?_
  refine wl (ro_pick rfl rfl rfl) ?_
  refine wl (ro_assign rfl) ?_
  refine wl_nil (x_then (hK24 _ _ ?_))
  clear hK24 K24
  refine c_ret ?_
  refine bp_ret Tryz.results241 rfl ?_
  exact ⟨rfl, hF.thenDrew⟩
set_option maxHeartbeats 8000000 in
theorem snd_18 (E : PE C fg fc w ow a y gs g vars p ids 18 z) : Ret Tryz.prog 241 [ptr C.E.mb, tptr C a.cur, fpt fg gs.length, prt C p, u8n 18, i64c z] w (fun r w' => r = .bool true ∧ Fram none' w w') := by
  have hc := E.hc
  have hk := E.hk
  obtain ⟨V, κ, Vv, U, x, f, fs, o⟩ := E.r.open hc
  have hF : Fram none' w w := Fram.refl _ _
  have hol := E.ol
  have hnd := E.nd
  have hzz := E.hz
  obtain ⟨lT, hT, -, -, -, hT2, -⟩ := o.v.thA o.t.hx
  have hT2 := hT2 2 (.inl rfl)
  obtain ⟨lB, hB1, k1, q1, -, -⟩ := o.frow
  obtain ⟨lP, pa, pb, pc, hP, tP, rp, hups, -, -⟩ := o.v.pro E.hp
  rw [Nat.zero_add] at rp
  obtain ⟨p0, ids0, n1, n2, n3⟩ := o.ns
  obtain ⟨rfl, rfl⟩ : p = p0 ∧ ids = ids0 := by have := hk.symm.trans n1; simpa using this
  have hln := o.t.ln
  have hsl := o.sl
  obtain ⟨cs, hcs, hcl⟩ := o.clos hk
  obtain ⟨cg, cc, lC, up, e6, hC, tC, rC⟩ := o.v.clo hcs
  obtain ⟨lM, hM, m0, m1, m2, m3, m4, m5, m6, -⟩ := o.v.mbA
  rw [e6] at m6
  have hclt := (List.getElem?_eq_some_iff.1 hcs).1
  refine ret_of Tryz.func241 rfl Tryz.ntmps241 rfl ?_
  refine c_seq (fun K1 hK1 => ?_)
  refine c_reg ?_ -- region 0 exec.go:160
  refine wl (ro_assign rfl) ?_
  refine wl_nil (x_then (hK1 _ _ ?_))
  clear hK1 K1
  refine forget [(0, _), (1, _), (2, _), (3, _), (4, _), (5, _)] ⟨rfl, rfl, rfl, rfl, rfl, rfl, trivial⟩ (fun e => ?_)
  refine c_seq (fun K2 hK2 => ?_)
  refine c_pi [(0, false), (1, false), (2, false), (3, false), (4, false), (5, false), (6, false), (7, false), (8, false), (9, false), (10, false), (11, false)] (SameH _) mixed (by kernel_rfl) rfl (by kernel_rfl) (po_then (po_bp)) (sameH_now _ _) ?_ -- region 1 exec.go:161
  refine pi_ro rfl (fun w hS => ro_move rfl) ?_
  refine pi_ro rfl (fun w hS => ro_nilCheck rfl) ?_
  refine pi_ro rfl (fun w hS => ro_fieldAddr (k := 6) rfl fo_89_6) ?_
  refine pi_ro rfl (fun w hS => ro_loadB rfl sc_85 (Blk.of_heap hM hS) (m6)) ?_
  refine pi_ro rfl (fun w hS => ro_move rfl) ?_
  refine pi_ro rfl (fun w hS => ro_nilCheck rfl) ?_
  refine pi_ro rfl (fun w hS => ro_fieldAddr (k := 0) rfl fo_331_0) ?_
  refine pi_ro rfl (fun w hS => ro_loadB rfl sc_3 (Blk.of_heap hB1 hS) (frow_at q1 (by decide))) ?_
  refine pi_ro rfl (fun w hS => ro_indexAddr (et := 209) (k := 3) rfl rfl se_85 (rfl) ((by omega))) ?_
  refine pi_ro rfl (fun w hS => ro_fieldAddr (k := 2) rfl fo_209_2) ?_
  refine pi_ro rfl (fun w hS => ro_loadB rfl sc_3 (Blk.of_heap hC hS) (row_get rC (by decide))) ?_
  refine pi_ro rfl (fun w hS => ro_assign rfl) ?_
  refine pi_nil (x_then (hK2 _ _ ?_))
  clear hK2 K2
  refine c_seq (fun K3 hK3 => ?_)
  refine c_seq (fun K4 hK4 => ?_)
  refine c_reg ?_ -- region 2 exec.go:162
  refine wl (ro_move rfl) ?_
  refine wl_nil (x_then (hK4 _ _ ?_))
  clear hK4 K4
  refine c_block ?_
  refine forget [(0, _), (1, _), (2, _), (3, _), (4, _), (5, _), (13, _), (29, _)] ⟨rfl, rfl, rfl, rfl, rfl, rfl, rfl, rfl, trivial⟩ (fun e => ?_)
  refine c_seq (fun K5 hK5 => ?_)
  refine c_reg ?_ -- region 3 exec.go:163
  refine wl (ro_cmp rfl rfl rfl) ?_
  refine wl (ro_assign rfl) ?_
  refine wl_nil (x_then (hK5 _ _ ?_))
  clear hK5 K5
  refine wc_condF rfl ?_
  refine c_seq (fun K6 hK6 => ?_)
  refine c_seq (fun K7 hK7 => ?_)
  refine c_reg ?_ -- region 5 exec.go:165
  refine wl (ro_cmp rfl rfl rfl) ?_
  refine wl (ro_assign rfl) ?_
  refine wl_nil (x_then (hK7 _ _ ?_))
  clear hK7 K7
  refine wc_condF rfl ?_
  refine c_reg ?_ -- region 6 exec.go:165
  refine wl (ro_cmp rfl rfl rfl) ?_
  refine wl (ro_assign rfl) ?_
  refine wl_nil (x_then (hK6 _ _ ?_))
  clear hK6 K6
  refine wc_condF rfl ?_
  refine c_seq (fun K8 hK8 => ?_)
  refine c_seq (fun K9 hK9 => ?_)
  refine c_reg ?_ -- region 8 exec.go:167
  refine wl (ro_cmp rfl rfl rfl) ?_
  refine wl (ro_assign rfl) ?_
  refine wl_nil (x_then (hK9 _ _ ?_))
  clear hK9 K9
  refine wc_condF rfl ?_
  refine c_reg ?_ -- region 9 exec.go:167
  refine wl (ro_cmp rfl rfl rfl) ?_
  refine wl (ro_assign rfl) ?_
  refine wl_nil (x_then (hK8 _ _ ?_))
  clear hK8 K8
  refine wc_condF rfl ?_
  refine c_seq (fun K10 hK10 => ?_)
  refine c_seq (fun K11 hK11 => ?_)
  refine c_reg ?_ -- region 11 exec.go:169
  refine wl (ro_cmp rfl rfl rfl) ?_
  refine wl (ro_assign rfl) ?_
  refine wl_nil (x_then (hK11 _ _ ?_))
  clear hK11 K11
  refine wc_condF rfl ?_
  refine c_reg ?_ -- region 12 exec.go:169
  refine wl (ro_cmp rfl rfl rfl) ?_
  refine wl (ro_assign rfl) ?_
  refine wl_nil (x_then (hK10 _ _ ?_))
  clear hK10 K10
  refine wc_condF rfl ?_
  refine c_seq (fun K12 hK12 => ?_)
  refine c_reg ?_ -- region 14 exec.go:171
  refine wl (ro_cmp rfl rfl rfl) ?_
  refine wl (ro_assign rfl) ?_
  refine wl_nil (x_then (hK12 _ _ ?_))
  clear hK12 K12
  refine wc_condF rfl ?_
  refine c_seq (fun K13 hK13 => ?_)
  refine c_reg ?_ -- region 16 exec.go:173
  refine wl (ro_cmp rfl rfl rfl) ?_
  refine wl (ro_assign rfl) ?_
  refine wl_nil (x_then (hK13 _ _ ?_))
  clear hK13 K13
  refine wc_condF rfl ?_
  refine c_seq (fun K14 hK14 => ?_)
  refine c_seq (fun K15 hK15 => ?_)
  refine c_reg ?_ -- region 18 exec.go:175
  refine wl (ro_cmp rfl rfl rfl) ?_
  refine wl (ro_assign rfl) ?_
  refine wl_nil (x_then (hK15 _ _ ?_))
  clear hK15 K15
  refine wc_condF rfl ?_
  refine c_seq (fun K16 hK16 => ?_)
  refine c_reg ?_ -- region 19 exec.go:175
  refine wl (ro_cmp rfl rfl rfl) ?_
  refine wl (ro_assign rfl) ?_
  refine wl_nil (x_then (hK16 _ _ ?_))
  clear hK16 K16
  refine wc_condF rfl ?_
  refine c_seq (fun K17 hK17 => ?_)
  refine c_reg ?_ -- region 20 exec.go:175
  refine wl (ro_cmp rfl rfl rfl) ?_
  refine wl (ro_assign rfl) ?_
  refine wl_nil (x_then (hK17 _ _ ?_))
  clear hK17 K17
  refine wc_condF rfl ?_
  refine c_reg ?_ -- region 21 exec.go:175
  refine wl (ro_cmp rfl rfl rfl) ?_
  refine wl (ro_assign rfl) ?_
  refine wl_nil (x_then (hK14 _ _ ?_))
  clear hK14 K14
  refine wc_condF rfl ?_
  refine c_seq (fun K18 hK18 => ?_)
  refine c_reg ?_ -- region 23 exec.go:177
  refine wl (ro_cmp rfl rfl rfl) ?_
  refine wl (ro_assign rfl) ?_
  refine wl_nil (x_then (hK18 _ _ ?_))
  clear hK18 K18
  refine wc_condF rfl ?_
  refine c_seq (fun K19 hK19 => ?_)
  refine c_reg ?_ -- region 25 exec.go:179
  refine wl (ro_cmp rfl rfl rfl) ?_
  refine wl (ro_assign rfl) ?_
  refine wl_nil (x_then (hK19 _ _ ?_))
  clear hK19 K19
  refine wc_condF rfl ?_
  refine c_seq (fun K20 hK20 => ?_)
  refine c_seq (fun K21 hK21 => ?_)
  refine c_reg ?_ -- region 27 exec.go:181
  refine wl (ro_cmp rfl rfl rfl) ?_
  refine wl (ro_assign rfl) ?_
  refine wl_nil (x_then (hK21 _ _ ?_))
  clear hK21 K21
  refine wc_condF rfl ?_
  refine c_reg ?_ -- region 28 exec.go:181
  refine wl (ro_cmp rfl rfl rfl) ?_
  refine wl (ro_assign rfl) ?_
  refine wl_nil (x_then (hK20 _ _ ?_))
  clear hK20 K20
  refine wc_condF rfl ?_
  refine c_seq (fun K22 hK22 => ?_)
  refine c_reg ?_ -- region 30 exec.go:183
  refine wl (ro_cmp rfl rfl rfl) ?_
  refine wl (ro_assign rfl) ?_
  refine wl_nil (x_then (hK22 _ _ ?_))
  clear hK22 K22
  refine wc_condF rfl ?_
  refine c_seq (fun K23 hK23 => ?_)
  refine c_reg ?_ -- region 35 exec.go:189
  refine wl (ro_cmp rfl rfl rfl) ?_
  refine wl (ro_assign rfl) ?_
  refine wl_nil (x_then (hK23 _ _ ?_))
  clear hK23 K23
  refine wc_condF rfl ?_
  refine c_skip (x_blk (x_then (hK3 _ _ ?_)))
  clear hK3 K3
  refine forget [(4, _)] ⟨rfl, trivial⟩ (fun e => ?_)
  refine c_seq (fun K24 hK24 => ?_)
  refine c_reg ?_ -- region 46 exec.go:201
  refine wl (ro_move rfl) ?_
  refine wl (ro_cmp (r := true) rfl rfl (congrArg some (decide_eq_true (by omega)))) ?_
  refine wl (ro_move rfl) ?_
  refine wlg_yes rfl (ro_move rfl) ?_
  refine wlg_yes rfl (ro_cmp (r := true) rfl rfl (congrArg some (decide_eq_true (by omega)))) ?_
  refine wl (ro_pick rfl rfl rfl) ?_
  refine wl (ro_assign rfl) ?_
  refine wl_nil (x_then (hK24 _ _ ?_))
  clear hK24 K24
  refine c_ret ?_
  refine bp_ret Tryz.results241 rfl ?_
  exact ⟨rfl, hF.thenDrew⟩
set_option maxHeartbeats 8000000 in
theorem snd_19 (E : PE C fg fc w ow a y gs g vars p ids 19 z) : Ret Tryz.prog 241 [ptr C.E.mb, tptr C a.cur, fpt fg gs.length, prt C p, u8n 19, i64c z] w (fun r w' => r = .bool true ∧ Fram none' w w') := by
  have hc := E.hc
  have hk := E.hk
  obtain ⟨V, κ, Vv, U, x, f, fs, o⟩ := E.r.open hc
  have hF : Fram none' w w := Fram.refl _ _
  have hol := E.ol
  have hnd := E.nd
  have hzz := E.hz
  obtain ⟨lT, hT, -, -, -, hT2, -⟩ := o.v.thA o.t.hx
  have hT2 := hT2 2 (.inl rfl)
  obtain ⟨lB, hB1, k1, q1, -, -⟩ := o.frow
  obtain ⟨lP, pa, pb, pc, hP, tP, rp, hups, -, -⟩ := o.v.pro E.hp
  rw [Nat.zero_add] at rp
  obtain ⟨p0, ids0, n1, n2, n3⟩ := o.ns
  obtain ⟨rfl, rfl⟩ : p = p0 ∧ ids = ids0 := by have := hk.symm.trans n1; simpa using this
  have hln := o.t.ln
  have hsl := o.sl
  obtain ⟨cs, hcs, hcl⟩ := o.clos hk
  obtain ⟨cg, cc, lC, up, e6, hC, tC, rC⟩ := o.v.clo hcs
  obtain ⟨lM, hM, m0, m1, m2, m3, m4, m5, m6, -⟩ := o.v.mbA
  rw [e6] at m6
  have hclt := (List.getElem?_eq_some_iff.1 hcs).1
  refine ret_of Tryz.func241 rfl Tryz.ntmps241 rfl ?_
  refine c_seq (fun K1 hK1 => ?_)
  refine c_reg ?_ -- region 0 exec.go:160
  refine wl (ro_assign rfl) ?_
  refine wl_nil (x_then (hK1 _ _ ?_))
  clear hK1 K1
  refine forget [(0, _), (1, _), (2, _), (3, _), (4, _), (5, _)] ⟨rfl, rfl, rfl, rfl, rfl, rfl, trivial⟩ (fun e => ?_)
  refine c_seq (fun K2 hK2 => ?_)
  refine c_pi [(0, false), (1, false), (2, false), (3, false), (4, false), (5, false), (6, false), (7, false), (8, false), (9, false), (10, false), (11, false)] (SameH _) mixed (by kernel_rfl) rfl (by kernel_rfl) (po_then (po_bp)) (sameH_now _ _) ?_ -- region 1 exec.go:161
  refine pi_ro rfl (fun w hS => ro_move rfl) ?_
  refine pi_ro rfl (fun w hS => ro_nilCheck rfl) ?_
  refine pi_ro rfl (fun w hS => ro_fieldAddr (k := 6) rfl fo_89_6) ?_
  refine pi_ro rfl (fun w hS => ro_loadB rfl sc_85 (Blk.of_heap hM hS) (m6)) ?_
  refine pi_ro rfl (fun w hS => ro_move rfl) ?_
  refine pi_ro rfl (fun w hS => ro_nilCheck rfl) ?_
  refine pi_ro rfl (fun w hS => ro_fieldAddr (k := 0) rfl fo_331_0) ?_
  refine pi_ro rfl (fun w hS => ro_loadB rfl sc_3 (Blk.of_heap hB1 hS) (frow_at q1 (by decide))) ?_
  refine pi_ro rfl (fun w hS => ro_indexAddr (et := 209) (k := 3) rfl rfl se_85 (rfl) ((by omega))) ?_
  refine pi_ro rfl (fun w hS => ro_fieldAddr (k := 2) rfl fo_209_2) ?_
  refine pi_ro rfl (fun w hS => ro_loadB rfl sc_3 (Blk.of_heap hC hS) (row_get rC (by decide))) ?_
  refine pi_ro rfl (fun w hS => ro_assign rfl) ?_
  refine pi_nil (x_then (hK2 _ _ ?_))
  clear hK2 K2
  refine c_seq (fun K3 hK3 => ?_)
  refine c_seq (fun K4 hK4 => ?_)
  refine c_reg ?_ -- region 2 exec.go:162
  refine wl (ro_move rfl) ?_
  refine wl_nil (x_then (hK4 _ _ ?_))
  clear hK4 K4
  refine c_block ?_
  refine forget [(0, _), (1, _), (2, _), (3, _), (4, _), (5, _), (13, _), (29, _)] ⟨rfl, rfl, rfl, rfl, rfl, rfl, rfl, rfl, trivial⟩ (fun e => ?_)
  refine c_seq (fun K5 hK5 => ?_)
  refine c_reg ?_ -- region 3 exec.go:163
  refine wl (ro_cmp rfl rfl rfl) ?_
  refine wl (ro_assign rfl) ?_
  refine wl_nil (x_then (hK5 _ _ ?_))
  clear hK5 K5
  refine wc_condF rfl ?_
  refine c_seq (fun K6 hK6 => ?_)
  refine c_seq (fun K7 hK7 => ?_)
  refine c_reg ?_ -- region 5 exec.go:165
  refine wl (ro_cmp rfl rfl rfl) ?_
  refine wl (ro_assign rfl) ?_
  refine wl_nil (x_then (hK7 _ _ ?_))
  clear hK7 K7
  refine wc_condF rfl ?_
  refine c_reg ?_ -- region 6 exec.go:165
  refine wl (ro_cmp rfl rfl rfl) ?_
  refine wl (ro_assign rfl) ?_
  refine wl_nil (x_then (hK6 _ _ ?_))
  clear hK6 K6
  refine wc_condF rfl ?_
  refine c_seq (fun K8 hK8 => ?_)
  refine c_seq (fun K9 hK9 => ?_)
  refine c_reg ?_ -- region 8 exec.go:167
  refine wl (ro_cmp rfl rfl rfl) ?_
  refine wl (ro_assign rfl) ?_
  refine wl_nil (x_then (hK9 _ _ ?_))
  clear hK9 K9
  refine wc_condF rfl ?_
  refine c_reg ?_ -- region 9 exec.go:167
  refine wl (ro_cmp rfl rfl rfl) ?_
  refine wl (ro_assign rfl) ?_
  refine wl_nil (x_then (hK8 _ _ ?_))
  clear hK8 K8
  refine wc_condF rfl ?_
  refine c_seq (fun K10 hK10 => ?_)
  refine c_seq (fun K11 hK11 => ?_)
  refine c_reg ?_ -- region 11 exec.go:169
  refine wl (ro_cmp rfl rfl rfl) ?_
  refine wl (ro_assign rfl) ?_
  refine wl_nil (x_then (hK11 _ _ ?_))
  clear hK11 K11
  refine wc_condF rfl ?_
  refine c_reg ?_ -- region 12 exec.go:169
  refine wl (ro_cmp rfl rfl rfl) ?_
  refine wl (ro_assign rfl) ?_
  refine wl_nil (x_then (hK10 _ _ ?_))
  clear hK10 K10
  refine wc_condF rfl ?_
  refine c_seq (fun K12 hK12 => ?_)
  refine c_reg ?_ -- region 14 exec.go:171
  refine wl (ro_cmp rfl rfl rfl) ?_
  refine wl (ro_assign rfl) ?_
  refine wl_nil (x_then (hK12 _ _ ?_))
  clear hK12 K12
  refine wc_condF rfl ?_
  refine c_seq (fun K13 hK13 => ?_)
  refine c_reg ?_ -- region 16 exec.go:173
  refine wl (ro_cmp rfl rfl rfl) ?_
  refine wl (ro_assign rfl) ?_
  refine wl_nil (x_then (hK13 _ _ ?_))
  clear hK13 K13
  refine wc_condF rfl ?_
  refine c_seq (fun K14 hK14 => ?_)
  refine c_seq (fun K15 hK15 => ?_)
  refine c_reg ?_ -- region 18 exec.go:175
  refine wl (ro_cmp rfl rfl rfl) ?_
  refine wl (ro_assign rfl) ?_
  refine wl_nil (x_then (hK15 _ _ ?_))
  clear hK15 K15
  refine wc_condF rfl ?_
  refine c_seq (fun K16 hK16 => ?_)
  refine c_reg ?_ -- region 19 exec.go:175
  refine wl (ro_cmp rfl rfl rfl) ?_
  refine wl (ro_assign rfl) ?_
  refine wl_nil (x_then (hK16 _ _ ?_))
  clear hK16 K16
  refine wc_condF rfl ?_
  refine c_seq (fun K17 hK17 => ?_)
  refine c_reg ?_ -- region 20 exec.go:175
  refine wl (ro_cmp rfl rfl rfl) ?_
  refine wl (ro_assign rfl) ?_
  refine wl_nil (x_then (hK17 _ _ ?_))
  clear hK17 K17
  refine wc_condF rfl ?_
  refine c_reg ?_ -- region 21 exec.go:175
  refine wl (ro_cmp rfl rfl rfl) ?_
  refine wl (ro_assign rfl) ?_
  refine wl_nil (x_then (hK14 _ _ ?_))
  clear hK14 K14
  refine wc_condF rfl ?_
  refine c_seq (fun K18 hK18 => ?_)
  refine c_reg ?_ -- region 23 exec.go:177
  refine wl (ro_cmp rfl rfl rfl) ?_
  refine wl (ro_assign rfl) ?_
  refine wl_nil (x_then (hK18 _ _ ?_))
  clear hK18 K18
  refine wc_condF rfl ?_
  refine c_seq (fun K19 hK19 => ?_)
  refine c_reg ?_ -- region 25 exec.go:179
  refine wl (ro_cmp rfl rfl rfl) ?_
  refine wl (ro_assign rfl) ?_
  refine wl_nil (x_then (hK19 _ _ ?_))
  clear hK19 K19
  refine wc_condF rfl ?_
  refine c_seq (fun K20 hK20 => ?_)
  refine c_seq (fun K21 hK21 => ?_)
  refine c_reg ?_ -- region 27 exec.go:181
  refine wl (ro_cmp rfl rfl rfl) ?_
  refine wl (ro_assign rfl) ?_
  refine wl_nil (x_then (hK21 _ _ ?_))
  clear hK21 K21
  refine wc_condF rfl ?_
  refine c_reg ?_ -- region 28 exec.go:181
  refine wl (ro_cmp rfl rfl rfl) ?_
  refine wl (ro_assign rfl) ?_
  refine wl_nil (x_then (hK20 _ _ ?_))
  clear hK20 K20
  refine wc_condF rfl ?_
  refine c_seq (fun K22 hK22 => ?_)
  refine c_reg ?_ -- region 30 exec.go:183
  refine wl (ro_cmp rfl rfl rfl) ?_
  refine wl (ro_assign rfl) ?_
  refine wl_nil (x_then (hK22 _ _ ?_))
  clear hK22 K22
  refine wc_condF rfl ?_
  refine c_seq (fun K23 hK23 => ?_)
  refine c_reg ?_ -- region 35 exec.go:189
  refine wl (ro_cmp rfl rfl rfl) ?_
  refine wl (ro_assign rfl) ?_
  refine wl_nil (x_then (hK23 _ _ ?_))
  clear hK23 K23
  refine wc_condF rfl ?_
  refine c_skip (x_blk (x_then (hK3 _ _ ?_)))
  clear hK3 K3
  refine forget [(4, _)] ⟨rfl, trivial⟩ (fun e => ?_)
  refine c_seq (fun K24 hK24 => ?_)
  refine c_reg ?_ -- region 46 exec.go:201
  refine wl (ro_move rfl) ?_
  refine wl (ro_cmp (r := true) rfl rfl (congrArg some (decide_eq_true (by omega)))) ?_
  refine wl (ro_move rfl) ?_
  refine wlg_yes rfl (ro_move rfl) ?_
  refine wlg_yes rfl (ro_cmp (r := true) rfl rfl (congrArg some (decide_eq_true (by omega)))) ?_
  refine wl (ro_pick rfl rfl rfl) ?_
  refine wl (ro_assign rfl) ?_
  refine wl_nil (x_then (hK24 _ _ ?_))
  clear hK24 K24
  refine c_ret ?_
  refine bp_ret Tryz.results241 rfl ?_
  exact ⟨rfl, hF.thenDrew⟩
set_option maxHeartbeats 8000000 in
theorem snd_20 (E : PE C fg fc w ow a y gs g vars p ids 20 z) : Ret Tryz.prog 241 [ptr C.E.mb, tptr C a.cur, fpt fg gs.length, prt C p, u8n 20, i64c z] w (fun r w' => r = .bool true ∧ Fram none' w w') := by
  have hc := E.hc
  have hk := E.hk
  obtain ⟨V, κ, Vv, U, x, f, fs, o⟩ := E.r.open hc
  have hF : Fram none' w w := Fram.refl _ _
  have hol := E.ol
  have hnd := E.nd
  have hzz := E.hz
  obtain ⟨lT, hT, -, -, -, hT2, -⟩ := o.v.thA o.t.hx
  have hT2 := hT2 2 (.inl rfl)
  obtain ⟨lB, hB1, k1, q1, -, -⟩ := o.frow
  obtain ⟨lP, pa, pb, pc, hP, tP, rp, hups, -, -⟩ := o.v.pro E.hp
  rw [Nat.zero_add] at rp
  obtain ⟨p0, ids0, n1, n2, n3⟩ := o.ns
  obtain ⟨rfl, rfl⟩ : p = p0 ∧ ids = ids0 := by have := hk.symm.trans n1; simpa using this
  have hln := o.t.ln
  have hsl := o.sl
  obtain ⟨cs, hcs, hcl⟩ := o.clos hk
  obtain ⟨cg, cc, lC, up, e6, hC, tC, rC⟩ := o.v.clo hcs
  obtain ⟨lM, hM, m0, m1, m2, m3, m4, m5, m6, -⟩ := o.v.mbA
  rw [e6] at m6
  have hclt := (List.getElem?_eq_some_iff.1 hcs).1
  refine ret_of Tryz.func241 rfl Tryz.ntmps241 rfl ?_
  refine c_seq (fun K1 hK1 => ?_)
  refine c_reg ?_ -- region 0 exec.go:160
  refine wl (ro_assign rfl) ?_
  refine wl_nil (x_then (hK1 _ _ ?_))
  clear hK1 K1
  refine forget [(0, _), (1, _), (2, _), (3, _), (4, _), (5, _)] ⟨rfl, rfl, rfl, rfl, rfl, rfl, trivial⟩ (fun e => ?_)
  refine c_seq (fun K2 hK2 => ?_)
  refine c_pi [(0, false), (1, false), (2, false), (3, false), (4, false), (5, false), (6, false), (7, false), (8, false), (9, false), (10, false), (11, false)] (SameH _) mixed (by kernel_rfl) rfl (by kernel_rfl) (po_then (po_bp)) (sameH_now _ _) ?_ -- region 1 exec.go:161
  refine pi_ro rfl (fun w hS => ro_move rfl) ?_
  refine pi_ro rfl (fun w hS => ro_nilCheck rfl) ?_
  refine pi_ro rfl (fun w hS => ro_fieldAddr (k := 6) rfl fo_89_6) ?_
  refine pi_ro rfl (fun w hS => ro_loadB rfl sc_85 (Blk.of_heap hM hS) (m6)) ?_
  refine pi_ro rfl (fun w hS => ro_move rfl) ?_
  refine pi_ro rfl (fun w hS => ro_nilCheck rfl) ?_
  refine pi_ro rfl (fun w hS => ro_fieldAddr (k := 0) rfl fo_331_0) ?_
  refine pi_ro rfl (fun w hS => ro_loadB rfl sc_3 (Blk.of_heap hB1 hS) (frow_at q1 (by decide))) ?_
  refine pi_ro rfl (fun w hS => ro_indexAddr (et := 209) (k := 3) rfl rfl se_85 (rfl) ((by omega))) ?_
  refine pi_ro rfl (fun w hS => ro_fieldAddr (k := 2) rfl fo_209_2) ?_
  refine pi_ro rfl (fun w hS => ro_loadB rfl sc_3 (Blk.of_heap hC hS) (row_get rC (by decide))) ?_
  refine pi_ro rfl (fun w hS => ro_assign rfl) ?_
  refine pi_nil (x_then (hK2 _ _ ?_))
  clear hK2 K2
  refine c_seq (fun K3 hK3 => ?_)
  refine c_seq (fun K4 hK4 => ?_)
  refine c_reg ?_ -- region 2 exec.go:162
  refine wl (ro_move rfl) ?_
  refine wl_nil (x_then (hK4 _ _ ?_))
  clear hK4 K4
  refine c_block ?_
  refine forget [(0, _), (1, _), (2, _), (3, _), (4, _), (5, _), (13, _), (29, _)] ⟨rfl, rfl, rfl, rfl, rfl, rfl, rfl, rfl, trivial⟩ (fun e => ?_)
  refine c_seq (fun K5 hK5 => ?_)
  refine c_reg ?_ -- region 3 exec.go:163
  refine wl (ro_cmp rfl rfl rfl) ?_
  refine wl (ro_assign rfl) ?_
  refine wl_nil (x_then (hK5 _ _ ?_))
  clear hK5 K5
  refine wc_condF rfl ?_
  refine c_seq (fun K6 hK6 => ?_)
  refine c_seq (fun K7 hK7 => ?_)
  refine c_reg ?_ -- region 5 exec.go:165
  refine wl (ro_cmp rfl rfl rfl) ?_
  refine wl (ro_assign rfl) ?_
  refine wl_nil (x_then (hK7 _ _ ?_))
  clear hK7 K7
  refine wc_condF rfl ?_
  refine c_reg ?_ -- region 6 exec.go:165
  refine wl (ro_cmp rfl rfl rfl) ?_
  refine wl (ro_assign rfl) ?_
  refine wl_nil (x_then (hK6 _ _ ?_))
  clear hK6 K6
  refine wc_condF rfl ?_
  refine c_seq (fun K8 hK8 => ?_)
  refine c_seq (fun K9 hK9 => ?_)
  refine c_reg ?_ -- region 8 exec.go:167
  refine wl (ro_cmp rfl rfl rfl) ?_
  refine wl (ro_assign rfl) ?_
  refine wl_nil (x_then (hK9 _ _ ?_))
  clear hK9 K9
  refine wc_condF rfl ?_
  refine c_reg ?_ -- region 9 exec.go:167
  refine wl (ro_cmp rfl rfl rfl) ?_
  refine wl (ro_assign rfl) ?_
  refine wl_nil (x_then (hK8 _ _ ?_))
  clear hK8 K8
  refine wc_condF rfl ?_
  refine c_seq (fun K10 hK10 => ?_)
  refine c_seq (fun K11 hK11 => ?_)
  refine c_reg ?_ -- region 11 exec.go:169
  refine wl (ro_cmp rfl rfl rfl) ?_
  refine wl (ro_assign rfl) ?_
  refine wl_nil (x_then (hK11 _ _ ?_))
  clear hK11 K11
  refine wc_condF rfl ?_
  refine c_reg ?_ -- region 12 exec.go:169
  refine wl (ro_cmp rfl rfl rfl) ?_
  refine wl (ro_assign rfl) ?_
  refine wl_nil (x_then (hK10 _ _ ?_))
  clear hK10 K10
  refine wc_condF rfl ?_
  refine c_seq (fun K12 hK12 => ?_)
  refine c_reg ?_ -- region 14 exec.go:171
  refine wl (ro_cmp rfl rfl rfl) ?_
  refine wl (ro_assign rfl) ?_
  refine wl_nil (x_then (hK12 _ _ ?_))
  clear hK12 K12
  refine wc_condF rfl ?_
  refine c_seq (fun K13 hK13 => ?_)
  refine c_reg ?_ -- region 16 exec.go:173
  refine wl (ro_cmp rfl rfl rfl) ?_
  refine wl (ro_assign rfl) ?_
  refine wl_nil (x_then (hK13 _ _ ?_))
  clear hK13 K13
  refine wc_condF rfl ?_
  refine c_seq (fun K14 hK14 => ?_)
  refine c_seq (fun K15 hK15 => ?_)
  refine c_reg ?_ -- region 18 exec.go:175
  refine wl (ro_cmp rfl rfl rfl) ?_
  refine wl (ro_assign rfl) ?_
  refine wl_nil (x_then (hK15 _ _ ?_))
  clear hK15 K15
  refine wc_condF rfl ?_
  refine c_seq (fun K16 hK16 => ?_)
  refine c_reg ?_ -- region 19 exec.go:175
  refine wl (ro_cmp rfl rfl rfl) ?_
  refine wl (ro_assign rfl) ?_
  refine wl_nil (x_then (hK16 _ _ ?_))
  clear hK16 K16
  refine wc_condF rfl ?_
  refine c_seq (fun K17 hK17 => ?_)
  refine c_reg ?_ -- region 20 exec.go:175
  refine wl (ro_cmp rfl rfl rfl) ?_
  refine wl (ro_assign rfl) ?_
  refine wl_nil (x_then (hK17 _ _ ?_))
  clear hK17 K17
  refine wc_condF rfl ?_
  refine c_reg ?_ -- region 21 exec.go:175
  refine wl (ro_cmp rfl rfl rfl) ?_
  refine wl (ro_assign rfl) ?_
  refine wl_nil (x_then (hK14 _ _ ?_))
  clear hK14 K14
  refine wc_condF rfl ?_
  refine c_seq (fun K18 hK18 => ?_)
  refine c_reg ?_ -- region 23 exec.go:177
  refine wl (ro_cmp rfl rfl rfl) ?_
  refine wl (ro_assign rfl) ?_
  refine wl_nil (x_then (hK18 _ _ ?_))
  clear hK18 K18
  refine wc_condF rfl ?_
  refine c_seq (fun K19 hK19 => ?_)
  refine c_reg ?_ -- region 25 exec.go:179
  refine wl (ro_cmp rfl rfl rfl) ?_
  refine wl (ro_assign rfl) ?_
  refine wl_nil (x_then (hK19 _ _ ?_))
  clear hK19 K19
  refine wc_condF rfl ?_
  refine c_seq (fun K20 hK20 => ?_)
  refine c_seq (fun K21 hK21 => ?_)
  refine c_reg ?_ -- region 27 exec.go:181
  refine wl (ro_cmp rfl rfl rfl) ?_
  refine wl (ro_assign rfl) ?_
  refine wl_nil (x_then (hK21 _ _ ?_))
  clear hK21 K21
  refine wc_condF rfl ?_
  refine c_reg ?_ -- region 28 exec.go:181
  refine wl (ro_cmp rfl rfl rfl) ?_
  refine wl (ro_assign rfl) ?_
  refine wl_nil (x_then (hK20 _ _ ?_))
  clear hK20 K20
  refine wc_condF rfl ?_
  refine c_seq (fun K22 hK22 => ?_)
  refine c_reg ?_ -- region 30 exec.go:183
  refine wl (ro_cmp rfl rfl rfl) ?_
  refine wl (ro_assign rfl) ?_
  refine wl_nil (x_then (hK22 _ _ ?_))
  clear hK22 K22
  refine wc_condF rfl ?_
  refine c_seq (fun K23 hK23 => ?_)
  refine c_reg ?_ -- region 35 exec.go:189
  refine wl (ro_cmp rfl rfl rfl) ?_
  refine wl (ro_assign rfl) ?_
  refine wl_nil (x_then (hK23 _ _ ?_))
  clear hK23 K23
  refine wc_condF rfl ?_
  refine c_skip (x_blk (x_then (hK3 _ _ ?_)))
  clear hK3 K3
  refine forget [(4, _)] ⟨rfl, trivial⟩ (fun e => ?_)
  refine c_seq (fun K24 hK24 => ?_)
  refine c_reg ?_ -- region 46 exec.go:201
  refine wl (ro_move rfl) ?_
  refine wl (ro_cmp (r := true) rfl rfl (congrArg some (decide_eq_true (by omega)))) ?_
  refine wl (ro_move rfl) ?_
  refine wlg_yes rfl (ro_move rfl) ?_
  refine wlg_yes rfl (ro_cmp (r := true) rfl rfl (congrArg some (decide_eq_true (by omega)))) ?_
  refine wl (ro_pick rfl rfl rfl) ?_
  refine wl (ro_assign rfl) ?_
  refine wl_nil (x_then (hK24 _ _ ?_))
  clear hK24 K24
  refine c_ret ?_
  refine bp_ret Tryz.results241 rfl ?_
  exact ⟨rfl, hF.thenDrew⟩
set_option maxHeartbeats 8000000 in
theorem snd_21 (E : PE C fg fc w ow a y gs g vars p ids 21 z) : Ret Tryz.prog 241 [ptr C.E.mb, tptr C a.cur, fpt fg gs.length, prt C p, u8n 21, i64c z] w (fun r w' => r = .bool true ∧ Fram none' w w') := by
  have hc := E.hc
  have hk := E.hk
  obtain ⟨V, κ, Vv, U, x, f, fs, o⟩ := E.r.open hc
  have hF : Fram none' w w := Fram.refl _ _
  have hol := E.ol
  have hnd := E.nd
  have hzz := E.hz
  obtain ⟨lT, hT, -, -, -, hT2, -⟩ := o.v.thA o.t.hx
  have hT2 := hT2 2 (.inl rfl)
  obtain ⟨lB, hB1, k1, q1, -, -⟩ := o.frow
  obtain ⟨lP, pa, pb, pc, hP, tP, rp, hups, -, -⟩ := o.v.pro E.hp
  rw [Nat.zero_add] at rp
  obtain ⟨p0, ids0, n1, n2, n3⟩ := o.ns
  obtain ⟨rfl, rfl⟩ : p = p0 ∧ ids = ids0 := by have := hk.symm.trans n1; simpa using this
  have hln := o.t.ln
  have hsl := o.sl
  obtain ⟨cs, hcs, hcl⟩ := o.clos hk
  obtain ⟨cg, cc, lC, up, e6, hC, tC, rC⟩ := o.v.clo hcs
  obtain ⟨lM, hM, m0, m1, m2, m3, m4, m5, m6, -⟩ := o.v.mbA
  rw [e6] at m6
  have hclt := (List.getElem?_eq_some_iff.1 hcs).1
  have hx : z < (fsAt C.F p).code.length := by have := E.sn.r.2.2.2.2.2.2.2.1 (.inl rfl); rw [E.pr] at this; exact this
  refine ret_of Tryz.func241 rfl Tryz.ntmps241 rfl ?_
  refine c_seq (fun K1 hK1 => ?_)
  refine c_reg ?_ -- region 0 exec.go:160
  refine wl (ro_assign rfl) ?_
  refine wl_nil (x_then (hK1 _ _ ?_))
  clear hK1 K1
  refine forget [(0, _), (1, _), (2, _), (3, _), (4, _), (5, _)] ⟨rfl, rfl, rfl, rfl, rfl, rfl, trivial⟩ (fun e => ?_)
  refine c_seq (fun K2 hK2 => ?_)
  refine c_pi [(0, false), (1, false), (2, false), (3, false), (4, false), (5, false), (6, false), (7, false), (8, false), (9, false), (10, false), (11, false)] (SameH _) mixed (by kernel_rfl) rfl (by kernel_rfl) (po_then (po_bp)) (sameH_now _ _) ?_ -- region 1 exec.go:161
  refine pi_ro rfl (fun w hS => ro_move rfl) ?_
  refine pi_ro rfl (fun w hS => ro_nilCheck rfl) ?_
  refine pi_ro rfl (fun w hS => ro_fieldAddr (k := 6) rfl fo_89_6) ?_
  refine pi_ro rfl (fun w hS => ro_loadB rfl sc_85 (Blk.of_heap hM hS) (m6)) ?_
  refine pi_ro rfl (fun w hS => ro_move rfl) ?_
  refine pi_ro rfl (fun w hS => ro_nilCheck rfl) ?_
  refine pi_ro rfl (fun w hS => ro_fieldAddr (k := 0) rfl fo_331_0) ?_
  refine pi_ro rfl (fun w hS => ro_loadB rfl sc_3 (Blk.of_heap hB1 hS) (frow_at q1 (by decide))) ?_
  refine pi_ro rfl (fun w hS => ro_indexAddr (et := 209) (k := 3) rfl rfl se_85 (rfl) ((by omega))) ?_
  refine pi_ro rfl (fun w hS => ro_fieldAddr (k := 2) rfl fo_209_2) ?_
  refine pi_ro rfl (fun w hS => ro_loadB rfl sc_3 (Blk.of_heap hC hS) (row_get rC (by decide))) ?_
  refine pi_ro rfl (fun w hS => ro_assign rfl) ?_
  refine pi_nil (x_then (hK2 _ _ ?_))
  clear hK2 K2
  refine c_seq (fun K3 hK3 => ?_)
  refine c_seq (fun K4 hK4 => ?_)
  refine c_reg ?_ -- region 2 exec.go:162
  refine wl (ro_move rfl) ?_
  refine wl_nil (x_then (hK4 _ _ ?_))
  clear hK4 K4
  refine c_block ?_
  refine forget [(0, _), (1, _), (2, _), (3, _), (4, _), (5, _), (13, _), (29, _)] ⟨rfl, rfl, rfl, rfl, rfl, rfl, rfl, rfl, trivial⟩ (fun e => ?_)
  refine c_seq (fun K5 hK5 => ?_)
  refine c_reg ?_ -- region 3 exec.go:163
  refine wl (ro_cmp rfl rfl rfl) ?_
  refine wl (ro_assign rfl) ?_
  refine wl_nil (x_then (hK5 _ _ ?_))
  clear hK5 K5
  refine wc_condF rfl ?_
  refine c_seq (fun K6 hK6 => ?_)
  refine c_seq (fun K7 hK7 => ?_)
  refine c_reg ?_ -- region 5 exec.go:165
  refine wl (ro_cmp rfl rfl rfl) ?_
  refine wl (ro_assign rfl) ?_
  refine wl_nil (x_then (hK7 _ _ ?_))
  clear hK7 K7
  refine wc_condF rfl ?_
  refine c_reg ?_ -- region 6 exec.go:165
  refine wl (ro_cmp rfl rfl rfl) ?_
  refine wl (ro_assign rfl) ?_
  refine wl_nil (x_then (hK6 _ _ ?_))
  clear hK6 K6
  refine wc_condF rfl ?_
  refine c_seq (fun K8 hK8 => ?_)
  refine c_seq (fun K9 hK9 => ?_)
  refine c_reg ?_ -- region 8 exec.go:167
  refine wl (ro_cmp rfl rfl rfl) ?_
  refine wl (ro_assign rfl) ?_
  refine wl_nil (x_then (hK9 _ _ ?_))
  clear hK9 K9
  refine wc_condF rfl ?_
  refine c_reg ?_ -- region 9 exec.go:167
  refine wl (ro_cmp rfl rfl rfl) ?_
  refine wl (ro_assign rfl) ?_
  refine wl_nil (x_then (hK8 _ _ ?_))
  clear hK8 K8
  refine wc_condF rfl ?_
  refine c_seq (fun K10 hK10 => ?_)
  refine c_seq (fun K11 hK11 => ?_)
  refine c_reg ?_ -- region 11 exec.go:169
  refine wl (ro_cmp rfl rfl rfl) ?_
  refine wl (ro_assign rfl) ?_
  refine wl_nil (x_then (hK11 _ _ ?_))
  clear hK11 K11
  refine wc_condF rfl ?_
  refine c_reg ?_ -- region 12 exec.go:169
  refine wl (ro_cmp rfl rfl rfl) ?_
  refine wl (ro_assign rfl) ?_
  refine wl_nil (x_then (hK10 _ _ ?_))
  clear hK10 K10
  refine wc_condF rfl ?_
  refine c_seq (fun K12 hK12 => ?_)
  refine c_reg ?_ -- region 14 exec.go:171
  refine wl (ro_cmp rfl rfl rfl) ?_
  refine wl (ro_assign rfl) ?_
  refine wl_nil (x_then (hK12 _ _ ?_))
  clear hK12 K12
  refine wc_condF rfl ?_
  refine c_seq (fun K13 hK13 => ?_)
  refine c_reg ?_ -- region 16 exec.go:173
  refine wl (ro_cmp rfl rfl rfl) ?_
  refine wl (ro_assign rfl) ?_
  refine wl_nil (x_then (hK13 _ _ ?_))
  clear hK13 K13
  refine wc_condF rfl ?_
  refine c_seq (fun K14 hK14 => ?_)
  refine c_seq (fun K15 hK15 => ?_)
  refine c_reg ?_ -- region 18 exec.go:175
  refine wl (ro_cmp rfl rfl rfl) ?_
  refine wl (ro_assign rfl) ?_
  refine wl_nil (x_then (hK15 _ _ ?_))
  clear hK15 K15
  refine wc_condT rfl ?_
  refine c_skip (x_then (hK14 _ _ ?_))
  clear hK14 K14
  refine wc_condT rfl ?_
  refine c_seq (fun K16 hK16 => ?_)
  refine c_reg ?_ -- region 22 exec.go:176
  refine wl (ro_move rfl) ?_
  refine wl (ro_move rfl) ?_
  refine wl (ro_nilCheck rfl) ?_
  refine wl (ro_fieldAddr (k := 7) rfl fo_258_7) ?_
  refine wl (ro_loadB rfl sc_3 (hP) (row_get rp (by decide))) ?_
  refine wl (ro_cmp (r := true) rfl rfl (congrArg some (decide_eq_true (by omega)))) ?_
  refine wl (ro_assign rfl) ?_
  refine wl_nil (x_then (hK16 _ _ ?_))
  clear hK16 K16
  refine c_ret (x_blkR (x_thenR ?_))
  refine bp_ret Tryz.results241 rfl ?_
  exact ⟨rfl, hF.thenDrew⟩
set_option maxHeartbeats 8000000 in
theorem snd_22 (E : PE C fg fc w ow a y gs g vars p ids 22 z) : Ret Tryz.prog 241 [ptr C.E.mb, tptr C a.cur, fpt fg gs.length, prt C p, u8n 22, i64c z] w (fun r w' => r = .bool true ∧ Fram none' w w') := by
  have hc := E.hc
  have hk := E.hk
  obtain ⟨V, κ, Vv, U, x, f, fs, o⟩ := E.r.open hc
  have hF : Fram none' w w := Fram.refl _ _
  have hol := E.ol
  have hnd := E.nd
  have hzz := E.hz
  obtain ⟨lT, hT, -, -, -, hT2, -⟩ := o.v.thA o.t.hx
  have hT2 := hT2 2 (.inl rfl)
  obtain ⟨lB, hB1, k1, q1, -, -⟩ := o.frow
  obtain ⟨lP, pa, pb, pc, hP, tP, rp, hups, -, -⟩ := o.v.pro E.hp
  rw [Nat.zero_add] at rp
  obtain ⟨p0, ids0, n1, n2, n3⟩ := o.ns
  obtain ⟨rfl, rfl⟩ : p = p0 ∧ ids = ids0 := by have := hk.symm.trans n1; simpa using this
  have hln := o.t.ln
  have hsl := o.sl
  obtain ⟨cs, hcs, hcl⟩ := o.clos hk
  obtain ⟨cg, cc, lC, up, e6, hC, tC, rC⟩ := o.v.clo hcs
  obtain ⟨lM, hM, m0, m1, m2, m3, m4, m5, m6, -⟩ := o.v.mbA
  rw [e6] at m6
  have hclt := (List.getElem?_eq_some_iff.1 hcs).1
  have hx : z < (fsAt C.F p).code.length := by have := E.sn.r.2.2.2.2.2.2.2.1 (.inr (.inl rfl)); rw [E.pr] at this; exact this
  refine ret_of Tryz.func241 rfl Tryz.ntmps241 rfl ?_
  refine c_seq (fun K1 hK1 => ?_)
  refine c_reg ?_ -- region 0 exec.go:160
  refine wl (ro_assign rfl) ?_
  refine wl_nil (x_then (hK1 _ _ ?_))
  clear hK1 K1
  refine forget [(0, _), (1, _), (2, _), (3, _), (4, _), (5, _)] ⟨rfl, rfl, rfl, rfl, rfl, rfl, trivial⟩ (fun e => ?_)
  refine c_seq (fun K2 hK2 => ?_)
  refine c_pi [(0, false), (1, false), (2, false), (3, false), (4, false), (5, false), (6, false), (7, false), (8, false), (9, false), (10, false), (11, false)] (SameH _) mixed (by kernel_rfl) rfl (by kernel_rfl) (po_then (po_bp)) (sameH_now _ _) ?_ -- region 1 exec.go:161
  refine pi_ro rfl (fun w hS => ro_move rfl) ?_
  refine pi_ro rfl (fun w hS => ro_nilCheck rfl) ?_
  refine pi_ro rfl (fun w hS => ro_fieldAddr (k := 6) rfl fo_89_6) ?_
  refine pi_ro rfl (fun w hS => ro_loadB rfl sc_85 (Blk.of_heap hM hS) (m6)) ?_
  refine pi_ro rfl (fun w hS => ro_move rfl) ?_
  refine pi_ro rfl (fun w hS => ro_nilCheck rfl) ?_
  refine pi_ro rfl (fun w hS => ro_fieldAddr (k := 0) rfl fo_331_0) ?_
  refine pi_ro rfl (fun w hS => ro_loadB rfl sc_3 (Blk.of_heap hB1 hS) (frow_at q1 (by decide))) ?_
  refine pi_ro rfl (fun w hS => ro_indexAddr (et := 209) (k := 3) rfl rfl se_85 (rfl) ((by omega))) ?_
  refine pi_ro rfl (fun w hS => ro_fieldAddr (k := 2) rfl fo_209_2) ?_
  refine pi_ro rfl (fun w hS => ro_loadB rfl sc_3 (Blk.of_heap hC hS) (row_get rC (by decide))) ?_
  refine pi_ro rfl (fun w hS => ro_assign rfl) ?_
  refine pi_nil (x_then (hK2 _ _ ?_))
  clear hK2 K2
  refine c_seq (fun K3 hK3 => ?_)
  refine c_seq (fun K4 hK4 => ?_)
  refine c_reg ?_ -- region 2 exec.go:162
  refine wl (ro_move rfl) ?_
  refine wl_nil (x_then (hK4 _ _ ?_))
  clear hK4 K4
  refine c_block ?_
  refine forget [(0, _), (1, _), (2, _), (3, _), (4, _), (5, _), (13, _), (29, _)] ⟨rfl, rfl, rfl, rfl, rfl, rfl, rfl, rfl, trivial⟩ (fun e => ?_)
  refine c_seq (fun K5 hK5 => ?_)
  refine c_reg ?_ -- region 3 exec.go:163
  refine wl (ro_cmp rfl rfl rfl) ?_
  refine wl (ro_assign rfl) ?_
  refine wl_nil (x_then (hK5 _ _ ?_))
  clear hK5 K5
  refine wc_condF rfl ?_
  refine c_seq (fun K6 hK6 => ?_)
  refine c_seq (fun K7 hK7 => ?_)
  refine c_reg ?_ -- region 5 exec.go:165
  refine wl (ro_cmp rfl rfl rfl) ?_
  refine wl (ro_assign rfl) ?_
  refine wl_nil (x_then (hK7 _ _ ?_))
  clear hK7 K7
  refine wc_condF rfl ?_
  refine c_reg ?_ -- region 6 exec.go:165
  refine wl (ro_cmp rfl rfl rfl) ?_
  refine wl (ro_assign rfl) ?_
  refine wl_nil (x_then (hK6 _ _ ?_))
  clear hK6 K6
  refine wc_condF rfl ?_
  refine c_seq (fun K8 hK8 => ?_)
  refine c_seq (fun K9 hK9 => ?_)
  refine c_reg ?_ -- region 8 exec.go:167
  refine wl (ro_cmp rfl rfl rfl) ?_
  refine wl (ro_assign rfl) ?_
  refine wl_nil (x_then (hK9 _ _ ?_))
  clear hK9 K9
  refine wc_condF rfl ?_
  refine c_reg ?_ -- region 9 exec.go:167
  refine wl (ro_cmp rfl rfl rfl) ?_
  refine wl (ro_assign rfl) ?_
  refine wl_nil (x_then (hK8 _ _ ?_))
  clear hK8 K8
  refine wc_condF rfl ?_
  refine c_seq (fun K10 hK10 => ?_)
  refine c_seq (fun K11 hK11 => ?_)
  refine c_reg ?_ -- region 11 exec.go:169
  refine wl (ro_cmp rfl rfl rfl) ?_
  refine wl (ro_assign rfl) ?_
  refine wl_nil (x_then (hK11 _ _ ?_))
  clear hK11 K11
  refine wc_condF rfl ?_
  refine c_reg ?_ -- region 12 exec.go:169
  refine wl (ro_cmp rfl rfl rfl) ?_
  refine wl (ro_assign rfl) ?_
  refine wl_nil (x_then (hK10 _ _ ?_))
  clear hK10 K10
  refine wc_condF rfl ?_
  refine c_seq (fun K12 hK12 => ?_)
  refine c_reg ?_ -- region 14 exec.go:171
  refine wl (ro_cmp rfl rfl rfl) ?_
  refine wl (ro_assign rfl) ?_
  refine wl_nil (x_then (hK12 _ _ ?_))
  clear hK12 K12
  refine wc_condF rfl ?_
  refine c_seq (fun K13 hK13 => ?_)
  refine c_reg ?_ -- region 16 exec.go:173
  refine wl (ro_cmp rfl rfl rfl) ?_
  refine wl (ro_assign rfl) ?_
  refine wl_nil (x_then (hK13 _ _ ?_))
  clear hK13 K13
  refine wc_condF rfl ?_
  refine c_seq (fun K14 hK14 => ?_)
  refine c_seq (fun K15 hK15 => ?_)
  refine c_reg ?_ -- region 18 exec.go:175
  refine wl (ro_cmp rfl rfl rfl) ?_
  refine wl (ro_assign rfl) ?_
  refine wl_nil (x_then (hK15 _ _ ?_))
  clear hK15 K15
  refine wc_condF rfl ?_
  refine c_seq (fun K16 hK16 => ?_)
  refine c_reg ?_ -- region 19 exec.go:175
  refine wl (ro_cmp rfl rfl rfl) ?_
  refine wl (ro_assign rfl) ?_
  refine wl_nil (x_then (hK16 _ _ ?_))
  clear hK16 K16
  refine wc_condT rfl ?_
  refine c_skip (x_then (hK14 _ _ ?_))
  clear hK14 K14
  refine wc_condT rfl ?_
  refine c_seq (fun K17 hK17 => ?_)
  refine c_reg ?_ -- region 22 exec.go:176
  refine wl (ro_move rfl) ?_
  refine wl (ro_move rfl) ?_
  refine wl (ro_nilCheck rfl) ?_
  refine wl (ro_fieldAddr (k := 7) rfl fo_258_7) ?_
  refine wl (ro_loadB rfl sc_3 (hP) (row_get rp (by decide))) ?_
  refine wl (ro_cmp (r := true) rfl rfl (congrArg some (decide_eq_true (by omega)))) ?_
  refine wl (ro_assign rfl) ?_
  refine wl_nil (x_then (hK17 _ _ ?_))
  clear hK17 K17
  refine c_ret (x_blkR (x_thenR ?_))
  refine bp_ret Tryz.results241 rfl ?_
  exact ⟨rfl, hF.thenDrew⟩
set_option maxHeartbeats 8000000 in
theorem snd_23 (E : PE C fg fc w ow a y gs g vars p ids 23 z) : Ret Tryz.prog 241 [ptr C.E.mb, tptr C a.cur, fpt fg gs.length, prt C p, u8n 23, i64c z] w (fun r w' => r = .bool true ∧ Fram none' w w') := by
  have hc := E.hc
  have hk := E.hk
  obtain ⟨V, κ, Vv, U, x, f, fs, o⟩ := E.r.open hc
  have hF : Fram none' w w := Fram.refl _ _
  have hol := E.ol
  have hnd := E.nd
  have hzz := E.hz
  obtain ⟨lT, hT, -, -, -, hT2, -⟩ := o.v.thA o.t.hx
  have hT2 := hT2 2 (.inl rfl)
  obtain ⟨lB, hB1, k1, q1, -, -⟩ := o.frow
  obtain ⟨lP, pa, pb, pc, hP, tP, rp, hups, -, -⟩ := o.v.pro E.hp
  rw [Nat.zero_add] at rp
  obtain ⟨p0, ids0, n1, n2, n3⟩ := o.ns
  obtain ⟨rfl, rfl⟩ : p = p0 ∧ ids = ids0 := by have := hk.symm.trans n1; simpa using this
  have hln := o.t.ln
  have hsl := o.sl
  obtain ⟨cs, hcs, hcl⟩ := o.clos hk
  obtain ⟨cg, cc, lC, up, e6, hC, tC, rC⟩ := o.v.clo hcs
  obtain ⟨lM, hM, m0, m1, m2, m3, m4, m5, m6, -⟩ := o.v.mbA
  rw [e6] at m6
  have hclt := (List.getElem?_eq_some_iff.1 hcs).1
  have hx : z < (fsAt C.F p).code.length := by have := E.sn.r.2.2.2.2.2.2.2.1 (.inr (.inr (.inl rfl))); rw [E.pr] at this; exact this
  refine ret_of Tryz.func241 rfl Tryz.ntmps241 rfl ?_
  refine c_seq (fun K1 hK1 => ?_)
  refine c_reg ?_ -- region 0 exec.go:160
  refine wl (ro_assign rfl) ?_
  refine wl_nil (x_then (hK1 _ _ ?_))
  clear hK1 K1
  refine forget [(0, _), (1, _), (2, _), (3, _), (4, _), (5, _)] ⟨rfl, rfl, rfl, rfl, rfl, rfl, trivial⟩ (fun e => ?_)
  refine c_seq (fun K2 hK2 => ?_)
  refine c_pi [(0, false), (1, false), (2, false), (3, false), (4, false), (5, false), (6, false), (7, false), (8, false), (9, false), (10, false), (11, false)] (SameH _) mixed (by kernel_rfl) rfl (by kernel_rfl) (po_then (po_bp)) (sameH_now _ _) ?_ -- region 1 exec.go:161
  refine pi_ro rfl (fun w hS => ro_move rfl) ?_
  refine pi_ro rfl (fun w hS => ro_nilCheck rfl) ?_
  refine pi_ro rfl (fun w hS => ro_fieldAddr (k := 6) rfl fo_89_6) ?_
  refine pi_ro rfl (fun w hS => ro_loadB rfl sc_85 (Blk.of_heap hM hS) (m6)) ?_
  refine pi_ro rfl (fun w hS => ro_move rfl) ?_
  refine pi_ro rfl (fun w hS => ro_nilCheck rfl) ?_
  refine pi_ro rfl (fun w hS => ro_fieldAddr (k := 0) rfl fo_331_0) ?_
  refine pi_ro rfl (fun w hS => ro_loadB rfl sc_3 (Blk.of_heap hB1 hS) (frow_at q1 (by decide))) ?_
  refine pi_ro rfl (fun w hS => ro_indexAddr (et := 209) (k := 3) rfl rfl se_85 (rfl) ((by omega))) ?_
  refine pi_ro rfl (fun w hS => ro_fieldAddr (k := 2) rfl fo_209_2) ?_
  refine pi_ro rfl (fun w hS => ro_loadB rfl sc_3 (Blk.of_heap hC hS) (row_get rC (by decide))) ?_
  refine pi_ro rfl (fun w hS => ro_assign rfl) ?_
  refine pi_nil (x_then (hK2 _ _ ?_))
  clear hK2 K2
  refine c_seq (fun K3 hK3 => ?_)
  refine c_seq (fun K4 hK4 => ?_)
  refine c_reg ?_ -- region 2 exec.go:162
  refine wl (ro_move rfl) ?_
  refine wl_nil (x_then (hK4 _ _ ?_))
  clear hK4 K4
  refine c_block ?_
  refine forget [(0, _), (1, _), (2, _), (3, _), (4, _), (5, _), (13, _), (29, _)] ⟨rfl, rfl, rfl, rfl, rfl, rfl, rfl, rfl, trivial⟩ (fun e => ?_)
  refine c_seq (fun K5 hK5 => ?_)
  refine c_reg ?_ -- region 3 exec.go:163
  refine wl (ro_cmp rfl rfl rfl) ?_
  refine wl (ro_assign rfl) ?_
  refine wl_nil (x_then (hK5 _ _ ?_))
  clear hK5 K5
  refine wc_condF rfl ?_
  refine c_seq (fun K6 hK6 => ?_)
  refine c_seq (fun K7 hK7 => ?_)
  refine c_reg ?_ -- region 5 exec.go:165
  refine wl (ro_cmp rfl rfl rfl) ?_
  refine wl (ro_assign rfl) ?_
  refine wl_nil (x_then (hK7 _ _ ?_))
  clear hK7 K7
  refine wc_condF rfl ?_
  refine c_reg ?_ -- region 6 exec.go:165
  refine wl (ro_cmp rfl rfl rfl) ?_
  refine wl (ro_assign rfl) ?_
  refine wl_nil (x_then (hK6 _ _ ?_))
  clear hK6 K6
  refine wc_condF rfl ?_
  refine c_seq (fun K8 hK8 => ?_)
  refine c_seq (fun K9 hK9 => ?_)
  refine c_reg ?_ -- region 8 exec.go:167
  refine wl (ro_cmp rfl rfl rfl) ?_
  refine wl (ro_assign rfl) ?_
  refine wl_nil (x_then (hK9 _ _ ?_))
  clear hK9 K9
  refine wc_condF rfl ?_
  refine c_reg ?_ -- region 9 exec.go:167
  refine wl (ro_cmp rfl rfl rfl) ?_
  refine wl (ro_assign rfl) ?_
  refine wl_nil (x_then (hK8 _ _ ?_))
  clear hK8 K8
  refine wc_condF rfl ?_
  refine c_seq (fun K10 hK10 => ?_)
  refine c_seq (fun K11 hK11 => ?_)
  refine c_reg ?_ -- region 11 exec.go:169
  refine wl (ro_cmp rfl rfl rfl) ?_
  refine wl (ro_assign rfl) ?_
  refine wl_nil (x_then (hK11 _ _ ?_))
  clear hK11 K11
  refine wc_condF rfl ?_
  refine c_reg ?_ -- region 12 exec.go:169
  refine wl (ro_cmp rfl rfl rfl) ?_
  refine wl (ro_assign rfl) ?_
  refine wl_nil (x_then (hK10 _ _ ?_))
  clear hK10 K10
  refine wc_condF rfl ?_
  refine c_seq (fun K12 hK12 => ?_)
  refine c_reg ?_ -- region 14 exec.go:171
  refine wl (ro_cmp rfl rfl rfl) ?_
  refine wl (ro_assign rfl) ?_
  refine wl_nil (x_then (hK12 _ _ ?_))
  clear hK12 K12
  refine wc_condF rfl ?_
  refine c_seq (fun K13 hK13 => ?_)
  refine c_reg ?_ -- region 16 exec.go:173
  refine wl (ro_cmp rfl rfl rfl) ?_
  refine wl (ro_assign rfl) ?_
  refine wl_nil (x_then (hK13 _ _ ?_))
  clear hK13 K13
  refine wc_condF rfl ?_
  refine c_seq (fun K14 hK14 => ?_)
  refine c_seq (fun K15 hK15 => ?_)
  refine c_reg ?_ -- region 18 exec.go:175
  refine wl (ro_cmp rfl rfl rfl) ?_
  refine wl (ro_assign rfl) ?_
  refine wl_nil (x_then (hK15 _ _ ?_))
  clear hK15 K15
  refine wc_condF rfl ?_
  refine c_seq (fun K16 hK16 => ?_)
  refine c_reg ?_ -- region 19 exec.go:175
  refine wl (ro_cmp rfl rfl rfl) ?_
  refine wl (ro_assign rfl) ?_
  refine wl_nil (x_then (hK16 _ _ ?_))
  clear hK16 K16
  refine wc_condF rfl ?_
  refine c_seq (fun K17 hK17 => ?_)
  refine c_reg ?_ -- region 20 exec.go:175
  refine wl (ro_cmp rfl rfl rfl) ?_
  refine wl (ro_assign rfl) ?_
  refine wl_nil (x_then (hK17 _ _ ?_))
  clear hK17 K17
  refine wc_condT rfl ?_
  refine c_skip (x_then (hK14 _ _ ?_))
  clear hK14 K14
  refine wc_condT rfl ?_
  refine c_seq (fun K18 hK18 => ?_)
  refine c_reg ?_ -- region 22 exec.go:176
  refine wl (ro_move rfl) ?_
  refine wl (ro_move rfl) ?_
  refine wl (ro_nilCheck rfl) ?_
  refine wl (ro_fieldAddr (k := 7) rfl fo_258_7) ?_
  refine wl (ro_loadB rfl sc_3 (hP) (row_get rp (by decide))) ?_
  refine wl (ro_cmp (r := true) rfl rfl (congrArg some (decide_eq_true (by omega)))) ?_
  refine wl (ro_assign rfl) ?_
  refine wl_nil (x_then (hK18 _ _ ?_))
  clear hK18 K18
  refine c_ret (x_blkR (x_thenR ?_))
  refine bp_ret Tryz.results241 rfl ?_
  exact ⟨rfl, hF.thenDrew⟩
set_option maxHeartbeats 8000000 in
theorem snd_24 (E : PE C fg fc w ow a y gs g vars p ids 24 z) : Ret Tryz.prog 241 [ptr C.E.mb, tptr C a.cur, fpt fg gs.length, prt C p, u8n 24, i64c z] w (fun r w' => r = .bool true ∧ Fram none' w w') := by
  have hc := E.hc
  have hk := E.hk
  obtain ⟨V, κ, Vv, U, x, f, fs, o⟩ := E.r.open hc
  have hF : Fram none' w w := Fram.refl _ _
  have hol := E.ol
  have hnd := E.nd
  have hzz := E.hz
  obtain ⟨lT, hT, -, -, -, hT2, -⟩ := o.v.thA o.t.hx
  have hT2 := hT2 2 (.inl rfl)
  obtain ⟨lB, hB1, k1, q1, -, -⟩ := o.frow
  obtain ⟨lP, pa, pb, pc, hP, tP, rp, hups, -, -⟩ := o.v.pro E.hp
  rw [Nat.zero_add] at rp
  obtain ⟨p0, ids0, n1, n2, n3⟩ := o.ns
  obtain ⟨rfl, rfl⟩ : p = p0 ∧ ids = ids0 := by have := hk.symm.trans n1; simpa using this
  have hln := o.t.ln
  have hsl := o.sl
  obtain ⟨cs, hcs, hcl⟩ := o.clos hk
  obtain ⟨cg, cc, lC, up, e6, hC, tC, rC⟩ := o.v.clo hcs
  obtain ⟨lM, hM, m0, m1, m2, m3, m4, m5, m6, -⟩ := o.v.mbA
  rw [e6] at m6
  have hclt := (List.getElem?_eq_some_iff.1 hcs).1
  have hx : z < (fsAt C.F p).code.length := by have := E.sn.r.2.2.2.2.2.2.2.1 (.inr (.inr (.inr rfl))); rw [E.pr] at this; exact this
  refine ret_of Tryz.func241 rfl Tryz.ntmps241 rfl ?_
  refine c_seq (fun K1 hK1 => ?_)
  refine c_reg ?_ -- region 0 exec.go:160
  refine wl (ro_assign rfl) ?_
  refine wl_nil (x_then (hK1 _ _ ?_))
  clear hK1 K1
  refine forget [(0, _), (1, _), (2, _), (3, _), (4, _), (5, _)] ⟨rfl, rfl, rfl, rfl, rfl, rfl, trivial⟩ (fun e => ?_)
  refine c_seq (fun K2 hK2 => ?_)
  refine c_pi [(0, false), (1, false), (2, false), (3, false), (4, false), (5, false), (6, false), (7, false), (8, false), (9, false), (10, false), (11, false)] (SameH _) mixed (by kernel_rfl) rfl (by kernel_rfl) (po_then (po_bp)) (sameH_now _ _) ?_ -- region 1 exec.go:161
  refine pi_ro rfl (fun w hS => ro_move rfl) ?_
  refine pi_ro rfl (fun w hS => ro_nilCheck rfl) ?_
  refine pi_ro rfl (fun w hS => ro_fieldAddr (k := 6) rfl fo_89_6) ?_
  refine pi_ro rfl (fun w hS => ro_loadB rfl sc_85 (Blk.of_heap hM hS) (m6)) ?_
  refine pi_ro rfl (fun w hS => ro_move rfl) ?_
  refine pi_ro rfl (fun w hS => ro_nilCheck rfl) ?_
  refine pi_ro rfl (fun w hS => ro_fieldAddr (k := 0) rfl fo_331_0) ?_
  refine pi_ro rfl (fun w hS => ro_loadB rfl sc_3 (Blk.of_heap hB1 hS) (frow_at q1 (by decide))) ?_
  refine pi_ro rfl (fun w hS => ro_indexAddr (et := 209) (k := 3) rfl rfl se_85 (rfl) ((by omega))) ?_
  refine pi_ro rfl (fun w hS => ro_fieldAddr (k := 2) rfl fo_209_2) ?_
  refine pi_ro rfl (fun w hS => ro_loadB rfl sc_3 (Blk.of_heap hC hS) (row_get rC (by decide))) ?_
  refine pi_ro rfl (fun w hS => ro_assign rfl) ?_
  refine pi_nil (x_then (hK2 _ _ ?_))
  clear hK2 K2
  refine c_seq (fun K3 hK3 => ?_)
  refine c_seq (fun K4 hK4 => ?_)
  refine c_reg ?_ -- region 2 exec.go:162
  refine wl (ro_move rfl) ?_
  refine wl_nil (x_then (hK4 _ _ ?_))
  clear hK4 K4
  refine c_block ?_
  refine forget [(0, _), (1, _), (2, _), (3, _), (4, _), (5, _), (13, _), (29, _)] ⟨rfl, rfl, rfl, rfl, rfl, rfl, rfl, rfl, trivial⟩ (fun e => ?_)
  refine c_seq (fun K5 hK5 => ?_)
  refine c_reg ?_ -- region 3 exec.go:163
  refine wl (ro_cmp rfl rfl rfl) ?_
  refine wl (ro_assign rfl) ?_
  refine wl_nil (x_then (hK5 _ _ ?_))
  clear hK5 K5
  refine wc_condF rfl ?_
  refine c_seq (fun K6 hK6 => ?_)
  refine c_seq (fun K7 hK7 => ?_)
  refine c_reg ?_ -- region 5 exec.go:165
  refine wl (ro_cmp rfl rfl rfl) ?_
  refine wl (ro_assign rfl) ?_
  refine wl_nil (x_then (hK7 _ _ ?_))
  clear hK7 K7
  refine wc_condF rfl ?_
  refine c_reg ?_ -- region 6 exec.go:165
  refine wl (ro_cmp rfl rfl rfl) ?_
  refine wl (ro_assign rfl) ?_
  refine wl_nil (x_then (hK6 _ _ ?_))
  clear hK6 K6
  refine wc_condF rfl ?_
  refine c_seq (fun K8 hK8 => ?_)
  refine c_seq (fun K9 hK9 => ?_)
  refine c_reg ?_ -- region 8 exec.go:167
  refine wl (ro_cmp rfl rfl rfl) ?_
  refine wl (ro_assign rfl) ?_
  refine wl_nil (x_then (hK9 _ _ ?_))
  clear hK9 K9
  refine wc_condF rfl ?_
  refine c_reg ?_ -- region 9 exec.go:167
  refine wl (ro_cmp rfl rfl rfl) ?_
  refine wl (ro_assign rfl) ?_
  refine wl_nil (x_then (hK8 _ _ ?_))
  clear hK8 K8
  refine wc_condF rfl ?_
  refine c_seq (fun K10 hK10 => ?_)
  refine c_seq (fun K11 hK11 => ?_)
  refine c_reg ?_ -- region 11 exec.go:169
  refine wl (ro_cmp rfl rfl rfl) ?_
  refine wl (ro_assign rfl) ?_
  refine wl_nil (x_then (hK11 _ _ ?_))
  clear hK11 K11
  refine wc_condF rfl ?_
  refine c_reg ?_ -- region 12 exec.go:169
  refine wl (ro_cmp rfl rfl rfl) ?_
  refine wl (ro_assign rfl) ?_
  refine wl_nil (x_then (hK10 _ _ ?_))
  clear hK10 K10
  refine wc_condF rfl ?_
  refine c_seq (fun K12 hK12 => ?_)
  refine c_reg ?_ -- region 14 exec.go:171
  refine wl (ro_cmp rfl rfl rfl) ?_
  refine wl (ro_assign rfl) ?_
  refine wl_nil (x_then (hK12 _ _ ?_))
  clear hK12 K12
  refine wc_condF rfl ?_
  refine c_seq (fun K13 hK13 => ?_)
  refine c_reg ?_ -- region 16 exec.go:173
  refine wl (ro_cmp rfl rfl rfl) ?_
  refine wl (ro_assign rfl) ?_
  refine wl_nil (x_then (hK13 _ _ ?_))
  clear hK13 K13
  refine wc_condF rfl ?_
  refine c_seq (fun K14 hK14 => ?_)
  refine c_seq (fun K15 hK15 => ?_)
  refine c_reg ?_ -- region 18 exec.go:175
  refine wl (ro_cmp rfl rfl rfl) ?_
  refine wl (ro_assign rfl) ?_
  refine wl_nil (x_then (hK15 _ _ ?_))
  clear hK15 K15
  refine wc_condF rfl ?_
  refine c_seq (fun K16 hK16 => ?_)
  refine c_reg ?_ -- region 19 exec.go:175
  refine wl (ro_cmp rfl rfl rfl) ?_
  refine wl (ro_assign rfl) ?_
  refine wl_nil (x_then (hK16 _ _ ?_))
  clear hK16 K16
  refine wc_condF rfl ?_
  refine c_seq (fun K17 hK17 => ?_)
  refine c_reg ?_ -- region 20 exec.go:175
  refine wl (ro_cmp rfl rfl rfl) ?_
  refine wl (ro_assign rfl) ?_
  refine wl_nil (x_then (hK17 _ _ ?_))
  clear hK17 K17
  refine wc_condF rfl ?_
  refine c_reg ?_ -- region 21 exec.go:175
  refine wl (ro_cmp rfl rfl rfl) ?_
  refine wl (ro_assign rfl) ?_
  refine wl_nil (x_then (hK14 _ _ ?_))
  clear hK14 K14
  refine wc_condT rfl ?_
  refine c_seq (fun K18 hK18 => ?_)
  refine c_reg ?_ -- region 22 exec.go:176
  refine wl (ro_move rfl) ?_
  refine wl (ro_move rfl) ?_
  refine wl (ro_nilCheck rfl) ?_
  refine wl (ro_fieldAddr (k := 7) rfl fo_258_7) ?_
  refine wl (ro_loadB rfl sc_3 (hP) (row_get rp (by decide))) ?_
  refine wl (ro_cmp (r := true) rfl rfl (congrArg some (decide_eq_true (by omega)))) ?_
  refine wl (ro_assign rfl) ?_
  refine wl_nil (x_then (hK18 _ _ ?_))
  clear hK18 K18
  refine c_ret (x_blkR (x_thenR ?_))
  refine bp_ret Tryz.results241 rfl ?_
  exact ⟨rfl, hF.thenDrew⟩
set_option maxHeartbeats 8000000 in
theorem snd_25 (E : PE C fg fc w ow a y gs g vars p ids 25 z) : Ret Tryz.prog 241 [ptr C.E.mb, tptr C a.cur, fpt fg gs.length, prt C p, u8n 25, i64c z] w (fun r w' => r = .bool true ∧ Fram none' w w') := by
  have hc := E.hc
  have hk := E.hk
  obtain ⟨V, κ, Vv, U, x, f, fs, o⟩ := E.r.open hc
  have hF : Fram none' w w := Fram.refl _ _
  have hol := E.ol
  have hnd := E.nd
  have hzz := E.hz
  obtain ⟨lT, hT, -, -, -, hT2, -⟩ := o.v.thA o.t.hx
  have hT2 := hT2 2 (.inl rfl)
  obtain ⟨lB, hB1, k1, q1, -, -⟩ := o.frow
  obtain ⟨lP, pa, pb, pc, hP, tP, rp, hups, -, -⟩ := o.v.pro E.hp
  rw [Nat.zero_add] at rp
  obtain ⟨p0, ids0, n1, n2, n3⟩ := o.ns
  obtain ⟨rfl, rfl⟩ : p = p0 ∧ ids = ids0 := by have := hk.symm.trans n1; simpa using this
  have hln := o.t.ln
  have hsl := o.sl
  obtain ⟨cs, hcs, hcl⟩ := o.clos hk
  obtain ⟨cg, cc, lC, up, e6, hC, tC, rC⟩ := o.v.clo hcs
  obtain ⟨lM, hM, m0, m1, m2, m3, m4, m5, m6, -⟩ := o.v.mbA
  rw [e6] at m6
  have hclt := (List.getElem?_eq_some_iff.1 hcs).1
  refine ret_of Tryz.func241 rfl Tryz.ntmps241 rfl ?_
  refine c_seq (fun K1 hK1 => ?_)
  refine c_reg ?_ -- region 0 exec.go:160
  refine wl (ro_assign rfl) ?_
  refine wl_nil (x_then (hK1 _ _ ?_))
  clear hK1 K1
  refine forget [(0, _), (1, _), (2, _), (3, _), (4, _), (5, _)] ⟨rfl, rfl, rfl, rfl, rfl, rfl, trivial⟩ (fun e => ?_)
  refine c_seq (fun K2 hK2 => ?_)
  refine c_pi [(0, false), (1, false), (2, false), (3, false), (4, false), (5, false), (6, false), (7, false), (8, false), (9, false), (10, false), (11, false)] (SameH _) mixed (by kernel_rfl) rfl (by kernel_rfl) (po_then (po_bp)) (sameH_now _ _) ?_ -- region 1 exec.go:161
  refine pi_ro rfl (fun w hS => ro_move rfl) ?_
  refine pi_ro rfl (fun w hS => ro_nilCheck rfl) ?_
  refine pi_ro rfl (fun w hS => ro_fieldAddr (k := 6) rfl fo_89_6) ?_
  refine pi_ro rfl (fun w hS => ro_loadB rfl sc_85 (Blk.of_heap hM hS) (m6)) ?_
  refine pi_ro rfl (fun w hS => ro_move rfl) ?_
  refine pi_ro rfl (fun w hS => ro_nilCheck rfl) ?_
  refine pi_ro rfl (fun w hS => ro_fieldAddr (k := 0) rfl fo_331_0) ?_
  refine pi_ro rfl (fun w hS => ro_loadB rfl sc_3 (Blk.of_heap hB1 hS) (frow_at q1 (by decide))) ?_
  refine pi_ro rfl (fun w hS => ro_indexAddr (et := 209) (k := 3) rfl rfl se_85 (rfl) ((by omega))) ?_
  refine pi_ro rfl (fun w hS => ro_fieldAddr (k := 2) rfl fo_209_2) ?_
  refine pi_ro rfl (fun w hS => ro_loadB rfl sc_3 (Blk.of_heap hC hS) (row_get rC (by decide))) ?_
  refine pi_ro rfl (fun w hS => ro_assign rfl) ?_
  refine pi_nil (x_then (hK2 _ _ ?_))
  clear hK2 K2
  refine c_seq (fun K3 hK3 => ?_)
  refine c_seq (fun K4 hK4 => ?_)
  refine c_reg ?_ -- region 2 exec.go:162
  refine wl (ro_move rfl) ?_
  refine wl_nil (x_then (hK4 _ _ ?_))
  clear hK4 K4
  refine c_block ?_
  refine forget [(0, _), (1, _), (2, _), (3, _), (4, _), (5, _), (13, _), (29, _)] ⟨rfl, rfl, rfl, rfl, rfl, rfl, rfl, rfl, trivial⟩ (fun e => ?_)
  refine c_seq (fun K5 hK5 => ?_)
  refine c_reg ?_ -- region 3 exec.go:163
  refine wl (ro_cmp rfl rfl rfl) ?_
  refine wl (ro_assign rfl) ?_
  refine wl_nil (x_then (hK5 _ _ ?_))
  clear hK5 K5
  refine wc_condF rfl ?_
  refine c_seq (fun K6 hK6 => ?_)
  refine c_seq (fun K7 hK7 => ?_)
  refine c_reg ?_ -- region 5 exec.go:165
  refine wl (ro_cmp rfl rfl rfl) ?_
  refine wl (ro_assign rfl) ?_
  refine wl_nil (x_then (hK7 _ _ ?_))
  clear hK7 K7
  refine wc_condF rfl ?_
  refine c_reg ?_ -- region 6 exec.go:165
  refine wl (ro_cmp rfl rfl rfl) ?_
  refine wl (ro_assign rfl) ?_
  refine wl_nil (x_then (hK6 _ _ ?_))
  clear hK6 K6
  refine wc_condF rfl ?_
  refine c_seq (fun K8 hK8 => ?_)
  refine c_seq (fun K9 hK9 => ?_)
  refine c_reg ?_ -- region 8 exec.go:167
  refine wl (ro_cmp rfl rfl rfl) ?_
  refine wl (ro_assign rfl) ?_
  refine wl_nil (x_then (hK9 _ _ ?_))
  clear hK9 K9
  refine wc_condF rfl ?_
  refine c_reg ?_ -- region 9 exec.go:167
  refine wl (ro_cmp rfl rfl rfl) ?_
  refine wl (ro_assign rfl) ?_
  refine wl_nil (x_then (hK8 _ _ ?_))
  clear hK8 K8
  refine wc_condF rfl ?_
  refine c_seq (fun K10 hK10 => ?_)
  refine c_seq (fun K11 hK11 => ?_)
  refine c_reg ?_ -- region 11 exec.go:169
  refine wl (ro_cmp rfl rfl rfl) ?_
  refine wl (ro_assign rfl) ?_
  refine wl_nil (x_then (hK11 _ _ ?_))
  clear hK11 K11
  refine wc_condF rfl ?_
  refine c_reg ?_ -- region 12 exec.go:169
  refine wl (ro_cmp rfl rfl rfl) ?_
  refine wl (ro_assign rfl) ?_
  refine wl_nil (x_then (hK10 _ _ ?_))
  clear hK10 K10
  refine wc_condF rfl ?_
  refine c_seq (fun K12 hK12 => ?_)
  refine c_reg ?_ -- region 14 exec.go:171
  refine wl (ro_cmp rfl rfl rfl) ?_
  refine wl (ro_assign rfl) ?_
  refine wl_nil (x_then (hK12 _ _ ?_))
  clear hK12 K12
  refine wc_condF rfl ?_
  refine c_seq (fun K13 hK13 => ?_)
  refine c_reg ?_ -- region 16 exec.go:173
  refine wl (ro_cmp rfl rfl rfl) ?_
  refine wl (ro_assign rfl) ?_
  refine wl_nil (x_then (hK13 _ _ ?_))
  clear hK13 K13
  refine wc_condF rfl ?_
  refine c_seq (fun K14 hK14 => ?_)
  refine c_seq (fun K15 hK15 => ?_)
  refine c_reg ?_ -- region 18 exec.go:175
  refine wl (ro_cmp rfl rfl rfl) ?_
  refine wl (ro_assign rfl) ?_
  refine wl_nil (x_then (hK15 _ _ ?_))
  clear hK15 K15
  refine wc_condF rfl ?_
  refine c_seq (fun K16 hK16 => ?_)
  refine c_reg ?_ -- region 19 exec.go:175
  refine wl (ro_cmp rfl rfl rfl) ?_
  refine wl (ro_assign rfl) ?_
  refine wl_nil (x_then (hK16 _ _ ?_))
  clear hK16 K16
  refine wc_condF rfl ?_
  refine c_seq (fun K17 hK17 => ?_)
  refine c_reg ?_ -- region 20 exec.go:175
  refine wl (ro_cmp rfl rfl rfl) ?_
  refine wl (ro_assign rfl) ?_
  refine wl_nil (x_then (hK17 _ _ ?_))
  clear hK17 K17
  refine wc_condF rfl ?_
  refine c_reg ?_ -- region 21 exec.go:175
  refine wl (ro_cmp rfl rfl rfl) ?_
  refine wl (ro_assign rfl) ?_
  refine wl_nil (x_then (hK14 _ _ ?_))
  clear hK14 K14
  refine wc_condF rfl ?_
  refine c_seq (fun K18 hK18 => ?_)
  refine c_reg ?_ -- region 23 exec.go:177
  refine wl (ro_cmp rfl rfl rfl) ?_
  refine wl (ro_assign rfl) ?_
  refine wl_nil (x_then (hK18 _ _ ?_))
  clear hK18 K18
  refine wc_condF rfl ?_
  refine c_seq (fun K19 hK19 => ?_)
  refine c_reg ?_ -- region 25 exec.go:179
  refine wl (ro_cmp rfl rfl rfl) ?_
  refine wl (ro_assign rfl) ?_
  refine wl_nil (x_then (hK19 _ _ ?_))
  clear hK19 K19
  refine wc_condF rfl ?_
  refine c_seq (fun K20 hK20 => ?_)
  refine c_seq (fun K21 hK21 => ?_)
  refine c_reg ?_ -- region 27 exec.go:181
  refine wl (ro_cmp rfl rfl rfl) ?_
  refine wl (ro_assign rfl) ?_
  refine wl_nil (x_then (hK21 _ _ ?_))
  clear hK21 K21
  refine wc_condF rfl ?_
  refine c_reg ?_ -- region 28 exec.go:181
  refine wl (ro_cmp rfl rfl rfl) ?_
  refine wl (ro_assign rfl) ?_
  refine wl_nil (x_then (hK20 _ _ ?_))
  clear hK20 K20
  refine wc_condF rfl ?_
  refine c_seq (fun K22 hK22 => ?_)
  refine c_reg ?_ -- region 30 exec.go:183
  refine wl (ro_cmp rfl rfl rfl) ?_
  refine wl (ro_assign rfl) ?_
  refine wl_nil (x_then (hK22 _ _ ?_))
  clear hK22 K22
  refine wc_condF rfl ?_
  refine c_seq (fun K23 hK23 => ?_)
  refine c_reg ?_ -- region 35 exec.go:189
  refine wl (ro_cmp rfl rfl rfl) ?_
  refine wl (ro_assign rfl) ?_
  refine wl_nil (x_then (hK23 _ _ ?_))
  clear hK23 K23
  refine wc_condF rfl ?_
  refine c_skip (x_blk (x_then (hK3 _ _ ?_)))
  clear hK3 K3
  refine forget [(4, _)] ⟨rfl, trivial⟩ (fun e => ?_)
  refine c_seq (fun K24 hK24 => ?_)
  refine c_reg ?_ -- region 46 exec.go:201
  refine wl (ro_move rfl) ?_
  refine wl (ro_cmp (r := true) rfl rfl (congrArg some (decide_eq_true (by omega)))) ?_
  refine wl (ro_move rfl) ?_
  refine wlg_yes rfl (ro_move rfl) ?_
  refine wlg_yes rfl (ro_cmp (r := true) rfl rfl (congrArg some (decide_eq_true (by omega)))) ?_
  refine wl (ro_pick rfl rfl rfl) ?_
  refine wl (ro_assign rfl) ?_
  refine wl_nil (x_then (hK24 _ _ ?_))
  clear hK24 K24
  refine c_ret ?_
  refine bp_ret Tryz.results241 rfl ?_
  exact ⟨rfl, hF.thenDrew⟩
set_option maxHeartbeats 8000000 in
theorem snd_26 (E : PE C fg fc w ow a y gs g vars p ids 26 z) : Ret Tryz.prog 241 [ptr C.E.mb, tptr C a.cur, fpt fg gs.length, prt C p, u8n 26, i64c z] w (fun r w' => r = .bool true ∧ Fram none' w w') := by
  have hc := E.hc
  have hk := E.hk
  obtain ⟨V, κ, Vv, U, x, f, fs, o⟩ := E.r.open hc
  have hF : Fram none' w w := Fram.refl _ _
  have hol := E.ol
  have hnd := E.nd
  have hzz := E.hz
  obtain ⟨lT, hT, -, -, -, hT2, -⟩ := o.v.thA o.t.hx
  have hT2 := hT2 2 (.inl rfl)
  obtain ⟨lB, hB1, k1, q1, -, -⟩ := o.frow
  obtain ⟨lP, pa, pb, pc, hP, tP, rp, hups, -, -⟩ := o.v.pro E.hp
  rw [Nat.zero_add] at rp
  obtain ⟨p0, ids0, n1, n2, n3⟩ := o.ns
  obtain ⟨rfl, rfl⟩ : p = p0 ∧ ids = ids0 := by have := hk.symm.trans n1; simpa using this
  have hln := o.t.ln
  have hsl := o.sl
  obtain ⟨cs, hcs, hcl⟩ := o.clos hk
  obtain ⟨cg, cc, lC, up, e6, hC, tC, rC⟩ := o.v.clo hcs
  obtain ⟨lM, hM, m0, m1, m2, m3, m4, m5, m6, -⟩ := o.v.mbA
  rw [e6] at m6
  have hclt := (List.getElem?_eq_some_iff.1 hcs).1
  have hx := E.sn.r.2.2.2.2.2.2.2.2.1 rfl
  refine ret_of Tryz.func241 rfl Tryz.ntmps241 rfl ?_
  refine c_seq (fun K1 hK1 => ?_)
  refine c_reg ?_ -- region 0 exec.go:160
  refine wl (ro_assign rfl) ?_
  refine wl_nil (x_then (hK1 _ _ ?_))
  clear hK1 K1
  refine forget [(0, _), (1, _), (2, _), (3, _), (4, _), (5, _)] ⟨rfl, rfl, rfl, rfl, rfl, rfl, trivial⟩ (fun e => ?_)
  refine c_seq (fun K2 hK2 => ?_)
  refine c_pi [(0, false), (1, false), (2, false), (3, false), (4, false), (5, false), (6, false), (7, false), (8, false), (9, false), (10, false), (11, false)] (SameH _) mixed (by kernel_rfl) rfl (by kernel_rfl) (po_then (po_bp)) (sameH_now _ _) ?_ -- region 1 exec.go:161
  refine pi_ro rfl (fun w hS => ro_move rfl) ?_
  refine pi_ro rfl (fun w hS => ro_nilCheck rfl) ?_
  refine pi_ro rfl (fun w hS => ro_fieldAddr (k := 6) rfl fo_89_6) ?_
  refine pi_ro rfl (fun w hS => ro_loadB rfl sc_85 (Blk.of_heap hM hS) (m6)) ?_
  refine pi_ro rfl (fun w hS => ro_move rfl) ?_
  refine pi_ro rfl (fun w hS => ro_nilCheck rfl) ?_
  refine pi_ro rfl (fun w hS => ro_fieldAddr (k := 0) rfl fo_331_0) ?_
  refine pi_ro rfl (fun w hS => ro_loadB rfl sc_3 (Blk.of_heap hB1 hS) (frow_at q1 (by decide))) ?_
  refine pi_ro rfl (fun w hS => ro_indexAddr (et := 209) (k := 3) rfl rfl se_85 (rfl) ((by omega))) ?_
  refine pi_ro rfl (fun w hS => ro_fieldAddr (k := 2) rfl fo_209_2) ?_
  refine pi_ro rfl (fun w hS => ro_loadB rfl sc_3 (Blk.of_heap hC hS) (row_get rC (by decide))) ?_
  refine pi_ro rfl (fun w hS => ro_assign rfl) ?_
  refine pi_nil (x_then (hK2 _ _ ?_))
  clear hK2 K2
  refine c_seq (fun K3 hK3 => ?_)
  refine c_seq (fun K4 hK4 => ?_)
  refine c_reg ?_ -- region 2 exec.go:162
  refine wl (ro_move rfl) ?_
  refine wl_nil (x_then (hK4 _ _ ?_))
  clear hK4 K4
  refine c_block ?_
  refine forget [(0, _), (1, _), (2, _), (3, _), (4, _), (5, _), (13, _), (29, _)] ⟨rfl, rfl, rfl, rfl, rfl, rfl, rfl, rfl, trivial⟩ (fun e => ?_)
  refine c_seq (fun K5 hK5 => ?_)
  refine c_reg ?_ -- region 3 exec.go:163
  refine wl (ro_cmp rfl rfl rfl) ?_
  refine wl (ro_assign rfl) ?_
  refine wl_nil (x_then (hK5 _ _ ?_))
  clear hK5 K5
  refine wc_condF rfl ?_
  refine c_seq (fun K6 hK6 => ?_)
  refine c_seq (fun K7 hK7 => ?_)
  refine c_reg ?_ -- region 5 exec.go:165
  refine wl (ro_cmp rfl rfl rfl) ?_
  refine wl (ro_assign rfl) ?_
  refine wl_nil (x_then (hK7 _ _ ?_))
  clear hK7 K7
  refine wc_condF rfl ?_
  refine c_reg ?_ -- region 6 exec.go:165
  refine wl (ro_cmp rfl rfl rfl) ?_
  refine wl (ro_assign rfl) ?_
  refine wl_nil (x_then (hK6 _ _ ?_))
  clear hK6 K6
  refine wc_condF rfl ?_
  refine c_seq (fun K8 hK8 => ?_)
  refine c_seq (fun K9 hK9 => ?_)
  refine c_reg ?_ -- region 8 exec.go:167
  refine wl (ro_cmp rfl rfl rfl) ?_
  refine wl (ro_assign rfl) ?_
  refine wl_nil (x_then (hK9 _ _ ?_))
  clear hK9 K9
  refine wc_condF rfl ?_
  refine c_reg ?_ -- region 9 exec.go:167
  refine wl (ro_cmp rfl rfl rfl) ?_
  refine wl (ro_assign rfl) ?_
  refine wl_nil (x_then (hK8 _ _ ?_))
  clear hK8 K8
  refine wc_condF rfl ?_
  refine c_seq (fun K10 hK10 => ?_)
  refine c_seq (fun K11 hK11 => ?_)
  refine c_reg ?_ -- region 11 exec.go:169
  refine wl (ro_cmp rfl rfl rfl) ?_
  refine wl (ro_assign rfl) ?_
  refine wl_nil (x_then (hK11 _ _ ?_))
  clear hK11 K11
  refine wc_condF rfl ?_
  refine c_reg ?_ -- region 12 exec.go:169
  refine wl (ro_cmp rfl rfl rfl) ?_
  refine wl (ro_assign rfl) ?_
  refine wl_nil (x_then (hK10 _ _ ?_))
  clear hK10 K10
  refine wc_condF rfl ?_
  refine c_seq (fun K12 hK12 => ?_)
  refine c_reg ?_ -- region 14 exec.go:171
  refine wl (ro_cmp rfl rfl rfl) ?_
  refine wl (ro_assign rfl) ?_
  refine wl_nil (x_then (hK12 _ _ ?_))
  clear hK12 K12
  refine wc_condF rfl ?_
  refine c_seq (fun K13 hK13 => ?_)
  refine c_reg ?_ -- region 16 exec.go:173
  refine wl (ro_cmp rfl rfl rfl) ?_
  refine wl (ro_assign rfl) ?_
  refine wl_nil (x_then (hK13 _ _ ?_))
  clear hK13 K13
  refine wc_condF rfl ?_
  refine c_seq (fun K14 hK14 => ?_)
  refine c_seq (fun K15 hK15 => ?_)
  refine c_reg ?_ -- region 18 exec.go:175
  refine wl (ro_cmp rfl rfl rfl) ?_
  refine wl (ro_assign rfl) ?_
  refine wl_nil (x_then (hK15 _ _ ?_))
  clear hK15 K15
  refine wc_condF rfl ?_
  refine c_seq (fun K16 hK16 => ?_)
  refine c_reg ?_ -- region 19 exec.go:175
  refine wl (ro_cmp rfl rfl rfl) ?_
  refine wl (ro_assign rfl) ?_
  refine wl_nil (x_then (hK16 _ _ ?_))
  clear hK16 K16
  refine wc_condF rfl ?_
  refine c_seq (fun K17 hK17 => ?_)
  refine c_reg ?_ -- region 20 exec.go:175
  refine wl (ro_cmp rfl rfl rfl) ?_
  refine wl (ro_assign rfl) ?_
  refine wl_nil (x_then (hK17 _ _ ?_))
  clear hK17 K17
  refine wc_condF rfl ?_
  refine c_reg ?_ -- region 21 exec.go:175
  refine wl (ro_cmp rfl rfl rfl) ?_
  refine wl (ro_assign rfl) ?_
  refine wl_nil (x_then (hK14 _ _ ?_))
  clear hK14 K14
  refine wc_condF rfl ?_
  refine c_seq (fun K18 hK18 => ?_)
  refine c_reg ?_ -- region 23 exec.go:177
  refine wl (ro_cmp rfl rfl rfl) ?_
  refine wl (ro_assign rfl) ?_
  refine wl_nil (x_then (hK18 _ _ ?_))
  clear hK18 K18
  refine wc_condT rfl ?_
  refine c_seq (fun K19 hK19 => ?_)
  refine c_reg ?_ -- region 24 exec.go:178
  refine wl (ro_move rfl) ?_
  refine wl (ro_cmp (r := true) rfl rfl (congrArg some (decide_eq_true (by omega)))) ?_
  refine wl (ro_assign rfl) ?_
  refine wl_nil (x_then (hK19 _ _ ?_))
  clear hK19 K19
  refine c_ret (x_blkR (x_thenR ?_))
  refine bp_ret Tryz.results241 rfl ?_
  exact ⟨rfl, hF.thenDrew⟩
set_option maxHeartbeats 8000000 in
theorem snd_27 (E : PE C fg fc w ow a y gs g vars p ids 27 z) : Ret Tryz.prog 241 [ptr C.E.mb, tptr C a.cur, fpt fg gs.length, prt C p, u8n 27, i64c z] w (fun r w' => r = .bool true ∧ Fram none' w w') := by
  have hc := E.hc
  have hk := E.hk
  obtain ⟨V, κ, Vv, U, x, f, fs, o⟩ := E.r.open hc
  have hF : Fram none' w w := Fram.refl _ _
  have hol := E.ol
  have hnd := E.nd
  have hzz := E.hz
  obtain ⟨lT, hT, -, -, -, hT2, -⟩ := o.v.thA o.t.hx
  have hT2 := hT2 2 (.inl rfl)
  obtain ⟨lB, hB1, k1, q1, -, -⟩ := o.frow
  obtain ⟨lP, pa, pb, pc, hP, tP, rp, hups, -, -⟩ := o.v.pro E.hp
  rw [Nat.zero_add] at rp
  obtain ⟨p0, ids0, n1, n2, n3⟩ := o.ns
  obtain ⟨rfl, rfl⟩ : p = p0 ∧ ids = ids0 := by have := hk.symm.trans n1; simpa using this
  have hln := o.t.ln
  have hsl := o.sl
  obtain ⟨cs, hcs, hcl⟩ := o.clos hk
  obtain ⟨cg, cc, lC, up, e6, hC, tC, rC⟩ := o.v.clo hcs
  obtain ⟨lM, hM, m0, m1, m2, m3, m4, m5, m6, -⟩ := o.v.mbA
  rw [e6] at m6
  have hclt := (List.getElem?_eq_some_iff.1 hcs).1
  refine ret_of Tryz.func241 rfl Tryz.ntmps241 rfl ?_
  refine c_seq (fun K1 hK1 => ?_)
  refine c_reg ?_ -- region 0 exec.go:160
  refine wl (ro_assign rfl) ?_
  refine wl_nil (x_then (hK1 _ _ ?_))
  clear hK1 K1
  refine forget [(0, _), (1, _), (2, _), (3, _), (4, _), (5, _)] ⟨rfl, rfl, rfl, rfl, rfl, rfl, trivial⟩ (fun e => ?_)
  refine c_seq (fun K2 hK2 => ?_)
  refine c_pi [(0, false), (1, false), (2, false), (3, false), (4, false), (5, false), (6, false), (7, false), (8, false), (9, false), (10, false), (11, false)] (SameH _) mixed (by kernel_rfl) rfl (by kernel_rfl) (po_then (po_bp)) (sameH_now _ _) ?_ -- region 1 exec.go:161
  refine pi_ro rfl (fun w hS => ro_move rfl) ?_
  refine pi_ro rfl (fun w hS => ro_nilCheck rfl) ?_
  refine pi_ro rfl (fun w hS => ro_fieldAddr (k := 6) rfl fo_89_6) ?_
  refine pi_ro rfl (fun w hS => ro_loadB rfl sc_85 (Blk.of_heap hM hS) (m6)) ?_
  refine pi_ro rfl (fun w hS => ro_move rfl) ?_
  refine pi_ro rfl (fun w hS => ro_nilCheck rfl) ?_
  refine pi_ro rfl (fun w hS => ro_fieldAddr (k := 0) rfl fo_331_0) ?_
  refine pi_ro rfl (fun w hS => ro_loadB rfl sc_3 (Blk.of_heap hB1 hS) (frow_at q1 (by decide))) ?_
  refine pi_ro rfl (fun w hS => ro_indexAddr (et := 209) (k := 3) rfl rfl se_85 (rfl) ((by omega))) ?_
  refine pi_ro rfl (fun w hS => ro_fieldAddr (k := 2) rfl fo_209_2) ?_
  refine pi_ro rfl (fun w hS => ro_loadB rfl sc_3 (Blk.of_heap hC hS) (row_get rC (by decide))) ?_
  refine pi_ro rfl (fun w hS => ro_assign rfl) ?_
  refine pi_nil (x_then (hK2 _ _ ?_))
  clear hK2 K2
  refine c_seq (fun K3 hK3 => ?_)
  refine c_seq (fun K4 hK4 => ?_)
  refine c_reg ?_ -- region 2 exec.go:162
  refine wl (ro_move rfl) ?_
  refine wl_nil (x_then (hK4 _ _ ?_))
  clear hK4 K4
  refine c_block ?_
  refine forget [(0, _), (1, _), (2, _), (3, _), (4, _), (5, _), (13, _), (29, _)] ⟨rfl, rfl, rfl, rfl, rfl, rfl, rfl, rfl, trivial⟩ (fun e => ?_)
  refine c_seq (fun K5 hK5 => ?_)
  refine c_reg ?_ -- region 3 exec.go:163
  refine wl (ro_cmp rfl rfl rfl) ?_
  refine wl (ro_assign rfl) ?_
  refine wl_nil (x_then (hK5 _ _ ?_))
  clear hK5 K5
  refine wc_condF rfl ?_
  refine c_seq (fun K6 hK6 => ?_)
  refine c_seq (fun K7 hK7 => ?_)
  refine c_reg ?_ -- region 5 exec.go:165
  refine wl (ro_cmp rfl rfl rfl) ?_
  refine wl (ro_assign rfl) ?_
  refine wl_nil (x_then (hK7 _ _ ?_))
  clear hK7 K7
  refine wc_condF rfl ?_
  refine c_reg ?_ -- region 6 exec.go:165
  refine wl (ro_cmp rfl rfl rfl) ?_
  refine wl (ro_assign rfl) ?_
  refine wl_nil (x_then (hK6 _ _ ?_))
  clear hK6 K6
  refine wc_condF rfl ?_
  refine c_seq (fun K8 hK8 => ?_)
  refine c_seq (fun K9 hK9 => ?_)
  refine c_reg ?_ -- region 8 exec.go:167
  refine wl (ro_cmp rfl rfl rfl) ?_
  refine wl (ro_assign rfl) ?_
  refine wl_nil (x_then (hK9 _ _ ?_))
  clear hK9 K9
  refine wc_condF rfl ?_
  refine c_reg ?_ -- region 9 exec.go:167
  refine wl (ro_cmp rfl rfl rfl) ?_
  refine wl (ro_assign rfl) ?_
  refine wl_nil (x_then (hK8 _ _ ?_))
  clear hK8 K8
  refine wc_condF rfl ?_
  refine c_seq (fun K10 hK10 => ?_)
  refine c_seq (fun K11 hK11 => ?_)
  refine c_reg ?_ -- region 11 exec.go:169
  refine wl (ro_cmp rfl rfl rfl) ?_
  refine wl (ro_assign rfl) ?_
  refine wl_nil (x_then (hK11 _ _ ?_))
  clear hK11 K11
  refine wc_condF rfl ?_
  refine c_reg ?_ -- region 12 exec.go:169
  refine wl (ro_cmp rfl rfl rfl) ?_
  refine wl (ro_assign rfl) ?_
  refine wl_nil (x_then (hK10 _ _ ?_))
  clear hK10 K10
  refine wc_condF rfl ?_
  refine c_seq (fun K12 hK12 => ?_)
  refine c_reg ?_ -- region 14 exec.go:171
  refine wl (ro_cmp rfl rfl rfl) ?_
  refine wl (ro_assign rfl) ?_
  refine wl_nil (x_then (hK12 _ _ ?_))
  clear hK12 K12
  refine wc_condF rfl ?_
  refine c_seq (fun K13 hK13 => ?_)
  refine c_reg ?_ -- region 16 exec.go:173
  refine wl (ro_cmp rfl rfl rfl) ?_
  refine wl (ro_assign rfl) ?_
  refine wl_nil (x_then (hK13 _ _ ?_))
  clear hK13 K13
  refine wc_condF rfl ?_
  refine c_seq (fun K14 hK14 => ?_)
  refine c_seq (fun K15 hK15 => ?_)
  refine c_reg ?_ -- region 18 exec.go:175
  refine wl (ro_cmp rfl rfl rfl) ?_
  refine wl (ro_assign rfl) ?_
  refine wl_nil (x_then (hK15 _ _ ?_))
  clear hK15 K15
  refine wc_condF rfl ?_
  refine c_seq (fun K16 hK16 => ?_)
  refine c_reg ?_ -- region 19 exec.go:175
  refine wl (ro_cmp rfl rfl rfl) ?_
  refine wl (ro_assign rfl) ?_
  refine wl_nil (x_then (hK16 _ _ ?_))
  clear hK16 K16
  refine wc_condF rfl ?_
  refine c_seq (fun K17 hK17 => ?_)
  refine c_reg ?_ -- region 20 exec.go:175
  refine wl (ro_cmp rfl rfl rfl) ?_
  refine wl (ro_assign rfl) ?_
  refine wl_nil (x_then (hK17 _ _ ?_))
  clear hK17 K17
  refine wc_condF rfl ?_
  refine c_reg ?_ -- region 21 exec.go:175
  refine wl (ro_cmp rfl rfl rfl) ?_
  refine wl (ro_assign rfl) ?_
  refine wl_nil (x_then (hK14 _ _ ?_))
  clear hK14 K14
  refine wc_condF rfl ?_
  refine c_seq (fun K18 hK18 => ?_)
  refine c_reg ?_ -- region 23 exec.go:177
  refine wl (ro_cmp rfl rfl rfl) ?_
  refine wl (ro_assign rfl) ?_
  refine wl_nil (x_then (hK18 _ _ ?_))
  clear hK18 K18
  refine wc_condF rfl ?_
  refine c_seq (fun K19 hK19 => ?_)
  refine c_reg ?_ -- region 25 exec.go:179
  refine wl (ro_cmp rfl rfl rfl) ?_
  refine wl (ro_assign rfl) ?_
  refine wl_nil (x_then (hK19 _ _ ?_))
  clear hK19 K19
  refine wc_condF rfl ?_
  refine c_seq (fun K20 hK20 => ?_)
  refine c_seq (fun K21 hK21 => ?_)
  refine c_reg ?_ -- region 27 exec.go:181
  refine wl (ro_cmp rfl rfl rfl) ?_
  refine wl (ro_assign rfl) ?_
  refine wl_nil (x_then (hK21 _ _ ?_))
  clear hK21 K21
  refine wc_condF rfl ?_
  refine c_reg ?_ -- region 28 exec.go:181
  refine wl (ro_cmp rfl rfl rfl) ?_
  refine wl (ro_assign rfl) ?_
  refine wl_nil (x_then (hK20 _ _ ?_))
  clear hK20 K20
  refine wc_condF rfl ?_
  refine c_seq (fun K22 hK22 => ?_)
  refine c_reg ?_ -- region 30 exec.go:183
  refine wl (ro_cmp rfl rfl rfl) ?_
  refine wl (ro_assign rfl) ?_
  refine wl_nil (x_then (hK22 _ _ ?_))
  clear hK22 K22
  refine wc_condF rfl ?_
  refine c_seq (fun K23 hK23 => ?_)
  refine c_reg ?_ -- region 35 exec.go:189
  refine wl (ro_cmp rfl rfl rfl) ?_
  refine wl (ro_assign rfl) ?_
  refine wl_nil (x_then (hK23 _ _ ?_))
  clear hK23 K23
  refine wc_condF rfl ?_
  refine c_skip (x_blk (x_then (hK3 _ _ ?_)))
  clear hK3 K3
  refine forget [(4, _)] ⟨rfl, trivial⟩ (fun e => ?_)
  refine c_seq (fun K24 hK24 => ?_)
  refine c_reg ?_ -- region 46 exec.go:201
  refine wl (ro_move rfl) ?_
  refine wl (ro_cmp (r := true) rfl rfl (congrArg some (decide_eq_true (by omega)))) ?_
  refine wl (ro_move rfl) ?_
  refine wlg_yes rfl (ro_move rfl) ?_
  refine wlg_yes rfl (ro_cmp (r := true) rfl rfl (congrArg some (decide_eq_true (by omega)))) ?_
  refine wl (ro_pick rfl rfl rfl) ?_
  refine wl (ro_assign rfl) ?_
  refine wl_nil (x_then (hK24 _ _ ?_))
  clear hK24 K24
  refine c_ret ?_
  refine bp_ret Tryz.results241 rfl ?_
  exact ⟨rfl, hF.thenDrew⟩
set_option maxHeartbeats 8000000 in
theorem snd_29 (E : PE C fg fc w ow a y gs g vars p ids 29 z) : Ret Tryz.prog 241 [ptr C.E.mb, tptr C a.cur, fpt fg gs.length, prt C p, u8n 29, i64c z] w (fun r w' => r = .bool true ∧ Fram none' w w') := by
  have hc := E.hc
  have hk := E.hk
  obtain ⟨V, κ, Vv, U, x, f, fs, o⟩ := E.r.open hc
  have hF : Fram none' w w := Fram.refl _ _
  have hol := E.ol
  have hnd := E.nd
  have hzz := E.hz
  obtain ⟨lT, hT, -, -, -, hT2, -⟩ := o.v.thA o.t.hx
  have hT2 := hT2 2 (.inl rfl)
  obtain ⟨lB, hB1, k1, q1, -, -⟩ := o.frow
  obtain ⟨lP, pa, pb, pc, hP, tP, rp, hups, -, -⟩ := o.v.pro E.hp
  rw [Nat.zero_add] at rp
  obtain ⟨p0, ids0, n1, n2, n3⟩ := o.ns
  obtain ⟨rfl, rfl⟩ : p = p0 ∧ ids = ids0 := by have := hk.symm.trans n1; simpa using this
  have hln := o.t.ln
  have hsl := o.sl
  obtain ⟨cs, hcs, hcl⟩ := o.clos hk
  obtain ⟨cg, cc, lC, up, e6, hC, tC, rC⟩ := o.v.clo hcs
  obtain ⟨lM, hM, m0, m1, m2, m3, m4, m5, m6, -⟩ := o.v.mbA
  rw [e6] at m6
  have hclt := (List.getElem?_eq_some_iff.1 hcs).1
  have hx : z ≤ (fsAt C.F p).ns := by have := E.sn.r.2.2.2.2.2.2.2.2.2.1 rfl; rw [E.pr] at this; exact this
  refine ret_of Tryz.func241 rfl Tryz.ntmps241 rfl ?_
  refine c_seq (fun K1 hK1 => ?_)
  refine c_reg ?_ -- region 0 exec.go:160
  refine wl (ro_assign rfl) ?_
  refine wl_nil (x_then (hK1 _ _ ?_))
  clear hK1 K1
  refine forget [(0, _), (1, _), (2, _), (3, _), (4, _), (5, _)] ⟨rfl, rfl, rfl, rfl, rfl, rfl, trivial⟩ (fun e => ?_)
  refine c_seq (fun K2 hK2 => ?_)
  refine c_pi [(0, false), (1, false), (2, false), (3, false), (4, false), (5, false), (6, false), (7, false), (8, false), (9, false), (10, false), (11, false)] (SameH _) mixed (by kernel_rfl) rfl (by kernel_rfl) (po_then (po_bp)) (sameH_now _ _) ?_ -- region 1 exec.go:161
  refine pi_ro rfl (fun w hS => ro_move rfl) ?_
  refine pi_ro rfl (fun w hS => ro_nilCheck rfl) ?_
  refine pi_ro rfl (fun w hS => ro_fieldAddr (k := 6) rfl fo_89_6) ?_
  refine pi_ro rfl (fun w hS => ro_loadB rfl sc_85 (Blk.of_heap hM hS) (m6)) ?_
  refine pi_ro rfl (fun w hS => ro_move rfl) ?_
  refine pi_ro rfl (fun w hS => ro_nilCheck rfl) ?_
  refine pi_ro rfl (fun w hS => ro_fieldAddr (k := 0) rfl fo_331_0) ?_
  refine pi_ro rfl (fun w hS => ro_loadB rfl sc_3 (Blk.of_heap hB1 hS) (frow_at q1 (by decide))) ?_
  refine pi_ro rfl (fun w hS => ro_indexAddr (et := 209) (k := 3) rfl rfl se_85 (rfl) ((by omega))) ?_
  refine pi_ro rfl (fun w hS => ro_fieldAddr (k := 2) rfl fo_209_2) ?_
  refine pi_ro rfl (fun w hS => ro_loadB rfl sc_3 (Blk.of_heap hC hS) (row_get rC (by decide))) ?_
  refine pi_ro rfl (fun w hS => ro_assign rfl) ?_
  refine pi_nil (x_then (hK2 _ _ ?_))
  clear hK2 K2
  refine c_seq (fun K3 hK3 => ?_)
  refine c_seq (fun K4 hK4 => ?_)
  refine c_reg ?_ -- region 2 exec.go:162
  refine wl (ro_move rfl) ?_
  refine wl_nil (x_then (hK4 _ _ ?_))
  clear hK4 K4
  refine c_block ?_
  refine forget [(0, _), (1, _), (2, _), (3, _), (4, _), (5, _), (13, _), (29, _)] ⟨rfl, rfl, rfl, rfl, rfl, rfl, rfl, rfl, trivial⟩ (fun e => ?_)
  refine c_seq (fun K5 hK5 => ?_)
  refine c_reg ?_ -- region 3 exec.go:163
  refine wl (ro_cmp rfl rfl rfl) ?_
  refine wl (ro_assign rfl) ?_
  refine wl_nil (x_then (hK5 _ _ ?_))
  clear hK5 K5
  refine wc_condF rfl ?_
  refine c_seq (fun K6 hK6 => ?_)
  refine c_seq (fun K7 hK7 => ?_)
  refine c_reg ?_ -- region 5 exec.go:165
  refine wl (ro_cmp rfl rfl rfl) ?_
  refine wl (ro_assign rfl) ?_
  refine wl_nil (x_then (hK7 _ _ ?_))
  clear hK7 K7
  refine wc_condF rfl ?_
  refine c_reg ?_ -- region 6 exec.go:165
  refine wl (ro_cmp rfl rfl rfl) ?_
  refine wl (ro_assign rfl) ?_
  refine wl_nil (x_then (hK6 _ _ ?_))
  clear hK6 K6
  refine wc_condF rfl ?_
  refine c_seq (fun K8 hK8 => ?_)
  refine c_seq (fun K9 hK9 => ?_)
  refine c_reg ?_ -- region 8 exec.go:167
  refine wl (ro_cmp rfl rfl rfl) ?_
  refine wl (ro_assign rfl) ?_
  refine wl_nil (x_then (hK9 _ _ ?_))
  clear hK9 K9
  refine wc_condF rfl ?_
  refine c_reg ?_ -- region 9 exec.go:167
  refine wl (ro_cmp rfl rfl rfl) ?_
  refine wl (ro_assign rfl) ?_
  refine wl_nil (x_then (hK8 _ _ ?_))
  clear hK8 K8
  refine wc_condF rfl ?_
  refine c_seq (fun K10 hK10 => ?_)
  refine c_seq (fun K11 hK11 => ?_)
  refine c_reg ?_ -- region 11 exec.go:169
  refine wl (ro_cmp rfl rfl rfl) ?_
  refine wl (ro_assign rfl) ?_
  refine wl_nil (x_then (hK11 _ _ ?_))
  clear hK11 K11
  refine wc_condF rfl ?_
  refine c_reg ?_ -- region 12 exec.go:169
  refine wl (ro_cmp rfl rfl rfl) ?_
  refine wl (ro_assign rfl) ?_
  refine wl_nil (x_then (hK10 _ _ ?_))
  clear hK10 K10
  refine wc_condF rfl ?_
  refine c_seq (fun K12 hK12 => ?_)
  refine c_reg ?_ -- region 14 exec.go:171
  refine wl (ro_cmp rfl rfl rfl) ?_
  refine wl (ro_assign rfl) ?_
  refine wl_nil (x_then (hK12 _ _ ?_))
  clear hK12 K12
  refine wc_condF rfl ?_
  refine c_seq (fun K13 hK13 => ?_)
  refine c_reg ?_ -- region 16 exec.go:173
  refine wl (ro_cmp rfl rfl rfl) ?_
  refine wl (ro_assign rfl) ?_
  refine wl_nil (x_then (hK13 _ _ ?_))
  clear hK13 K13
  refine wc_condF rfl ?_
  refine c_seq (fun K14 hK14 => ?_)
  refine c_seq (fun K15 hK15 => ?_)
  refine c_reg ?_ -- region 18 exec.go:175
  refine wl (ro_cmp rfl rfl rfl) ?_
  refine wl (ro_assign rfl) ?_
  refine wl_nil (x_then (hK15 _ _ ?_))
  clear hK15 K15
  refine wc_condF rfl ?_
  refine c_seq (fun K16 hK16 => ?_)
  refine c_reg ?_ -- region 19 exec.go:175
  refine wl (ro_cmp rfl rfl rfl) ?_
  refine wl (ro_assign rfl) ?_
  refine wl_nil (x_then (hK16 _ _ ?_))
  clear hK16 K16
  refine wc_condF rfl ?_
  refine c_seq (fun K17 hK17 => ?_)
  refine c_reg ?_ -- region 20 exec.go:175
  refine wl (ro_cmp rfl rfl rfl) ?_
  refine wl (ro_assign rfl) ?_
  refine wl_nil (x_then (hK17 _ _ ?_))
  clear hK17 K17
  refine wc_condF rfl ?_
  refine c_reg ?_ -- region 21 exec.go:175
  refine wl (ro_cmp rfl rfl rfl) ?_
  refine wl (ro_assign rfl) ?_
  refine wl_nil (x_then (hK14 _ _ ?_))
  clear hK14 K14
  refine wc_condF rfl ?_
  refine c_seq (fun K18 hK18 => ?_)
  refine c_reg ?_ -- region 23 exec.go:177
  refine wl (ro_cmp rfl rfl rfl) ?_
  refine wl (ro_assign rfl) ?_
  refine wl_nil (x_then (hK18 _ _ ?_))
  clear hK18 K18
  refine wc_condF rfl ?_
  refine c_seq (fun K19 hK19 => ?_)
  refine c_reg ?_ -- region 25 exec.go:179
  refine wl (ro_cmp rfl rfl rfl) ?_
  refine wl (ro_assign rfl) ?_
  refine wl_nil (x_then (hK19 _ _ ?_))
  clear hK19 K19
  refine wc_condT rfl ?_
  refine c_seq (fun K20 hK20 => ?_)
  refine c_reg ?_ -- region 26 exec.go:180
  refine wl (ro_move rfl) ?_
  refine wl (ro_move rfl) ?_
  refine wl (ro_nilCheck rfl) ?_
  refine wl (ro_fieldAddr (k := 1) rfl fo_258_1) ?_
  refine wl (ro_loadB rfl sc_3 (hP) (row_get rp (by decide))) ?_
  refine wl (ro_cmp (r := true) rfl rfl (congrArg some (decide_eq_true (by omega)))) ?_
  refine wl (ro_assign rfl) ?_
  refine wl_nil (x_then (hK20 _ _ ?_))
  clear hK20 K20
  refine c_ret (x_blkR (x_thenR ?_))
  refine bp_ret Tryz.results241 rfl ?_
  exact ⟨rfl, hF.thenDrew⟩
set_option maxHeartbeats 8000000 in
theorem snd_30 (E : PE C fg fc w ow a y gs g vars p ids 30 z) : Ret Tryz.prog 241 [ptr C.E.mb, tptr C a.cur, fpt fg gs.length, prt C p, u8n 30, i64c z] w (fun r w' => r = .bool true ∧ Fram none' w w') := by
  have hc := E.hc
  have hk := E.hk
  obtain ⟨V, κ, Vv, U, x, f, fs, o⟩ := E.r.open hc
  have hF : Fram none' w w := Fram.refl _ _
  have hol := E.ol
  have hnd := E.nd
  have hzz := E.hz
  obtain ⟨lT, hT, -, -, -, hT2, -⟩ := o.v.thA o.t.hx
  have hT2 := hT2 2 (.inl rfl)
  obtain ⟨lB, hB1, k1, q1, -, -⟩ := o.frow
  obtain ⟨lP, pa, pb, pc, hP, tP, rp, hups, -, -⟩ := o.v.pro E.hp
  rw [Nat.zero_add] at rp
  obtain ⟨p0, ids0, n1, n2, n3⟩ := o.ns
  obtain ⟨rfl, rfl⟩ : p = p0 ∧ ids = ids0 := by have := hk.symm.trans n1; simpa using this
  have hln := o.t.ln
  have hsl := o.sl
  obtain ⟨cs, hcs, hcl⟩ := o.clos hk
  obtain ⟨cg, cc, lC, up, e6, hC, tC, rC⟩ := o.v.clo hcs
  obtain ⟨lM, hM, m0, m1, m2, m3, m4, m5, m6, -⟩ := o.v.mbA
  rw [e6] at m6
  have hclt := (List.getElem?_eq_some_iff.1 hcs).1
  have hx : z + 3 < (fsAt C.F p).ns := by have := E.sn.r.2.2.2.2.2.2.2.2.2.2.1 (.inl rfl); rw [E.pr] at this; exact this
  refine ret_of Tryz.func241 rfl Tryz.ntmps241 rfl ?_
  refine c_seq (fun K1 hK1 => ?_)
  refine c_reg ?_ -- region 0 exec.go:160
  refine wl (ro_assign rfl) ?_
  refine wl_nil (x_then (hK1 _ _ ?_))
  clear hK1 K1
  refine forget [(0, _), (1, _), (2, _), (3, _), (4, _), (5, _)] ⟨rfl, rfl, rfl, rfl, rfl, rfl, trivial⟩ (fun e => ?_)
  refine c_seq (fun K2 hK2 => ?_)
  refine c_pi [(0, false), (1, false), (2, false), (3, false), (4, false), (5, false), (6, false), (7, false), (8, false), (9, false), (10, false), (11, false)] (SameH _) mixed (by kernel_rfl) rfl (by kernel_rfl) (po_then (po_bp)) (sameH_now _ _) ?_ -- region 1 exec.go:161
  refine pi_ro rfl (fun w hS => ro_move rfl) ?_
  refine pi_ro rfl (fun w hS => ro_nilCheck rfl) ?_
  refine pi_ro rfl (fun w hS => ro_fieldAddr (k := 6) rfl fo_89_6) ?_
  refine pi_ro rfl (fun w hS => ro_loadB rfl sc_85 (Blk.of_heap hM hS) (m6)) ?_
  refine pi_ro rfl (fun w hS => ro_move rfl) ?_
  refine pi_ro rfl (fun w hS => ro_nilCheck rfl) ?_
  refine pi_ro rfl (fun w hS => ro_fieldAddr (k := 0) rfl fo_331_0) ?_
  refine pi_ro rfl (fun w hS => ro_loadB rfl sc_3 (Blk.of_heap hB1 hS) (frow_at q1 (by decide))) ?_
  refine pi_ro rfl (fun w hS => ro_indexAddr (et := 209) (k := 3) rfl rfl se_85 (rfl) ((by omega))) ?_
  refine pi_ro rfl (fun w hS => ro_fieldAddr (k := 2) rfl fo_209_2) ?_
  refine pi_ro rfl (fun w hS => ro_loadB rfl sc_3 (Blk.of_heap hC hS) (row_get rC (by decide))) ?_
  refine pi_ro rfl (fun w hS => ro_assign rfl) ?_
  refine pi_nil (x_then (hK2 _ _ ?_))
  clear hK2 K2
  refine c_seq (fun K3 hK3 => ?_)
  refine c_seq (fun K4 hK4 => ?_)
  refine c_reg ?_ -- region 2 exec.go:162
  refine wl (ro_move rfl) ?_
  refine wl_nil (x_then (hK4 _ _ ?_))
  clear hK4 K4
  refine c_block ?_
  refine forget [(0, _), (1, _), (2, _), (3, _), (4, _), (5, _), (13, _), (29, _)] ⟨rfl, rfl, rfl, rfl, rfl, rfl, rfl, rfl, trivial⟩ (fun e => ?_)
  refine c_seq (fun K5 hK5 => ?_)
  refine c_reg ?_ -- region 3 exec.go:163
  refine wl (ro_cmp rfl rfl rfl) ?_
  refine wl (ro_assign rfl) ?_
  refine wl_nil (x_then (hK5 _ _ ?_))
  clear hK5 K5
  refine wc_condF rfl ?_
  refine c_seq (fun K6 hK6 => ?_)
  refine c_seq (fun K7 hK7 => ?_)
  refine c_reg ?_ -- region 5 exec.go:165
  refine wl (ro_cmp rfl rfl rfl) ?_
  refine wl (ro_assign rfl) ?_
  refine wl_nil (x_then (hK7 _ _ ?_))
  clear hK7 K7
  refine wc_condF rfl ?_
  refine c_reg ?_ -- region 6 exec.go:165
  refine wl (ro_cmp rfl rfl rfl) ?_
  refine wl (ro_assign rfl) ?_
  refine wl_nil (x_then (hK6 _ _ ?_))
  clear hK6 K6
  refine wc_condF rfl ?_
  refine c_seq (fun K8 hK8 => ?_)
  refine c_seq (fun K9 hK9 => ?_)
  refine c_reg ?_ -- region 8 exec.go:167
  refine wl (ro_cmp rfl rfl rfl) ?_
  refine wl (ro_assign rfl) ?_
  refine wl_nil (x_then (hK9 _ _ ?_))
  clear hK9 K9
  refine wc_condF rfl ?_
  refine c_reg ?_ -- region 9 exec.go:167
  refine wl (ro_cmp rfl rfl rfl) ?_
  refine wl (ro_assign rfl) ?_
  refine wl_nil (x_then (hK8 _ _ ?_))
  clear hK8 K8
  refine wc_condF rfl ?_
  refine c_seq (fun K10 hK10 => ?_)
  refine c_seq (fun K11 hK11 => ?_)
  refine c_reg ?_ -- region 11 exec.go:169
  refine wl (ro_cmp rfl rfl rfl) ?_
  refine wl (ro_assign rfl) ?_
  refine wl_nil (x_then (hK11 _ _ ?_))
  clear hK11 K11
  refine wc_condF rfl ?_
  refine c_reg ?_ -- region 12 exec.go:169
  refine wl (ro_cmp rfl rfl rfl) ?_
  refine wl (ro_assign rfl) ?_
  refine wl_nil (x_then (hK10 _ _ ?_))
  clear hK10 K10
  refine wc_condF rfl ?_
  refine c_seq (fun K12 hK12 => ?_)
  refine c_reg ?_ -- region 14 exec.go:171
  refine wl (ro_cmp rfl rfl rfl) ?_
  refine wl (ro_assign rfl) ?_
  refine wl_nil (x_then (hK12 _ _ ?_))
  clear hK12 K12
  refine wc_condF rfl ?_
  refine c_seq (fun K13 hK13 => ?_)
  refine c_reg ?_ -- region 16 exec.go:173
  refine wl (ro_cmp rfl rfl rfl) ?_
  refine wl (ro_assign rfl) ?_
  refine wl_nil (x_then (hK13 _ _ ?_))
  clear hK13 K13
  refine wc_condF rfl ?_
  refine c_seq (fun K14 hK14 => ?_)
  refine c_seq (fun K15 hK15 => ?_)
  refine c_reg ?_ -- region 18 exec.go:175
  refine wl (ro_cmp rfl rfl rfl) ?_
  refine wl (ro_assign rfl) ?_
  refine wl_nil (x_then (hK15 _ _ ?_))
  clear hK15 K15
  refine wc_condF rfl ?_
  refine c_seq (fun K16 hK16 => ?_)
  refine c_reg ?_ -- region 19 exec.go:175
  refine wl (ro_cmp rfl rfl rfl) ?_
  refine wl (ro_assign rfl) ?_
  refine wl_nil (x_then (hK16 _ _ ?_))
  clear hK16 K16
  refine wc_condF rfl ?_
  refine c_seq (fun K17 hK17 => ?_)
  refine c_reg ?_ -- region 20 exec.go:175
  refine wl (ro_cmp rfl rfl rfl) ?_
  refine wl (ro_assign rfl) ?_
  refine wl_nil (x_then (hK17 _ _ ?_))
  clear hK17 K17
  refine wc_condF rfl ?_
  refine c_reg ?_ -- region 21 exec.go:175
  refine wl (ro_cmp rfl rfl rfl) ?_
  refine wl (ro_assign rfl) ?_
  refine wl_nil (x_then (hK14 _ _ ?_))
  clear hK14 K14
  refine wc_condF rfl ?_
  refine c_seq (fun K18 hK18 => ?_)
  refine c_reg ?_ -- region 23 exec.go:177
  refine wl (ro_cmp rfl rfl rfl) ?_
  refine wl (ro_assign rfl) ?_
  refine wl_nil (x_then (hK18 _ _ ?_))
  clear hK18 K18
  refine wc_condF rfl ?_
  refine c_seq (fun K19 hK19 => ?_)
  refine c_reg ?_ -- region 25 exec.go:179
  refine wl (ro_cmp rfl rfl rfl) ?_
  refine wl (ro_assign rfl) ?_
  refine wl_nil (x_then (hK19 _ _ ?_))
  clear hK19 K19
  refine wc_condF rfl ?_
  refine c_seq (fun K20 hK20 => ?_)
  refine c_seq (fun K21 hK21 => ?_)
  refine c_reg ?_ -- region 27 exec.go:181
  refine wl (ro_cmp rfl rfl rfl) ?_
  refine wl (ro_assign rfl) ?_
  refine wl_nil (x_then (hK21 _ _ ?_))
  clear hK21 K21
  refine wc_condT rfl ?_
  refine c_skip (x_then (hK20 _ _ ?_))
  clear hK20 K20
  refine wc_condT rfl ?_
  refine c_seq (fun K22 hK22 => ?_)
  refine c_reg ?_ -- region 29 exec.go:182
  refine wl (ro_move rfl) ?_
  refine wl (ro_addN (k := 3) rfl rfl (by omega)) ?_
  refine wl (ro_move rfl) ?_
  refine wl (ro_nilCheck rfl) ?_
  refine wl (ro_fieldAddr (k := 1) rfl fo_258_1) ?_
  refine wl (ro_loadB rfl sc_3 (hP) (row_get rp (by decide))) ?_
  refine wl (ro_cmp (r := true) rfl rfl (congrArg some (decide_eq_true (by omega)))) ?_
  refine wl (ro_assign rfl) ?_
  refine wl_nil (x_then (hK22 _ _ ?_))
  clear hK22 K22
  refine c_ret (x_blkR (x_thenR ?_))
  refine bp_ret Tryz.results241 rfl ?_
  exact ⟨rfl, hF.thenDrew⟩
set_option maxHeartbeats 8000000 in
theorem snd_31 (E : PE C fg fc w ow a y gs g vars p ids 31 z) : Ret Tryz.prog 241 [ptr C.E.mb, tptr C a.cur, fpt fg gs.length, prt C p, u8n 31, i64c z] w (fun r w' => r = .bool true ∧ Fram none' w w') := by
  have hc := E.hc
  have hk := E.hk
  obtain ⟨V, κ, Vv, U, x, f, fs, o⟩ := E.r.open hc
  have hF : Fram none' w w := Fram.refl _ _
  have hol := E.ol
  have hnd := E.nd
  have hzz := E.hz
  obtain ⟨lT, hT, -, -, -, hT2, -⟩ := o.v.thA o.t.hx
  have hT2 := hT2 2 (.inl rfl)
  obtain ⟨lB, hB1, k1, q1, -, -⟩ := o.frow
  obtain ⟨lP, pa, pb, pc, hP, tP, rp, hups, -, -⟩ := o.v.pro E.hp
  rw [Nat.zero_add] at rp
  obtain ⟨p0, ids0, n1, n2, n3⟩ := o.ns
  obtain ⟨rfl, rfl⟩ : p = p0 ∧ ids = ids0 := by have := hk.symm.trans n1; simpa using this
  have hln := o.t.ln
  have hsl := o.sl
  obtain ⟨cs, hcs, hcl⟩ := o.clos hk
  obtain ⟨cg, cc, lC, up, e6, hC, tC, rC⟩ := o.v.clo hcs
  obtain ⟨lM, hM, m0, m1, m2, m3, m4, m5, m6, -⟩ := o.v.mbA
  rw [e6] at m6
  have hclt := (List.getElem?_eq_some_iff.1 hcs).1
  have hx : z + 3 < (fsAt C.F p).ns := by have := E.sn.r.2.2.2.2.2.2.2.2.2.2.1 (.inr (.inl rfl)); rw [E.pr] at this; exact this
  have hxs : z + 3 < g.slots.length := by omega
  have hTT := E.sn.r.2.2.2.2.2.2.2.2.2.2.2.1 rfl
  simp only [mk_slot hc, AS.var, mkA_vars] at hTT
  have hTT : (sloV g vars z).T = 2 ∧ (sloV g vars (z + 1)).T = 2 ∧ (sloV g vars (z + 2)).T = 2 := hTT
  obtain ⟨sg, sc, hU⟩ := o.sg (by omega)
  rw [hU] at hT2
  obtain ⟨lS, hB5, ts, hls, hcs5, hrw, -⟩ := o.v.stkR o.t.hx hU
  have r0 := hrw _ _ (o.slot (z := z) (by omega)).1
  have r1 := hrw _ _ (o.slot (z := z + 1) (by omega)).1
  have r2 := hrw _ _ (o.slot (z := z + 2) (by omega)).1
  have e0 : (f.base + z) * 3 + 0 * 3 = (f.base + z) * 3 := by omega
  have e1 : (f.base + z) * 3 + 1 * 3 = (f.base + (z + 1)) * 3 := by omega
  have e2 : (f.base + z) * 3 + 2 * 3 = (f.base + (z + 2)) * 3 := by omega
  refine ret_of Tryz.func241 rfl Tryz.ntmps241 rfl ?_
  refine c_seq (fun K1 hK1 => ?_)
  refine c_reg ?_ -- region 0 exec.go:160
  refine wl (ro_assign rfl) ?_
  refine wl_nil (x_then (hK1 _ _ ?_))
  clear hK1 K1
  refine forget [(0, _), (1, _), (2, _), (3, _), (4, _), (5, _)] ⟨rfl, rfl, rfl, rfl, rfl, rfl, trivial⟩ (fun e => ?_)
  refine c_seq (fun K2 hK2 => ?_)
  refine c_pi [(0, false), (1, false), (2, false), (3, false), (4, false), (5, false), (6, false), (7, false), (8, false), (9, false), (10, false), (11, false)] (SameH _) mixed (by kernel_rfl) rfl (by kernel_rfl) (po_then (po_bp)) (sameH_now _ _) ?_ -- region 1 exec.go:161
  refine pi_ro rfl (fun w hS => ro_move rfl) ?_
  refine pi_ro rfl (fun w hS => ro_nilCheck rfl) ?_
  refine pi_ro rfl (fun w hS => ro_fieldAddr (k := 6) rfl fo_89_6) ?_
  refine pi_ro rfl (fun w hS => ro_loadB rfl sc_85 (Blk.of_heap hM hS) (m6)) ?_
  refine pi_ro rfl (fun w hS => ro_move rfl) ?_
  refine pi_ro rfl (fun w hS => ro_nilCheck rfl) ?_
  refine pi_ro rfl (fun w hS => ro_fieldAddr (k := 0) rfl fo_331_0) ?_
  refine pi_ro rfl (fun w hS => ro_loadB rfl sc_3 (Blk.of_heap hB1 hS) (frow_at q1 (by decide))) ?_
  refine pi_ro rfl (fun w hS => ro_indexAddr (et := 209) (k := 3) rfl rfl se_85 (rfl) ((by omega))) ?_
  refine pi_ro rfl (fun w hS => ro_fieldAddr (k := 2) rfl fo_209_2) ?_
  refine pi_ro rfl (fun w hS => ro_loadB rfl sc_3 (Blk.of_heap hC hS) (row_get rC (by decide))) ?_
  refine pi_ro rfl (fun w hS => ro_assign rfl) ?_
  refine pi_nil (x_then (hK2 _ _ ?_))
  clear hK2 K2
  refine c_seq (fun K3 hK3 => ?_)
  refine c_seq (fun K4 hK4 => ?_)
  refine c_reg ?_ -- region 2 exec.go:162
  refine wl (ro_move rfl) ?_
  refine wl_nil (x_then (hK4 _ _ ?_))
  clear hK4 K4
  refine c_block ?_
  refine forget [(0, _), (1, _), (2, _), (3, _), (4, _), (5, _), (13, _), (29, _)] ⟨rfl, rfl, rfl, rfl, rfl, rfl, rfl, rfl, trivial⟩ (fun e => ?_)
  refine c_seq (fun K5 hK5 => ?_)
  refine c_reg ?_ -- region 3 exec.go:163
  refine wl (ro_cmp rfl rfl rfl) ?_
  refine wl (ro_assign rfl) ?_
  refine wl_nil (x_then (hK5 _ _ ?_))
  clear hK5 K5
  refine wc_condF rfl ?_
  refine c_seq (fun K6 hK6 => ?_)
  refine c_seq (fun K7 hK7 => ?_)
  refine c_reg ?_ -- region 5 exec.go:165
  refine wl (ro_cmp rfl rfl rfl) ?_
  refine wl (ro_assign rfl) ?_
  refine wl_nil (x_then (hK7 _ _ ?_))
  clear hK7 K7
  refine wc_condF rfl ?_
  refine c_reg ?_ -- region 6 exec.go:165
  refine wl (ro_cmp rfl rfl rfl) ?_
  refine wl (ro_assign rfl) ?_
  refine wl_nil (x_then (hK6 _ _ ?_))
  clear hK6 K6
  refine wc_condF rfl ?_
  refine c_seq (fun K8 hK8 => ?_)
  refine c_seq (fun K9 hK9 => ?_)
  refine c_reg ?_ -- region 8 exec.go:167
  refine wl (ro_cmp rfl rfl rfl) ?_
  refine wl (ro_assign rfl) ?_
  refine wl_nil (x_then (hK9 _ _ ?_))
  clear hK9 K9
  refine wc_condF rfl ?_
  refine c_reg ?_ -- region 9 exec.go:167
  refine wl (ro_cmp rfl rfl rfl) ?_
  refine wl (ro_assign rfl) ?_
  refine wl_nil (x_then (hK8 _ _ ?_))
  clear hK8 K8
  refine wc_condF rfl ?_
  refine c_seq (fun K10 hK10 => ?_)
  refine c_seq (fun K11 hK11 => ?_)
  refine c_reg ?_ -- region 11 exec.go:169
  refine wl (ro_cmp rfl rfl rfl) ?_
  refine wl (ro_assign rfl) ?_
  refine wl_nil (x_then (hK11 _ _ ?_))
  clear hK11 K11
  refine wc_condF rfl ?_
  refine c_reg ?_ -- region 12 exec.go:169
  refine wl (ro_cmp rfl rfl rfl) ?_
  refine wl (ro_assign rfl) ?_
  refine wl_nil (x_then (hK10 _ _ ?_))
  clear hK10 K10
  refine wc_condF rfl ?_
  refine c_seq (fun K12 hK12 => ?_)
  refine c_reg ?_ -- region 14 exec.go:171
  refine wl (ro_cmp rfl rfl rfl) ?_
  refine wl (ro_assign rfl) ?_
  refine wl_nil (x_then (hK12 _ _ ?_))
  clear hK12 K12
  refine wc_condF rfl ?_
  refine c_seq (fun K13 hK13 => ?_)
  refine c_reg ?_ -- region 16 exec.go:173
  refine wl (ro_cmp rfl rfl rfl) ?_
  refine wl (ro_assign rfl) ?_
  refine wl_nil (x_then (hK13 _ _ ?_))
  clear hK13 K13
  refine wc_condF rfl ?_
  refine c_seq (fun K14 hK14 => ?_)
  refine c_seq (fun K15 hK15 => ?_)
  refine c_reg ?_ -- region 18 exec.go:175
  refine wl (ro_cmp rfl rfl rfl) ?_
  refine wl (ro_assign rfl) ?_
  refine wl_nil (x_then (hK15 _ _ ?_))
  clear hK15 K15
  refine wc_condF rfl ?_
  refine c_seq (fun K16 hK16 => ?_)
  refine c_reg ?_ -- region 19 exec.go:175
  refine wl (ro_cmp rfl rfl rfl) ?_
  refine wl (ro_assign rfl) ?_
  refine wl_nil (x_then (hK16 _ _ ?_))
  clear hK16 K16
  refine wc_condF rfl ?_
  refine c_seq (fun K17 hK17 => ?_)
  refine c_reg ?_ -- region 20 exec.go:175
  refine wl (ro_cmp rfl rfl rfl) ?_
  refine wl (ro_assign rfl) ?_
  refine wl_nil (x_then (hK17 _ _ ?_))
  clear hK17 K17
  refine wc_condF rfl ?_
  refine c_reg ?_ -- region 21 exec.go:175
  refine wl (ro_cmp rfl rfl rfl) ?_
  refine wl (ro_assign rfl) ?_
  refine wl_nil (x_then (hK14 _ _ ?_))
  clear hK14 K14
  refine wc_condF rfl ?_
  refine c_seq (fun K18 hK18 => ?_)
  refine c_reg ?_ -- region 23 exec.go:177
  refine wl (ro_cmp rfl rfl rfl) ?_
  refine wl (ro_assign rfl) ?_
  refine wl_nil (x_then (hK18 _ _ ?_))
  clear hK18 K18
  refine wc_condF rfl ?_
  refine c_seq (fun K19 hK19 => ?_)
  refine c_reg ?_ -- region 25 exec.go:179
  refine wl (ro_cmp rfl rfl rfl) ?_
  refine wl (ro_assign rfl) ?_
  refine wl_nil (x_then (hK19 _ _ ?_))
  clear hK19 K19
  refine wc_condF rfl ?_
  refine c_seq (fun K20 hK20 => ?_)
  refine c_seq (fun K21 hK21 => ?_)
  refine c_reg ?_ -- region 27 exec.go:181
  refine wl (ro_cmp rfl rfl rfl) ?_
  refine wl (ro_assign rfl) ?_
  refine wl_nil (x_then (hK21 _ _ ?_))
  clear hK21 K21
  refine wc_condF rfl ?_
  refine c_reg ?_ -- region 28 exec.go:181
  refine wl (ro_cmp rfl rfl rfl) ?_
  refine wl (ro_assign rfl) ?_
  refine wl_nil (x_then (hK20 _ _ ?_))
  clear hK20 K20
  refine wc_condF rfl ?_
  refine c_seq (fun K22 hK22 => ?_)
  refine c_reg ?_ -- region 30 exec.go:183
  refine wl (ro_cmp rfl rfl rfl) ?_
  refine wl (ro_assign rfl) ?_
  refine wl_nil (x_then (hK22 _ _ ?_))
  clear hK22 K22
  refine wc_condT rfl ?_
  refine c_seq (fun K23 hK23 => ?_)
  refine c_seq (fun K24 hK24 => ?_)
  refine c_reg ?_ -- region 31 exec.go:184
  refine wl (ro_move rfl) ?_
  refine wl (ro_addN (k := 3) rfl rfl (by omega)) ?_
  refine wl (ro_move rfl) ?_
  refine wl (ro_nilCheck rfl) ?_
  refine wl (ro_fieldAddr (k := 1) rfl fo_258_1) ?_
  refine wl (ro_loadB rfl sc_3 (hP) (row_get rp (by decide))) ?_
  refine wl (ro_cmp (r := false) rfl rfl (congrArg some (decide_eq_false (by omega)))) ?_
  refine wl_nil (x_then (hK24 _ _ ?_))
  clear hK24 K24
  refine wc_condF rfl ?_
  refine c_skip (x_then (hK23 _ _ ?_))
  clear hK23 K23
  refine forget [(1, _), (2, _), (5, _)] ⟨rfl, rfl, rfl, trivial⟩ (fun e => ?_)
  refine c_seq (fun K25 hK25 => ?_)
  refine c_pi [(0, false), (1, false), (2, false), (3, false), (4, false), (5, false), (6, false), (7, false), (8, false), (9, false), (10, false), (11, false), (12, false), (13, false), (14, false), (15, false), (16, false), (17, false), (18, false)] (SameH _) mixed (by kernel_rfl) rfl (by kernel_rfl) (po_then (po_blk (po_then (po_bp)))) (sameH_now _ _) ?_ -- region 33 exec.go:187
  refine pi_ro rfl (fun w hS => ro_move rfl) ?_
  refine pi_ro rfl (fun w hS => ro_nilCheck rfl) ?_
  refine pi_ro rfl (fun w hS => ro_fieldAddr (k := 2) rfl fo_269_2) ?_
  refine pi_ro rfl (fun w hS => ro_loadB rfl sc_83 (Blk.of_heap hT hS) (hT2)) ?_
  refine pi_ro rfl (fun w hS => ro_move rfl) ?_
  refine pi_ro rfl (fun w hS => ro_nilCheck rfl) ?_
  refine pi_ro rfl (fun w hS => ro_fieldAddr (k := 2) rfl fo_331_2) ?_
  refine pi_ro rfl (fun w hS => ro_loadB rfl sc_3 (Blk.of_heap hB1 hS) (frow_at q1 (by decide))) ?_
  refine pi_ro rfl (fun w hS => ro_move rfl) ?_
  refine pi_ro rfl (fun w hS => ro_addN rfl rfl (by omega)) ?_
  refine pi_ro rfl (fun w hS => ro_move rfl) ?_
  refine pi_ro rfl (fun w hS => ro_nilCheck rfl) ?_
  refine pi_ro rfl (fun w hS => ro_fieldAddr (k := 2) rfl fo_331_2) ?_
  refine pi_ro rfl (fun w hS => ro_loadB rfl sc_3 (Blk.of_heap hB1 hS) (frow_at q1 (by decide))) ?_
  refine pi_ro rfl (fun w hS => ro_move rfl) ?_
  refine pi_ro rfl (fun w hS => ro_addN rfl rfl (by omega)) ?_
  refine pi_ro rfl (fun w hS => ro_addN (k := 3) rfl rfl (by omega)) ?_
  refine pi_ro rfl (fun w hS => ro_slS (m := 3) rfl rfl rfl se_83 (by omega) (by omega)) ?_
  refine pi_ro rfl (fun w hS => ro_assign rfl) ?_
  refine pi_nil (x_then (hK25 _ _ ?_))
  clear hK25 K25
  refine forget [(14, _)] ⟨rfl, trivial⟩ (fun e => ?_)
  refine c_seq (fun K26 hK26 => ?_)
  refine c_reg ?_ -- region 34 exec.go:188
  refine wl (ro_move rfl) ?_
  refine wl (ro_indexAddr (et := 119) (k := 3) rfl rfl se_83 (rfl) ((by decide))) ?_
  refine wl (ro_fieldAddr (k := 0) rfl fo_119_0) ?_
  refine wl (ro_loadB rfl sc_3 (hB5) (sl_row r0 e0 (by decide))) ?_
  refine wl (ro_cmp (r := true) rfl rfl (by rw [hTT.1]; rfl)) ?_
  refine wl (ro_move rfl) ?_
  refine wlg_yes rfl (ro_move rfl) ?_
  refine wlg_yes rfl (ro_indexAddr (et := 119) (k := 3) rfl rfl se_83 (rfl) ((by decide))) ?_
  refine wlg_yes rfl (ro_fieldAddr (k := 0) rfl fo_119_0) ?_
  refine wlg_yes rfl (ro_loadB rfl sc_3 (hB5) (sl_row r1 e1 (by decide))) ?_
  refine wlg_yes rfl (ro_cmp (r := true) rfl rfl (by rw [hTT.2.1]; rfl)) ?_
  refine wl (ro_pick rfl rfl rfl) ?_
  refine wl (ro_move rfl) ?_
  refine wlg_yes rfl (ro_move rfl) ?_
  refine wlg_yes rfl (ro_indexAddr (et := 119) (k := 3) rfl rfl se_83 (rfl) ((by decide))) ?_
  refine wlg_yes rfl (ro_fieldAddr (k := 0) rfl fo_119_0) ?_
  refine wlg_yes rfl (ro_loadB rfl sc_3 (hB5) (sl_row r2 e2 (by decide))) ?_
  refine wlg_yes rfl (ro_cmp (r := true) rfl rfl (by rw [hTT.2.2]; rfl)) ?_
  refine wl (ro_pick rfl rfl rfl) ?_
  refine wl (ro_assign rfl) ?_
  refine wl_nil (x_then (hK26 _ _ ?_))
  clear hK26 K26
  refine c_ret (x_blkR (x_thenR ?_))
  refine bp_ret Tryz.results241 rfl ?_
  exact ⟨rfl, hF.thenDrew⟩
set_option maxHeartbeats 8000000 in
theorem snd_32 (E : PE C fg fc w ow a y gs g vars p ids 32 z) : Ret Tryz.prog 241 [ptr C.E.mb, tptr C a.cur, fpt fg gs.length, prt C p, u8n 32, i64c z] w (fun r w' => r = .bool true ∧ Fram none' w w') := by
  have hc := E.hc
  have hk := E.hk
  obtain ⟨V, κ, Vv, U, x, f, fs, o⟩ := E.r.open hc
  have hF : Fram none' w w := Fram.refl _ _
  have hol := E.ol
  have hnd := E.nd
  have hzz := E.hz
  obtain ⟨lT, hT, -, -, -, hT2, -⟩ := o.v.thA o.t.hx
  have hT2 := hT2 2 (.inl rfl)
  obtain ⟨lB, hB1, k1, q1, -, -⟩ := o.frow
  obtain ⟨lP, pa, pb, pc, hP, tP, rp, hups, -, -⟩ := o.v.pro E.hp
  rw [Nat.zero_add] at rp
  obtain ⟨p0, ids0, n1, n2, n3⟩ := o.ns
  obtain ⟨rfl, rfl⟩ : p = p0 ∧ ids = ids0 := by have := hk.symm.trans n1; simpa using this
  have hln := o.t.ln
  have hsl := o.sl
  obtain ⟨cs, hcs, hcl⟩ := o.clos hk
  obtain ⟨cg, cc, lC, up, e6, hC, tC, rC⟩ := o.v.clo hcs
  obtain ⟨lM, hM, m0, m1, m2, m3, m4, m5, m6, -⟩ := o.v.mbA
  rw [e6] at m6
  have hclt := (List.getElem?_eq_some_iff.1 hcs).1
  have hx : z + 3 < (fsAt C.F p).ns := by have := E.sn.r.2.2.2.2.2.2.2.2.2.2.1 (.inr (.inr rfl)); rw [E.pr] at this; exact this
  refine ret_of Tryz.func241 rfl Tryz.ntmps241 rfl ?_
  refine c_seq (fun K1 hK1 => ?_)
  refine c_reg ?_ -- region 0 exec.go:160
  refine wl (ro_assign rfl) ?_
  refine wl_nil (x_then (hK1 _ _ ?_))
  clear hK1 K1
  refine forget [(0, _), (1, _), (2, _), (3, _), (4, _), (5, _)] ⟨rfl, rfl, rfl, rfl, rfl, rfl, trivial⟩ (fun e => ?_)
  refine c_seq (fun K2 hK2 => ?_)
  refine c_pi [(0, false), (1, false), (2, false), (3, false), (4, false), (5, false), (6, false), (7, false), (8, false), (9, false), (10, false), (11, false)] (SameH _) mixed (by kernel_rfl) rfl (by kernel_rfl) (po_then (po_bp)) (sameH_now _ _) ?_ -- region 1 exec.go:161
  refine pi_ro rfl (fun w hS => ro_move rfl) ?_
  refine pi_ro rfl (fun w hS => ro_nilCheck rfl) ?_
  refine pi_ro rfl (fun w hS => ro_fieldAddr (k := 6) rfl fo_89_6) ?_
  refine pi_ro rfl (fun w hS => ro_loadB rfl sc_85 (Blk.of_heap hM hS) (m6)) ?_
  refine pi_ro rfl (fun w hS => ro_move rfl) ?_
  refine pi_ro rfl (fun w hS => ro_nilCheck rfl) ?_
  refine pi_ro rfl (fun w hS => ro_fieldAddr (k := 0) rfl fo_331_0) ?_
  refine pi_ro rfl (fun w hS => ro_loadB rfl sc_3 (Blk.of_heap hB1 hS) (frow_at q1 (by decide))) ?_
  refine pi_ro rfl (fun w hS => ro_indexAddr (et := 209) (k := 3) rfl rfl se_85 (rfl) ((by omega))) ?_
  refine pi_ro rfl (fun w hS => ro_fieldAddr (k := 2) rfl fo_209_2) ?_
  refine pi_ro rfl (fun w hS => ro_loadB rfl sc_3 (Blk.of_heap hC hS) (row_get rC (by decide))) ?_
  refine pi_ro rfl (fun w hS => ro_assign rfl) ?_
  refine pi_nil (x_then (hK2 _ _ ?_))
  clear hK2 K2
  refine c_seq (fun K3 hK3 => ?_)
  refine c_seq (fun K4 hK4 => ?_)
  refine c_reg ?_ -- region 2 exec.go:162
  refine wl (ro_move rfl) ?_
  refine wl_nil (x_then (hK4 _ _ ?_))
  clear hK4 K4
  refine c_block ?_
  refine forget [(0, _), (1, _), (2, _), (3, _), (4, _), (5, _), (13, _), (29, _)] ⟨rfl, rfl, rfl, rfl, rfl, rfl, rfl, rfl, trivial⟩ (fun e => ?_)
  refine c_seq (fun K5 hK5 => ?_)
  refine c_reg ?_ -- region 3 exec.go:163
  refine wl (ro_cmp rfl rfl rfl) ?_
  refine wl (ro_assign rfl) ?_
  refine wl_nil (x_then (hK5 _ _ ?_))
  clear hK5 K5
  refine wc_condF rfl ?_
  refine c_seq (fun K6 hK6 => ?_)
  refine c_seq (fun K7 hK7 => ?_)
  refine c_reg ?_ -- region 5 exec.go:165
  refine wl (ro_cmp rfl rfl rfl) ?_
  refine wl (ro_assign rfl) ?_
  refine wl_nil (x_then (hK7 _ _ ?_))
  clear hK7 K7
  refine wc_condF rfl ?_
  refine c_reg ?_ -- region 6 exec.go:165
  refine wl (ro_cmp rfl rfl rfl) ?_
  refine wl (ro_assign rfl) ?_
  refine wl_nil (x_then (hK6 _ _ ?_))
  clear hK6 K6
  refine wc_condF rfl ?_
  refine c_seq (fun K8 hK8 => ?_)
  refine c_seq (fun K9 hK9 => ?_)
  refine c_reg ?_ -- region 8 exec.go:167
  refine wl (ro_cmp rfl rfl rfl) ?_
  refine wl (ro_assign rfl) ?_
  refine wl_nil (x_then (hK9 _ _ ?_))
  clear hK9 K9
  refine wc_condF rfl ?_
  refine c_reg ?_ -- region 9 exec.go:167
  refine wl (ro_cmp rfl rfl rfl) ?_
  refine wl (ro_assign rfl) ?_
  refine wl_nil (x_then (hK8 _ _ ?_))
  clear hK8 K8
  refine wc_condF rfl ?_
  refine c_seq (fun K10 hK10 => ?_)
  refine c_seq (fun K11 hK11 => ?_)
  refine c_reg ?_ -- region 11 exec.go:169
  refine wl (ro_cmp rfl rfl rfl) ?_
  refine wl (ro_assign rfl) ?_
  refine wl_nil (x_then (hK11 _ _ ?_))
  clear hK11 K11
  refine wc_condF rfl ?_
  refine c_reg ?_ -- region 12 exec.go:169
  refine wl (ro_cmp rfl rfl rfl) ?_
  refine wl (ro_assign rfl) ?_
  refine wl_nil (x_then (hK10 _ _ ?_))
  clear hK10 K10
  refine wc_condF rfl ?_
  refine c_seq (fun K12 hK12 => ?_)
  refine c_reg ?_ -- region 14 exec.go:171
  refine wl (ro_cmp rfl rfl rfl) ?_
  refine wl (ro_assign rfl) ?_
  refine wl_nil (x_then (hK12 _ _ ?_))
  clear hK12 K12
  refine wc_condF rfl ?_
  refine c_seq (fun K13 hK13 => ?_)
  refine c_reg ?_ -- region 16 exec.go:173
  refine wl (ro_cmp rfl rfl rfl) ?_
  refine wl (ro_assign rfl) ?_
  refine wl_nil (x_then (hK13 _ _ ?_))
  clear hK13 K13
  refine wc_condF rfl ?_
  refine c_seq (fun K14 hK14 => ?_)
  refine c_seq (fun K15 hK15 => ?_)
  refine c_reg ?_ -- region 18 exec.go:175
  refine wl (ro_cmp rfl rfl rfl) ?_
  refine wl (ro_assign rfl) ?_
  refine wl_nil (x_then (hK15 _ _ ?_))
  clear hK15 K15
  refine wc_condF rfl ?_
  refine c_seq (fun K16 hK16 => ?_)
  refine c_reg ?_ -- region 19 exec.go:175
  refine wl (ro_cmp rfl rfl rfl) ?_
  refine wl (ro_assign rfl) ?_
  refine wl_nil (x_then (hK16 _ _ ?_))
  clear hK16 K16
  refine wc_condF rfl ?_
  refine c_seq (fun K17 hK17 => ?_)
  refine c_reg ?_ -- region 20 exec.go:175
  refine wl (ro_cmp rfl rfl rfl) ?_
  refine wl (ro_assign rfl) ?_
  refine wl_nil (x_then (hK17 _ _ ?_))
  clear hK17 K17
  refine wc_condF rfl ?_
  refine c_reg ?_ -- region 21 exec.go:175
  refine wl (ro_cmp rfl rfl rfl) ?_
  refine wl (ro_assign rfl) ?_
  refine wl_nil (x_then (hK14 _ _ ?_))
  clear hK14 K14
  refine wc_condF rfl ?_
  refine c_seq (fun K18 hK18 => ?_)
  refine c_reg ?_ -- region 23 exec.go:177
  refine wl (ro_cmp rfl rfl rfl) ?_
  refine wl (ro_assign rfl) ?_
  refine wl_nil (x_then (hK18 _ _ ?_))
  clear hK18 K18
  refine wc_condF rfl ?_
  refine c_seq (fun K19 hK19 => ?_)
  refine c_reg ?_ -- region 25 exec.go:179
  refine wl (ro_cmp rfl rfl rfl) ?_
  refine wl (ro_assign rfl) ?_
  refine wl_nil (x_then (hK19 _ _ ?_))
  clear hK19 K19
  refine wc_condF rfl ?_
  refine c_seq (fun K20 hK20 => ?_)
  refine c_seq (fun K21 hK21 => ?_)
  refine c_reg ?_ -- region 27 exec.go:181
  refine wl (ro_cmp rfl rfl rfl) ?_
  refine wl (ro_assign rfl) ?_
  refine wl_nil (x_then (hK21 _ _ ?_))
  clear hK21 K21
  refine wc_condF rfl ?_
  refine c_reg ?_ -- region 28 exec.go:181
  refine wl (ro_cmp rfl rfl rfl) ?_
  refine wl (ro_assign rfl) ?_
  refine wl_nil (x_then (hK20 _ _ ?_))
  clear hK20 K20
  refine wc_condT rfl ?_
  refine c_seq (fun K22 hK22 => ?_)
  refine c_reg ?_ -- region 29 exec.go:182
  refine wl (ro_move rfl) ?_
  refine wl (ro_addN (k := 3) rfl rfl (by omega)) ?_
  refine wl (ro_move rfl) ?_
  refine wl (ro_nilCheck rfl) ?_
  refine wl (ro_fieldAddr (k := 1) rfl fo_258_1) ?_
  refine wl (ro_loadB rfl sc_3 (hP) (row_get rp (by decide))) ?_
  refine wl (ro_cmp (r := true) rfl rfl (congrArg some (decide_eq_true (by omega)))) ?_
  refine wl (ro_assign rfl) ?_
  refine wl_nil (x_then (hK22 _ _ ?_))
  clear hK22 K22
  refine c_ret (x_blkR (x_thenR ?_))
  refine bp_ret Tryz.results241 rfl ?_
  exact ⟨rfl, hF.thenDrew⟩
end
end Go.Proofs.Qxb6500568aGreatDoor
