import Derived.Test.Qxb6500568aGreatDoorHp
/- The machine: the checks ahead of an instruction. -/
namespace Go.Proofs.Qxb6500568aGreatDoor
open Ieee
set_option linter.unusedVariables false
set_option linter.unusedSimpArgs false
set_option linter.unusedSectionVars false

section
variable {α : Type} {w : World} {ow : Nat → Nat} {tag et k : Nat} {v : Value} {enc : α → List Value}
theorem OwT.win {D xs : List α} {a : Nat} (o : OwT w ow tag v et k D.length (rws enc D)) (hW : Win D a xs) (hk : ∀ x, (enc x).length = k) : WinV v a xs.length ∧ ∃ sa c, wiV v a xs.length k = .slice sa xs.length c ∧
    (0 < xs.length → ∃ dg dl, sa = some ⟨dg, a * k, none⟩ ∧ Blk w.heap dg dl et ∧ ow dg = tag ∧ ∀ (i : Nat) d, xs[i]? = some d → (dl.drop (a * k + i * k)).take k = enc d) := by
  have hl := hW.1
  rcases o.o.2 with ⟨k1, k2⟩ | ⟨g', cap', l, k1, hB, q1, hcap, q2, q3⟩
  · have e1 : xs.length = 0 := by omega
    refine ⟨.inr ⟨0, k1, by omega, e1⟩, none, 0, ?_, fun q => by omega⟩
    rw [k1, e1]; rfl
  · refine ⟨.inl ⟨_, _, _, k1, by omega⟩, some ⟨g', if cap' = a then 0 else 0 + a * k, none⟩, cap' - a, by rw [k1]; rfl, fun q => ⟨g', l, ?_, hB, o.t g' (by rw [k1]; rfl), fun i d hd => ?_⟩⟩
    · rw [if_neg (by omega), Nat.zero_add]
    · obtain ⟨g2, c2, l2, e2, b2, -, -, -, -, r2⟩ := o.at hk (hW.2 i d hd)
      rw [k1] at e2
      injection e2 with e2
      injection e2 with e2
      injection e2 with e2
      subst e2
      rw [(hB.uniq b2).1]
      have := r2 _ _ (hW.2 i d hd)
      rw [Nat.zero_add, Nat.add_mul] at this
      exact this
end
section
variable {C : VC} {w : World} {ow : Nat → Nat} {a : AS} {y : ATh} {gs : List AFr} {g : AFr} {vars : List PV} {fg fc p z : Nat} {ids : List Nat}
set_option maxHeartbeats 8000000 in
theorem snd_28 (E : PE C fg fc w ow a y gs g vars p ids 28 z) : Ret Tryz.prog 241 [ptr C.E.mb, tptr C a.cur, fpt fg gs.length, prt C p, u8n 28, i64c z] w (fun r w' => r = .bool true ∧ Fram none' w w') := by
  have hc := E.hc
  have hk := E.hk
  obtain ⟨V, κ, Vv, U, x, f, fs, o⟩ := E.r.open hc
  have hF : Fram none' w w := Fram.refl _ _
  have hol := E.ol
  have hnd := E.nd
  have hzz := E.hz
  obtain ⟨lT, hT, -, -, -, hT2, -⟩ := o.v.thA o.t.hx
  have hT2 := hT2 2 (.inl rfl)
  obtain ⟨lB, hB1, k1, q1, -, -⟩ := o.frow
  obtain ⟨lP, pa, pb, pc, hP, tP, rp, hups, -, -⟩ := o.v.pro E.hp
  rw [Nat.zero_add] at rp
  obtain ⟨p0, ids0, n1, n2, n3⟩ := o.ns
  obtain ⟨rfl, rfl⟩ : p = p0 ∧ ids = ids0 := by have := hk.symm.trans n1; simpa using this
  have hln := o.t.ln
  have hsl := o.sl
  obtain ⟨cs, hcs, hcl⟩ := o.clos hk
  obtain ⟨cg, cc, lC, up, e6, hC, tC, rC⟩ := o.v.clo hcs
  obtain ⟨lM, hM, m0, m1, m2, m3, m4, m5, m6, -⟩ := o.v.mbA
  rw [e6] at m6
  have hclt := (List.getElem?_eq_some_iff.1 hcs).1
  obtain ⟨hq, hd⟩ := E.sn.r.2.2.2.2.2.2.2.2.2.2.2.2 rfl
  rw [E.pr, pr_psf, E.id] at hd
  have hq : z < C.F.length := by unfold Psf at hq; rw [List.length_map] at hq; exact hq
  have hd : ∀ d ∈ (fsAt C.F z).ups, (d.1 = 1 ∧ d.2 < (fsAt C.F p).ns) ∨ (d.1 = 0 ∧ d.2 < cs.length) := by rw [hcl]; exact hd
  have hn9 : (fsAt C.F p).ns ≤ 12 := by omega
  obtain ⟨lP2, pa2, pb2, pc2, hP2, -, rp2, ⟨D, oD, wD, bD⟩, -, -⟩ := o.v.pro hq
  obtain rfl := (hP.uniq hP2).1
  have hwl := wD.1
  obtain ⟨hwin, sa, sc, hwv, hrow⟩ := oD.win wD upc_len
  obtain ⟨-, hubd⟩ := upc_bd (o.v.co.fok z)
  unfold vpc at rp2
  generalize (fsAt C.F z).ups = ds at *
  refine ret_of Tryz.func241 rfl Tryz.ntmps241 rfl ?_
  refine c_seq (fun K1 hK1 => ?_)
  refine c_reg ?_ -- region 0 exec.go:160
  refine wl (ro_assign rfl) ?_
  refine wl_nil (x_then (hK1 _ _ ?_))
  clear hK1 K1
  refine forget [(0, _), (1, _), (2, _), (3, _), (4, _), (5, _)] ⟨rfl, rfl, rfl, rfl, rfl, rfl, trivial⟩ (fun e => ?_)
  refine c_seq (fun K2 hK2 => ?_)
  refine c_pi [(0, false), (1, false), (2, false), (3, false), (4, false), (5, false), (6, false), (7, false), (8, false), (9, false), (10, false), (11, false)] (SameH _) mixed (by kernel_rfl) rfl (by kernel_rfl) (po_then (po_bp)) (sameH_now _ _) ?_ -- region 1 exec.go:161
  refine pi_ro rfl (fun w hS => ro_move rfl) ?_
  refine pi_ro rfl (fun w hS => ro_nilCheck rfl) ?_
  refine pi_ro rfl (fun w hS => ro_fieldAddr (k := 6) rfl fo_89_6) ?_
  refine pi_ro rfl (fun w hS => ro_loadB rfl sc_85 (Blk.of_heap hM hS) (m6)) ?_
  refine pi_ro rfl (fun w hS => ro_move rfl) ?_
  refine pi_ro rfl (fun w hS => ro_nilCheck rfl) ?_
  refine pi_ro rfl (fun w hS => ro_fieldAddr (k := 0) rfl fo_331_0) ?_
  refine pi_ro rfl (fun w hS => ro_loadB rfl sc_3 (Blk.of_heap hB1 hS) (frow_at q1 (by decide))) ?_
  refine pi_ro rfl (fun w hS => ro_indexAddr (et := 209) (k := 3) rfl rfl se_85 (rfl) ((by omega))) ?_
  refine pi_ro rfl (fun w hS => ro_fieldAddr (k := 2) rfl fo_209_2) ?_
  refine pi_ro rfl (fun w hS => ro_loadB rfl sc_3 (Blk.of_heap hC hS) (row_get rC (by decide))) ?_
  refine pi_ro rfl (fun w hS => ro_assign rfl) ?_
  refine pi_nil (x_then (hK2 _ _ ?_))
  clear hK2 K2
  refine c_seq (fun K3 hK3 => ?_)
  refine c_seq (fun K4 hK4 => ?_)
  refine c_reg ?_ -- region 2 exec.go:162
  refine wl (ro_move rfl) ?_
  refine wl_nil (x_then (hK4 _ _ ?_))
  clear hK4 K4
  refine c_block ?_
  refine forget [(0, _), (1, _), (2, _), (3, _), (4, _), (5, _), (13, _), (29, _)] ⟨rfl, rfl, rfl, rfl, rfl, rfl, rfl, rfl, trivial⟩ (fun e => ?_)
  refine c_seq (fun K5 hK5 => ?_)
  refine c_reg ?_ -- region 3 exec.go:163
  refine wl (ro_cmp rfl rfl rfl) ?_
  refine wl (ro_assign rfl) ?_
  refine wl_nil (x_then (hK5 _ _ ?_))
  clear hK5 K5
  refine wc_condF rfl ?_
  refine c_seq (fun K6 hK6 => ?_)
  refine c_seq (fun K7 hK7 => ?_)
  refine c_reg ?_ -- region 5 exec.go:165
  refine wl (ro_cmp rfl rfl rfl) ?_
  refine wl (ro_assign rfl) ?_
  refine wl_nil (x_then (hK7 _ _ ?_))
  clear hK7 K7
  refine wc_condF rfl ?_
  refine c_reg ?_ -- region 6 exec.go:165
  refine wl (ro_cmp rfl rfl rfl) ?_
  refine wl (ro_assign rfl) ?_
  refine wl_nil (x_then (hK6 _ _ ?_))
  clear hK6 K6
  refine wc_condF rfl ?_
  refine c_seq (fun K8 hK8 => ?_)
  refine c_seq (fun K9 hK9 => ?_)
  refine c_reg ?_ -- region 8 exec.go:167
  refine wl (ro_cmp rfl rfl rfl) ?_
  refine wl (ro_assign rfl) ?_
  refine wl_nil (x_then (hK9 _ _ ?_))
  clear hK9 K9
  refine wc_condF rfl ?_
  refine c_reg ?_ -- region 9 exec.go:167
  refine wl (ro_cmp rfl rfl rfl) ?_
  refine wl (ro_assign rfl) ?_
  refine wl_nil (x_then (hK8 _ _ ?_))
  clear hK8 K8
  refine wc_condF rfl ?_
  refine c_seq (fun K10 hK10 => ?_)
  refine c_seq (fun K11 hK11 => ?_)
  refine c_reg ?_ -- region 11 exec.go:169
  refine wl (ro_cmp rfl rfl rfl) ?_
  refine wl (ro_assign rfl) ?_
  refine wl_nil (x_then (hK11 _ _ ?_))
  clear hK11 K11
  refine wc_condF rfl ?_
  refine c_reg ?_ -- region 12 exec.go:169
  refine wl (ro_cmp rfl rfl rfl) ?_
  refine wl (ro_assign rfl) ?_
  refine wl_nil (x_then (hK10 _ _ ?_))
  clear hK10 K10
  refine wc_condF rfl ?_
  refine c_seq (fun K12 hK12 => ?_)
  refine c_reg ?_ -- region 14 exec.go:171
  refine wl (ro_cmp rfl rfl rfl) ?_
  refine wl (ro_assign rfl) ?_
  refine wl_nil (x_then (hK12 _ _ ?_))
  clear hK12 K12
  refine wc_condF rfl ?_
  refine c_seq (fun K13 hK13 => ?_)
  refine c_reg ?_ -- region 16 exec.go:173
  refine wl (ro_cmp rfl rfl rfl) ?_
  refine wl (ro_assign rfl) ?_
  refine wl_nil (x_then (hK13 _ _ ?_))
  clear hK13 K13
  refine wc_condF rfl ?_
  refine c_seq (fun K14 hK14 => ?_)
  refine c_seq (fun K15 hK15 => ?_)
  refine c_reg ?_ -- region 18 exec.go:175
  refine wl (ro_cmp rfl rfl rfl) ?_
  refine wl (ro_assign rfl) ?_
  refine wl_nil (x_then (hK15 _ _ ?_))
  clear hK15 K15
  refine wc_condF rfl ?_
  refine c_seq (fun K16 hK16 => ?_)
  refine c_reg ?_ -- region 19 exec.go:175
  refine wl (ro_cmp rfl rfl rfl) ?_
  refine wl (ro_assign rfl) ?_
  refine wl_nil (x_then (hK16 _ _ ?_))
  clear hK16 K16
  refine wc_condF rfl ?_
  refine c_seq (fun K17 hK17 => ?_)
  refine c_reg ?_ -- region 20 exec.go:175
  refine wl (ro_cmp rfl rfl rfl) ?_
  refine wl (ro_assign rfl) ?_
  refine wl_nil (x_then (hK17 _ _ ?_))
  clear hK17 K17
  refine wc_condF rfl ?_
  refine c_reg ?_ -- region 21 exec.go:175
  refine wl (ro_cmp rfl rfl rfl) ?_
  refine wl (ro_assign rfl) ?_
  refine wl_nil (x_then (hK14 _ _ ?_))
  clear hK14 K14
  refine wc_condF rfl ?_
  refine c_seq (fun K18 hK18 => ?_)
  refine c_reg ?_ -- region 23 exec.go:177
  refine wl (ro_cmp rfl rfl rfl) ?_
  refine wl (ro_assign rfl) ?_
  refine wl_nil (x_then (hK18 _ _ ?_))
  clear hK18 K18
  refine wc_condF rfl ?_
  refine c_seq (fun K19 hK19 => ?_)
  refine c_reg ?_ -- region 25 exec.go:179
  refine wl (ro_cmp rfl rfl rfl) ?_
  refine wl (ro_assign rfl) ?_
  refine wl_nil (x_then (hK19 _ _ ?_))
  clear hK19 K19
  refine wc_condF rfl ?_
  refine c_seq (fun K20 hK20 => ?_)
  refine c_seq (fun K21 hK21 => ?_)
  refine c_reg ?_ -- region 27 exec.go:181
  refine wl (ro_cmp rfl rfl rfl) ?_
  refine wl (ro_assign rfl) ?_
  refine wl_nil (x_then (hK21 _ _ ?_))
  clear hK21 K21
  refine wc_condF rfl ?_
  refine c_reg ?_ -- region 28 exec.go:181
  refine wl (ro_cmp rfl rfl rfl) ?_
  refine wl (ro_assign rfl) ?_
  refine wl_nil (x_then (hK20 _ _ ?_))
  clear hK20 K20
  refine wc_condF rfl ?_
  refine c_seq (fun K22 hK22 => ?_)
  refine c_reg ?_ -- region 30 exec.go:183
  refine wl (ro_cmp rfl rfl rfl) ?_
  refine wl (ro_assign rfl) ?_
  refine wl_nil (x_then (hK22 _ _ ?_))
  clear hK22 K22
  refine wc_condF rfl ?_
  refine c_seq (fun K23 hK23 => ?_)
  refine c_reg ?_ -- region 35 exec.go:189
  refine wl (ro_cmp rfl rfl rfl) ?_
  refine wl (ro_assign rfl) ?_
  refine wl_nil (x_then (hK23 _ _ ?_))
  clear hK23 K23
  refine wc_condT rfl ?_
  refine c_seq (fun K24 hK24 => ?_)
  refine c_seq (fun K25 hK25 => ?_)
  refine c_reg ?_ -- region 36 exec.go:190
  refine wl (ro_move rfl) ?_
  refine wl (ro_move rfl) ?_
  refine wl (ro_nilCheck rfl) ?_
  refine wl (ro_fieldAddr (k := 2) rfl fo_89_2) ?_
  refine wl (ro_loadB rfl sc_81 (hM) (m2)) ?_
  refine wl (ro_lenL rfl se_81) ?_
  refine wl (ro_cmp (r := false) rfl rfl (congrArg some (decide_eq_false (by omega)))) ?_
  refine wl_nil (x_then (hK25 _ _ ?_))
  clear hK25 K25
  refine wc_condF rfl ?_
  refine c_skip (x_then (hK24 _ _ ?_))
  clear hK24 K24
  refine forget [(0, _), (3, _), (5, _), (13, _)] ⟨rfl, rfl, rfl, rfl, trivial⟩ (fun e => ?_)
  refine c_seq (fun K26 hK26 => ?_)
  refine c_reg ?_ -- region 38 exec.go:193
  refine wl (ro_move rfl) ?_
  refine wl (ro_nilCheck rfl) ?_
  refine wl (ro_fieldAddr (k := 2) rfl fo_89_2) ?_
  refine wl (ro_loadB rfl sc_81 (hM) (m2)) ?_
  refine wl (ro_move rfl) ?_
  refine wl (ro_indexAddr (et := 258) (k := 8) rfl rfl se_81 (rfl) ((by omega))) ?_
  refine wl (ro_assign rfl) ?_
  refine wl_nil (x_then (hK26 _ _ ?_))
  clear hK26 K26
  refine c_seq (fun K27 hK27 => ?_)
  refine c_seq (fun K28 hK28 => ?_)
  refine c_pi [(0, false), (1, false), (2, false), (3, false), (4, false), (5, false), (6, false), (7, false), (8, false), (9, false), (10, false), (11, false), (12, false), (13, false), (14, false), (15, false), (16, false), (17, false), (18, false), (19, false)] (SameH _) mixed (by kernel_rfl) rfl (by kernel_rfl) (po_then (po_then (po_blk (po_then (po_bp))))) (sameH_now _ _) ?_ -- region 39 exec.go:194
  refine pi_ro rfl (fun w hS => ro_move rfl) ?_
  refine pi_ro rfl (fun w hS => ro_nilCheck rfl) ?_
  refine pi_ro rfl (fun w hS => ro_fieldAddr (k := 3) rfl fo_89_3) ?_
  refine pi_ro rfl (fun w hS => ro_loadB rfl sc_82 (Blk.of_heap hM hS) (m3)) ?_
  refine pi_ro rfl (fun w hS => ro_move rfl) ?_
  refine pi_ro rfl (fun w hS => ro_nilCheck rfl) ?_
  refine pi_ro rfl (fun w hS => ro_fieldAddr (k := 2) rfl fo_258_2) ?_
  refine pi_ro rfl (fun w hS => ro_loadB rfl sc_3 (Blk.of_heap hP hS) (row_get rp2 (by decide))) ?_
  refine pi_ro rfl (fun w hS => ro_move rfl) ?_
  refine pi_ro rfl (fun w hS => ro_nilCheck rfl) ?_
  refine pi_ro rfl (fun w hS => ro_fieldAddr (k := 2) rfl fo_258_2) ?_
  refine pi_ro rfl (fun w hS => ro_loadB rfl sc_3 (Blk.of_heap hP hS) (row_get rp2 (by decide))) ?_
  refine pi_ro rfl (fun w hS => ro_move rfl) ?_
  refine pi_ro rfl (fun w hS => ro_nilCheck rfl) ?_
  refine pi_ro rfl (fun w hS => ro_fieldAddr (k := 3) rfl fo_258_3) ?_
  refine pi_ro rfl (fun w hS => ro_loadB rfl sc_3 (Blk.of_heap hP hS) (row_get rp2 (by decide))) ?_
  refine pi_ro rfl (fun w hS => ro_addN rfl rfl (by omega)) ?_
  refine pi_ro rfl (fun w hS => (hwv ▸ ro_slV hwin rfl rfl rfl se_82)) ?_
  refine pi_ro rfl (fun w hS => ro_lenL rfl se_82) ?_
  refine pi_ro rfl (fun w hS => ro_move rfl) ?_
  refine pi_nil (x_then (hK28 _ _ ?_))
  clear hK28 K28
  refine c_block ?_
  -- loop@r40: live slots [3, 13, 205, 206, 207]
  refine c_loopG (fun m b u => ∃ i, m = ds.length - i ∧ i ≤ ds.length ∧ Fram none' w u ∧ ∃ e', b = Fr 243 (upds e' [(3, prt C p), (13, i64c cs.length), (205, .slice sa ds.length sc), (206, i64c ds.length), (207, i64c i)]) []) _ ⟨0, rfl, by omega, hF.thenDrew, kp _ ⟨rfl, rfl, rfl, rfl, rfl, trivial⟩⟩ ?_
  have hP0 := hP
  clear hF hM hB1 hP hC hT
  rintro m b u ⟨i, rfl, hi, hF, e', rfl⟩
  refine c_seq (fun K29 hK29 => ?_)
  refine c_reg ?_ -- region 40 exec.go:194
  refine wl (ro_cmp rfl rfl rfl) ?_
  refine wl_nil (x_then (hK29 _ _ ?_))
  clear hK29 K29
  refine forget [(3, _), (13, _), (205, _), (206, _), (207, _), (208, _)] ⟨rfl, rfl, rfl, rfl, rfl, rfl, trivial⟩ (fun e => ?_)
  refine c_seq (fun K30 hK30 => ?_)
  refine wc_cond rfl (fun hc208 => ?_) (fun hc208 => ?_)
  · try simp only [decide_eq_true_eq, decide_eq_false_iff_not, Bool.not_eq_true', Bool.not_eq_false', Bool.not_eq_eq_eq_not, Bool.not_true, Bool.not_false, beq_iff_eq, bne_iff_ne, ne_eq, beq_eq_false_iff_ne, bne_eq_false_iff_eq, gt_iff_lt, ge_iff_le, Int.not_lt, Int.not_le] at hc208
    have hilt : i < ds.length := by omega
    obtain ⟨dg, dl, rfl, dB, dt, dr⟩ := hrow (by omega)
    have hdi : ds[i]? = some ds[i] := List.getElem?_eq_getElem hilt
    have hdm := hd _ (List.getElem_mem hilt)
    have hdb := hubd _ (List.getElem_mem hilt)
    have hrd := dr i _ hdi
    generalize ds[i] = d at *
    obtain ⟨d1, d2⟩ := d
    dsimp only at hdb
    have hD := hF.blkN dB
    have hP := hF.blkN hP0
    refine c_skip (x_then (hK30 _ _ ?_))
    clear hK30 K30
    refine forget [(3, _), (13, _), (205, _), (206, _), (207, _)] ⟨rfl, rfl, rfl, rfl, rfl, trivial⟩ (fun e => ?_)
    refine c_seq (fun K31 hK31 => ?_)
    refine c_block ?_
    refine c_seq (fun K32 hK32 => ?_)
    refine c_reg ?_ -- region 41 exec.go:194
    refine wl (ro_indexAddr (et := 319) (k := 2) rfl rfl se_82 (rfl) ((by omega))) ?_
    refine wl (ro_loadAggB rfl ag_319 (hD) (upc_len _) (hrd)) ?_
    refine wl_new (ze_319) (fun b17 w1 hbb17 h17 F1 => ?_)
    have hbsb17 := Nat.le_trans hF.size hbb17
    have hnedgb17 : dg < b17 := Nat.lt_of_lt_of_le hD.lt hbb17
    have hneC.pgb17 : C.pg < b17 := Nat.lt_of_lt_of_le hP.lt hbb17
    replace hF := hF.thenDrew.thenN F1
    replace hD := F1.blkN hD
    replace hP := F1.blkN hP
    refine wl_puta rfl rfl ((upc_one _)) sz_319 (rfl) h17 ((by simp)) (rfl) (fun w2 h17 F2 => ?_)
    replace hF := hF.thenDrew.thenO F2 (by first | exact .inr (by omega) | exact .inl rfl | exact .inl (by assumption) | assumption)
    replace hD := F2.blkO hD (by omega)
    replace hP := F2.blkO hP (by omega)
    refine wl_nil (x_then (hK32 _ _ ?_))
    clear hK32 K32
    refine forget [(3, _), (13, _), (17, _), (205, _), (206, _), (207, _)] ⟨rfl, rfl, rfl, rfl, rfl, rfl, trivial⟩ (fun e => ?_)
    refine c_seq (fun K33 hK33 => ?_)
    rcases hdm with ⟨e1, e2⟩ | ⟨e1, e2⟩
    · skip
      dsimp only at e1 e2
      subst e1
      refine c_pi [(0, false), (1, false), (2, false), (3, false), (4, false), (5, false), (6, false), (7, false), (8, false), (9, false), (10, false), (11, false), (12, false), (13, false), (14, false), (15, false), (16, false), (17, false), (18, false), (19, false), (20, false), (21, false), (22, false), (23, false), (24, false)] (SameH _) mixed (by kernel_rfl) rfl (by kernel_rfl) (po_then (po_blk (po_then (po_then (po_blk (po_then (po_blk (po_then (po_bp))))))))) (sameH_now _ _) ?_ -- region 42 exec.go:195
      refine pi_ro rfl (fun w hS => ro_fieldAddr (k := 0) rfl fo_319_0) ?_
      refine pi_ro rfl (fun w hS => ro_loadB rfl sc_5 (Blk.of_heap h17 hS) rfl) ?_
      refine pi_ro rfl (fun w hS => ro_cmp rfl rfl rfl) ?_
      refine pi_ro rfl (fun w hS => ro_move rfl) ?_
      refine pi_gyes rfl rfl (fun w hS => ro_fieldAddr (k := 1) rfl fo_319_1) ?_
      refine pi_gyes rfl rfl (fun w hS => ro_loadB rfl sc_5 (Blk.of_heap h17 hS) rfl) ?_
      refine pi_gyes rfl rfl (fun w hS => ro_conv (a := (d2 : Int)) rfl sc_5 in_3 (Go.IntWalk.i64_in _ (by omega))) ?_
      refine pi_gyes rfl rfl (fun w hS => ro_move rfl) ?_
      refine pi_gyes rfl rfl (fun w hS => ro_nilCheck rfl) ?_
      refine pi_gyes rfl rfl (fun w hS => ro_fieldAddr (k := 1) rfl fo_258_1) ?_
      refine pi_gyes rfl rfl (fun w hS => ro_loadB rfl sc_3 (Blk.of_heap hP hS) (row_get rp (by decide))) ?_
      refine pi_gyes rfl rfl (fun w hS => ro_cmp (r := false) rfl rfl (congrArg some (decide_eq_false (by omega)))) ?_
      refine pi_ro rfl (fun w hS => ro_pick rfl rfl rfl) ?_
      refine pi_ro rfl (fun w hS => ro_move rfl) ?_
      refine pi_gyes rfl rfl (fun w hS => ro_fieldAddr (k := 0) rfl fo_319_0) ?_
      refine pi_gyes rfl rfl (fun w hS => ro_loadB rfl sc_5 (Blk.of_heap h17 hS) rfl) ?_
      refine pi_gyes rfl rfl (fun w hS => ro_cmp rfl rfl rfl) ?_
      refine pi_gyes rfl rfl (fun w hS => ro_move rfl) ?_
      refine pi_gno rfl rfl ?_
      refine pi_gno rfl rfl ?_
      refine pi_gno rfl rfl ?_
      refine pi_gno rfl rfl ?_
      refine pi_gno rfl rfl ?_
      refine pi_gyes rfl rfl (fun w hS => ro_pick rfl rfl rfl) ?_
      refine pi_ro rfl (fun w hS => ro_pick rfl rfl rfl) ?_
      refine pi_nil (x_then (hK33 _ _ ?_))
      clear hK33 K33
      refine wc_condF rfl ?_
      refine c_skip (x_blk (x_then (hK31 _ _ ?_)))
      clear hK31 K31
      refine c_reg ?_ -- region 44 exec.go:194
      refine wl (ro_arith rfl rfl rfl (Go.IntWalk.i64_in _ (by omega))) ?_
      refine wl (ro_move rfl) ?_
      refine wl_nil (x_then ?_)
      exact ⟨_, by omega, i + 1, rfl, by omega, hF.thenDrew, kp _ ⟨rfl, rfl, rfl, rfl, rfl, trivial⟩⟩
    · skip
      dsimp only at e1 e2
      subst e1
      refine c_pi [(0, false), (1, false), (2, false), (3, false), (4, false), (5, false), (6, false), (7, false), (8, false), (9, false), (10, false), (11, false), (12, false), (13, false), (14, false), (15, false), (16, false), (17, false), (18, false), (19, false), (20, false), (21, false), (22, false), (23, false), (24, false)] (SameH _) mixed (by kernel_rfl) rfl (by kernel_rfl) (po_then (po_blk (po_then (po_then (po_blk (po_then (po_blk (po_then (po_bp))))))))) (sameH_now _ _) ?_ -- region 42 exec.go:195
      refine pi_ro rfl (fun w hS => ro_fieldAddr (k := 0) rfl fo_319_0) ?_
      refine pi_ro rfl (fun w hS => ro_loadB rfl sc_5 (Blk.of_heap h17 hS) rfl) ?_
      refine pi_ro rfl (fun w hS => ro_cmp rfl rfl rfl) ?_
      refine pi_ro rfl (fun w hS => ro_move rfl) ?_
      refine pi_gno rfl rfl ?_
      refine pi_gno rfl rfl ?_
      refine pi_gno rfl rfl ?_
      refine pi_gno rfl rfl ?_
      refine pi_gno rfl rfl ?_
      refine pi_gno rfl rfl ?_
      refine pi_gno rfl rfl ?_
      refine pi_gno rfl rfl ?_
      refine pi_ro rfl (fun w hS => ro_pick rfl rfl rfl) ?_
      refine pi_ro rfl (fun w hS => ro_move rfl) ?_
      refine pi_gyes rfl rfl (fun w hS => ro_fieldAddr (k := 0) rfl fo_319_0) ?_
      refine pi_gyes rfl rfl (fun w hS => ro_loadB rfl sc_5 (Blk.of_heap h17 hS) rfl) ?_
      refine pi_gyes rfl rfl (fun w hS => ro_cmp rfl rfl rfl) ?_
      refine pi_gyes rfl rfl (fun w hS => ro_move rfl) ?_
      refine pi_gyes rfl rfl (fun w hS => ro_fieldAddr (k := 1) rfl fo_319_1) ?_
      refine pi_gyes rfl rfl (fun w hS => ro_loadB rfl sc_5 (Blk.of_heap h17 hS) rfl) ?_
      refine pi_gyes rfl rfl (fun w hS => ro_conv (a := (d2 : Int)) rfl sc_5 in_3 (Go.IntWalk.i64_in _ (by omega))) ?_
      refine pi_gyes rfl rfl (fun w hS => ro_move rfl) ?_
      refine pi_gyes rfl rfl (fun w hS => ro_cmp (r := false) rfl rfl (congrArg some (decide_eq_false (by omega)))) ?_
      refine pi_gyes rfl rfl (fun w hS => ro_pick rfl rfl rfl) ?_
      refine pi_ro rfl (fun w hS => ro_pick rfl rfl rfl) ?_
      refine pi_nil (x_then (hK33 _ _ ?_))
      clear hK33 K33
      refine wc_condF rfl ?_
      refine c_skip (x_blk (x_then (hK31 _ _ ?_)))
      clear hK31 K31
      refine c_reg ?_ -- region 44 exec.go:194
      refine wl (ro_arith rfl rfl rfl (Go.IntWalk.i64_in _ (by omega))) ?_
      refine wl (ro_move rfl) ?_
      refine wl_nil (x_then ?_)
      exact ⟨_, by omega, i + 1, rfl, by omega, hF.thenDrew, kp _ ⟨rfl, rfl, rfl, rfl, rfl, trivial⟩⟩
  · try simp only [decide_eq_true_eq, decide_eq_false_iff_not, Bool.not_eq_true', Bool.not_eq_false', Bool.not_eq_eq_eq_not, Bool.not_true, Bool.not_false, beq_iff_eq, bne_iff_ne, ne_eq, beq_eq_false_iff_ne, bne_eq_false_iff_eq, gt_iff_lt, ge_iff_le, Int.not_lt, Int.not_le] at hc208
    refine c_exit (x_thenX (x_thenX (x_blkX (x_then (hK27 _ _ ?_)))))
    clear hK30 K30 hK27 K27
    refine forget [] trivial (fun e => ?_)
    refine c_seq (fun K34 hK34 => ?_)
    refine c_reg ?_ -- region 45 exec.go:199
    refine wl (ro_assign rfl) ?_
    refine wl_nil (x_then (hK34 _ _ ?_))
    clear hK34 K34
    refine c_ret (x_blkR (x_thenR ?_))
    refine bp_ret Tryz.results241 rfl ?_
    exact ⟨rfl, hF.thenDrew⟩
end
end Go.Proofs.Qxb6500568aGreatDoor
