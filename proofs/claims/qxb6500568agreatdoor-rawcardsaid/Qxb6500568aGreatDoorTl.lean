import Derived.Test.Qxb6500568aGreatDoorTk
import Derived.Test.Qxb6500568aGreatDoorRk
import Derived.Test.Qxb6500568aGreatDoorQm
/- The machine at rest, as its check reads it; checkVals. -/
namespace Go.Proofs.Qxb6500568aGreatDoor
open Ieee
set_option linter.unusedVariables false
set_option linter.unusedSimpArgs false
set_option linter.unusedSectionVars false

theorem OwT.le {w : World} {ow : Nat → Nat} {tag k n : Nat} {v : Value} {e : TypeId} {xs : List Value} (h : OwT w ow tag v e k n xs) : n ≤ 9223372036854775807 := by
  rcases h.o.2 with ⟨_, h⟩ | ⟨g, cap, l, _, _, h1, h2, _⟩ <;> omega
/-- where the machine's lists lie. -/
structure AD where
  a : Nat → Option Addr
  c : Nat → Nat
  ua : Nat → Nat → Option Addr
  uc : Nat → Nat → Nat
/-- its lists that do not hang on the threads. -/
structure PX where
  rows : List (FS × Nat × Nat × Nat)
  D : List (Nat × Nat)
  K : List PV
  Cd : List (Nat × Nat)
  cl : List (Nat × Nat × Nat)
  ux : List Nat
def mkL (E : VE) (V : VS) (s : AS) (d : AD) (x : PX) : List Value := [E.np, E.tp, .slice (d.a 2) x.rows.length (d.c 2), .slice (d.a 3) x.D.length (d.c 3), .slice (d.a 4) x.K.length (d.c 4), .slice (d.a 5) x.Cd.length (d.c 5), .slice (d.a 6) x.cl.length (d.c 6), .slice (d.a 7) x.ux.length (d.c 7), .slice (d.a 8) V.cells.length (d.c 8), .slice (some ⟨E.tb, 0, none⟩) V.ths.length 5, i64c s.fuel, .slice (d.a 11) s.out.length (d.c 11), i64c 0]
def mkT (d : AD) (j : Nat) (x : VTh) : List Value := [i64c x.st, i64c x.fn, .slice (d.ua j 2) x.stack.length (d.uc j 2), .slice (d.ua j 3) x.frs.length (d.uc j 3), .slice (d.ua j 4) x.opn.length (d.uc j 4)]
structure MK (E : VE) (nb xb : Nat) (w : World) (ow : Nat → Nat) (F : Fns) (V : VS) (s : AS) (κ : List Nat) (d : AD) (x : PX) : Prop where
  m : Blk w.heap E.mb (mkL E V s d x) 89
  t : ∃ l, Blk w.heap E.tb l 269 ∧ ∀ (j : Nat) (y : VTh), V.ths[j]? = some y → (l.drop (0 + j * 5)).take 5 = mkT d j y
  o2 : OwT w ow 402 (.slice (d.a 2) x.rows.length (d.c 2)) 258 8 x.rows.length (rws vpr x.rows)
  o4 : OwT w ow 404 (.slice (d.a 4) x.K.length (d.c 4)) 119 3 x.K.length (rws pvc x.K)
  o6 : OwT w ow 406 (.slice (d.a 6) x.cl.length (d.c 6)) 209 3 x.cl.length (rws vcc x.cl)
  o7 : OwT w ow 407 (.slice (d.a 7) x.ux.length (d.c 7)) 3 1 x.ux.length (x.ux.map i64c)
  o8 : OwT w ow 408 (.slice (d.a 8) V.cells.length (d.c 8)) 413 5 V.cells.length (rws cec V.cells)
  u2 : ∀ (j : Nat) (y : VTh), V.ths[j]? = some y → OwT w ow (440 + j) (.slice (d.ua j 2) y.stack.length (d.uc j 2)) 119 3 y.stack.length (rws pvc y.stack)
  u3 : ∀ (j : Nat) (y : VTh), V.ths[j]? = some y → OwT w ow (450 + j) (.slice (d.ua j 3) y.frs.length (d.uc j 3)) 331 5 y.frs.length (rws frc y.frs.reverse)
  u4 : ∀ (j : Nat) (y : VTh), V.ths[j]? = some y → OwT w ow (460 + j) (.slice (d.ua j 4) y.opn.length (d.uc j 4)) 3 1 y.opn.length (y.opn.reverse.map i64c)
  tb : RTab w ow nb xb s.tabs
  pt : PTi F x.rows x.D x.K x.Cd
  cr : ClR x.cl x.ux V.clos 0
  ec : V.cells.length ≤ (fCl V.clos).length
  z : RZ (Psf F) V s κ
  fin : FinS F s
  nt : V.ths.length ≤ 5
  sb : ∀ (j : Nat) (y : VTh), V.ths[j]? = some y → y.stack.length ≤ 100000
  pb : x.D.length ≤ 100000 ∧ x.K.length ≤ 100000 ∧ x.Cd.length ≤ 100000
section
variable {E : VE} {nb xb : Nat} {w w' : World} {ow : Nat → Nat} {F : Fns} {V : VS} {s : AS} {κ : List Nat} {d : AD} {x : PX} {L : VL}
theorem MK.farN (h : MK E nb xb w ow F V s κ d x) (f : Fram none' w w') : MK E nb xb w' ow F V s κ d x := by
  obtain ⟨l, t1, t2⟩ := h.t
  exact ⟨f.blkN h.m, ⟨l, f.blkN t1, t2⟩, h.o2.far f (fun _ _ _ q => q) (Xt.refl _ _), h.o4.far f (fun _ _ _ q => q) (Xt.refl _ _), h.o6.far f (fun _ _ _ q => q) (Xt.refl _ _), h.o7.far f (fun _ _ _ q => q) (Xt.refl _ _), h.o8.far f (fun _ _ _ q => q) (Xt.refl _ _), fun j y hy => (h.u2 j y hy).far f (fun _ _ _ q => q) (Xt.refl _ _), fun j y hy => (h.u3 j y hy).far f (fun _ _ _ q => q) (Xt.refl _ _), fun j y hy => (h.u4 j y hy).far f (fun _ _ _ q => q) (Xt.refl _ _), h.tb.far f (fun _ _ _ q => q) (Xt.refl _ _), h.pt, h.cr, h.ec, h.z, h.fin, h.nt, h.sb, h.pb⟩
theorem VSL.mkk (op : VMV E w ow L) (tb : RTab w ow nb xb s.tabs) (vl : VSL F L V s.fuel s.out 0) (z : RZ (Psf F) V s κ) (fin : FinS F s) : ∃ d x, MK E nb xb w ow F V s κ d x := by
  obtain ⟨Vv, U, op⟩ := op
  obtain ⟨rows, D, K, Cd, a2, a3, a4, a5, -, -, hpt⟩ := vl.p
  obtain ⟨cl, ux, a6, a7, hcr, -⟩ := vl.c
  have hA : ∀ i, vmI i → ∃ a c, Vv i = .slice a (L.A i).1 c := fun i hi => by
    obtain ⟨a, c, q⟩ := (op.a i hi).form
    exact ⟨a, c, q⟩
  have hU : ∀ j, j < 5 → ∀ i, thI i → ∃ a c, U j i = .slice a (L.T j i).1 c := fun j hj i hi => by
    obtain ⟨a, c, q⟩ := (op.u j hj i hi).form
    exact ⟨a, c, q⟩
  obtain ⟨d, hd1, hd2⟩ : ∃ d : AD, (∀ i, vmI i → Vv i = .slice (d.a i) (L.A i).1 (d.c i)) ∧ ∀ j, j < 5 → ∀ i, thI i → U j i = .slice (d.ua j i) (L.T j i).1 (d.uc j i) := by
    let fa : Value → Option Addr := fun v => match v with | .slice a _ _ => a | _ => none
    let fc : Value → Nat := fun v => match v with | .slice _ _ c => c | _ => 0
    refine ⟨⟨fun i => fa (Vv i), fun i => fc (Vv i), fun j i => fa (U j i), fun j i => fc (U j i)⟩, fun i hi => ?_, fun j hj i hi => ?_⟩
    · obtain ⟨a, c, q⟩ := hA i hi
      show Vv i = .slice (fa (Vv i)) _ (fc (Vv i))
      rw [q]
    · obtain ⟨a, c, q⟩ := hU j hj i hi
      show U j i = .slice (fa (U j i)) _ (fc (U j i))
      rw [q]
  have v2 := hd1 2 (.inl (by decide))
  have v3 := hd1 3 (.inl (by decide))
  have v4 := hd1 4 (.inl (by decide))
  have v5 := hd1 5 (.inl (by decide))
  have v6 := hd1 6 (.inl (by decide))
  have v7 := hd1 7 (.inl (by decide))
  have v8 := hd1 8 (.inl (by decide))
  have v11 := hd1 11 (.inr rfl)
  have q2 := op.a 2 (.inl (by decide))
  have q4 := op.a 4 (.inl (by decide))
  have q6 := op.a 6 (.inl (by decide))
  have q7 := op.a 7 (.inl (by decide))
  have q8 := op.a 8 (.inl (by decide))
  rw [v2, a2] at q2
  rw [v4, a4] at q4
  rw [v6, a6] at q6
  rw [v7, a7] at q7
  rw [v8, vl.e] at q8
  rw [a2] at v2
  rw [a3] at v3
  rw [a4] at v4
  rw [a5] at v5
  rw [a6] at v6
  rw [a7] at v7
  rw [vl.e] at v8
  rw [vl.o] at v11
  have hnt : V.ths.length ≤ 5 := by have := op.nt; have := vl.n; omega
  have hj5 : ∀ {j y}, V.ths[j]? = some y → j < 5 := fun {j y} hy => by have := (List.getElem?_eq_some_iff.1 hy).1; omega
  refine ⟨d, ⟨rows, D, K, Cd, cl, ux⟩, ?_, ⟨_, op.t, fun j y hy => ?_⟩, q2, q4, q6, q7, q8, fun j y hy => ?_, fun j y hy => ?_, fun j y hy => ?_, tb, hpt, hcr, vl.ec, z, fin, hnt, vl.sb, ⟨by have := vl.pb 3 (by decide) (by decide); rw [a3] at this; exact this, by have := vl.pb 4 (by decide) (by decide); rw [a4] at this; exact this, by have := vl.pb 5 (by decide) (by decide); rw [a5] at this; exact this⟩⟩
  · have := op.m
    unfold mbc at this
    rw [v2, v3, v4, v5, v6, v7, v8, v11, vl.n, vl.f, vl.z] at this
    exact this
  · obtain ⟨t2, t3, t4, t5⟩ := vl.t j y hy
    have e := rws_at (thc_len L U) (L := List.range 5) (i := j) (x := j) (by rw [List.getElem?_range (hj5 hy)])
    rw [Nat.zero_add, e]
    unfold thc mkT
    rw [t5, hd2 j (hj5 hy) 2 ⟨by decide, by decide⟩, hd2 j (hj5 hy) 3 ⟨by decide, by decide⟩, hd2 j (hj5 hy) 4 ⟨by decide, by decide⟩, t2, t3, t4]
  · have q := op.u j (hj5 hy) 2 ⟨by decide, by decide⟩
    rw [hd2 j (hj5 hy) 2 ⟨by decide, by decide⟩, (vl.t j y hy).1] at q
    exact q
  · have q := op.u j (hj5 hy) 3 ⟨by decide, by decide⟩
    rw [hd2 j (hj5 hy) 3 ⟨by decide, by decide⟩, (vl.t j y hy).2.1] at q
    exact q
  · have q := op.u j (hj5 hy) 4 ⟨by decide, by decide⟩
    rw [hd2 j (hj5 hy) 4 ⟨by decide, by decide⟩, (vl.t j y hy).2.2.1] at q
    exact q
/-- thread j's row. -/
theorem MK.row (h : MK E nb xb w ow F V s κ d x) {j : Nat} {y : VTh} (hy : V.ths[j]? = some y) : ∃ l, Blk w.heap E.tb l 269 ∧ ∀ o v, (mkT d j y)[o]? = some v → l[0 + j * 5 + o]? = some v := by
  obtain ⟨l, t1, t2⟩ := h.t
  exact ⟨l, t1, fun o v hv => row_cell3 (t2 j y hy) hv⟩
theorem MK.th (h : MK E nb xb w ow F V s κ d x) {j : Nat} {y : VTh} (hy : V.ths[j]? = some y) : ∃ t, s.ths[j]? = some t ∧ TG y t ∧ BT (Psf F) s.clos j t ∧ TZ (Psf F) s.clos t ∧ DF (VV s.clos.length s.ths.length s.tabs.length) y.stack y.frs t.frs ∧ t.st ≠ 4 := by
  have hl := (List.getElem?_eq_some_iff.1 hy).1
  obtain ⟨t, ht⟩ : ∃ t, s.ths[j]? = some t := ⟨_, List.getElem?_eq_getElem (by rw [← h.z.r.tlen]; exact hl)⟩
  refine ⟨t, ht, h.z.r.th j y t hy ht, h.fin.bi.t j t ht, h.z.z t (List.mem_of_getElem? ht), h.z.d.f j y t hy ht, ?_⟩
  have := h.fin.no j
  unfold thA at this
  rw [List.getD_eq_getElem?_getD, ht] at this
  exact this
theorem MK.stk (h : MK E nb xb w ow F V s κ d x) {j : Nat} {y : VTh} (hy : V.ths[j]? = some y) {i : Nat} {v : PV} (hv : y.stack[i]? = some v) : VV s.clos.length s.ths.length s.tabs.length v := by
  obtain ⟨t, ht, ⟨-, -, hG⟩, -, -, hD, -⟩ := h.th hy
  refine stk_all hG hD (fun i n u hs hu => ?_) (fun g hg u hu => h.fin.av.ops t (List.mem_of_getElem? ht) g hg u hu) i v (List.getElem?_eq_some_iff.1 hv).1 hv
  have hsa : SlotAt V.ths s.ths j i n := ⟨y, t, hy, ht, hs⟩
  have := h.z.r.sv j i n y hsa hy
  rw [hu] at this
  cases this
  have hl := h.z.r.sl j i n hsa
  refine h.fin.av.var _ ?_
  unfold AS.var
  rw [List.getD_eq_getElem?_getD, List.getElem?_eq_getElem hl]
  exact List.getElem_mem hl
theorem MK.cell (h : MK E nb xb w ow F V s κ d x) {i : Nat} {c : VCell} (hc : V.cells[i]? = some c) : VV s.clos.length s.ths.length s.tabs.length c.v := by
  have h1 := h.z.r.ce i c hc
  have h2 := h.z.d.c c (List.mem_of_getElem? hc)
  cases ht : c.th with
  | some t => rw [h2.2 (by rw [ht]; simp)]; exact VV.nil _ _ _
  | none =>
    rw [ht] at h1
    rw [h1.1]
    have hl : κ.getD i 0 < s.vars.length := h.z.r.klt _ (by
      have : i < κ.length := by rw [h.z.r.klen]; exact (List.getElem?_eq_some_iff.1 hc).1
      rw [List.getD_eq_getElem?_getD, List.getElem?_eq_getElem this]
      exact List.getElem_mem this)
    refine h.fin.av.var _ ?_
    unfold AS.var
    rw [List.getD_eq_getElem?_getD, List.getElem?_eq_getElem hl]
    exact List.getElem_mem hl
theorem MK.con (h : MK E nb xb w ow F V s κ d x) {v : PV} (hv : v ∈ x.K) : KOK v := by
  have e := h.pt.2.2.1
  rw [e] at hv
  unfold fKs at hv
  obtain ⟨l, hl, hv⟩ := List.mem_flatten.1 hv
  obtain ⟨f, hf, rfl⟩ := List.mem_map.1 hl
  obtain ⟨j, hj⟩ := List.mem_iff_getElem?.1 hf
  have := h.fin.fok j
  unfold fsAt at this
  rw [List.getD_eq_getElem?_getD, hj] at this
  exact this.2.2.2.1 v hv
end
section
variable {E : VE} {nb xb : Nat} {w : World} {ow : Nat → Nat} {F : Fns} {V : VS} {s : AS} {κ : List Nat} {d : AD} {x : PX}
set_option maxHeartbeats 4000000 in
theorem valid149 (h : MK E nb xb w ow F V s κ d x) (htp : E.tp = ptr xb) {v : PV} (hv : VV s.clos.length s.ths.length s.tabs.length v) : Ret Tryz.prog 149 [ptr E.mb, pv v] w (fun r w' => r = .bool true ∧ Fram none' w w') := by
  have hF : Fram none' w w := Fram.refl _ _
  have hcl := h.z.r.clen
  have htl := h.z.r.tlen
  have hcr := h.cr.1
  have hc24 := h.fin.av.nc
  have ht5 := h.nt
  have hM := h.m
  unfold mkL at hM
  have htb := h.tb
  have hwN := hv.w
  have h12 := h.fin.av.nh
  rw [htp] at hM
  refine ret_of Tryz.func149 rfl Tryz.ntmps149 rfl ?_
  refine c_seq (fun K1 hK1 => ?_)
  refine c_reg ?_ -- region 0 exec.go:32
  refine wl_box (cs := (pvc v)) rfl rfl (fun b3 w1 hbb3 h3 F1 => ?_)
  have hbsb3 := Nat.le_trans hF.size hbb3
  have hneE.mbb3 : E.mb < b3 := Nat.lt_of_lt_of_le hM.lt hbb3
  replace hF := hF.thenDrew.thenN F1
  replace hM := F1.blkN hM
  refine wl (ro_assign rfl) ?_
  refine wl_nil (x_then (hK1 _ _ ?_))
  clear hK1 K1
  refine c_seq (fun K2 hK2 => ?_)
  refine c_seq (fun K3 hK3 => ?_)
  refine c_reg ?_ -- region 1 exec.go:33
  refine wl (ro_loadAggB rfl ag_119 (by assumption) rfl rfl) ?_
  refine wl_call rfl en_51 (WF51 hv.wf hv.w) ?_
  rintro _ w2 ⟨rfl, F2⟩
  replace hF := hF.thenDrew.thenN F2
  replace hM := F2.blkN hM
  replace h3 := F2.blkN h3
  refine wl (ro_not rfl) ?_
  refine wl_nil (x_then (hK3 _ _ ?_))
  clear hK3 K3
  refine wc_condF rfl ?_
  refine c_skip (x_then (hK2 _ _ ?_))
  clear hK2 K2
  refine c_seq (fun K4 hK4 => ?_)
  refine c_seq (fun K5 hK5 => ?_)
  refine c_reg ?_ -- region 3 exec.go:36
  refine wl (ro_fieldAddr (k := 0) rfl fo_119_0) ?_
  refine wl (ro_loadB rfl sc_3 (h3) rfl) ?_
  refine wl_nil (x_then (hK5 _ _ ?_))
  clear hK5 K5
  refine c_block ?_
  refine forget [(0, _), (3, _), (11, _)] ⟨rfl, rfl, rfl, trivial⟩ (fun e => ?_)
  refine c_seq (fun K6 hK6 => ?_)
  refine c_reg ?_ -- region 4 exec.go:37
  refine wl (ro_cmp rfl rfl rfl) ?_
  refine wl (ro_assign rfl) ?_
  refine wl_nil (x_then (hK6 _ _ ?_))
  clear hK6 K6
  refine wc_cond rfl (fun hc12 => ?_) (fun hc12 => ?_)
  · try simp only [decide_eq_true_eq, decide_eq_false_iff_not, Bool.not_eq_true', Bool.not_eq_false', Bool.not_eq_eq_eq_not, Bool.not_true, Bool.not_false, beq_iff_eq, bne_iff_ne, ne_eq, beq_eq_false_iff_ne, bne_eq_false_iff_eq, gt_iff_lt, ge_iff_le, Int.not_lt, Int.not_le] at hc12
    refine c_seq (fun K7 hK7 => ?_)
    refine c_pi [(0, false), (1, false), (2, false), (3, false), (4, false), (5, false), (6, false), (7, false), (8, true), (9, false)] (SameH _) mixed (by kernel_rfl) rfl (by kernel_rfl) (po_then (po_blk (po_then (po_bp)))) (sameH_now _ _) ?_ -- region 5 exec.go:38
    refine pi_ro rfl (fun w hS => ro_move rfl) ?_
    refine pi_ro rfl (fun w hS => ro_nilCheck rfl) ?_
    refine pi_ro rfl (fun w hS => ro_fieldAddr (k := 0) rfl fo_89_0) ?_
    refine pi_ro rfl (fun w hS => ro_loadB rfl sc_36 (Blk.of_heap hM hS) (rfl)) ?_
    refine pi_ro rfl (fun w hS => ro_fieldAddr (k := 1) rfl fo_119_1) ?_
    refine pi_ro rfl (fun w hS => ro_loadB rfl sc_117 (Blk.of_heap h3 hS) rfl) ?_
    refine pi_ro rfl (fun w hS => ro_fieldAddr (k := 1) rfl fo_119_1) ?_
    refine pi_ro rfl (fun w hS => ro_loadB rfl sc_117 (Blk.of_heap h3 hS) rfl) ?_
    refine pi_call rfl rfl en_142 (Cmp142 (op := 2) hv.w hv.w) ?_
    rintro _ _ ⟨rfl, rfl⟩
    refine ⟨rfl, ?_⟩
    refine pi_ro rfl (fun w hS => ro_assign rfl) ?_
    refine pi_nil (x_then (hK7 _ _ ?_))
    clear hK7 K7
    refine forget [(3, _), (5, _)] ⟨rfl, rfl, trivial⟩ (fun e => ?_)
    refine c_seq (fun K8 hK8 => ?_)
    refine c_reg ?_ -- region 6 exec.go:39
    refine wl (ro_move rfl) ?_
    refine wl (ro_not rfl) ?_
    refine wl_fork rfl (fun hg25 => ?_) (fun hg25 => ?_)
    · try simp only [decide_eq_true_eq, decide_eq_false_iff_not, Bool.not_eq_true', Bool.not_eq_false', Bool.not_eq_eq_eq_not, Bool.not_true, Bool.not_false, beq_iff_eq, bne_iff_ne, ne_eq, beq_eq_false_iff_ne, bne_eq_false_iff_eq, gt_iff_lt, ge_iff_le, Int.not_lt, Int.not_le] at hg25
      refine wlg_no rfl ?_
      refine wlg_no rfl ?_
      refine wlg_no rfl ?_
      refine wl (ro_pick rfl rfl rfl) ?_
      refine wl (ro_assign rfl) ?_
      refine wl_nil (x_then (hK8 _ _ ?_))
      clear hK8 K8
      refine c_ret (x_blkR (x_thenR ?_))
      refine bp_ret Tryz.results149 rfl ?_
      exact ⟨rfl, hF.thenDrew⟩
    · try simp only [decide_eq_true_eq, decide_eq_false_iff_not, Bool.not_eq_true', Bool.not_eq_false', Bool.not_eq_eq_eq_not, Bool.not_true, Bool.not_false, beq_iff_eq, bne_iff_ne, ne_eq, beq_eq_false_iff_ne, bne_eq_false_iff_eq, gt_iff_lt, ge_iff_le, Int.not_lt, Int.not_le] at hg25
      refine wlg_yes rfl (ro_fieldAddr (k := 1) rfl fo_119_1) ?_
      refine wlg_yes rfl (ro_loadB rfl sc_117 (h3) rfl) ?_
      refine wlg_yes rfl (ro_cmpU rfl rfl rfl) ?_
      refine wl (ro_pick rfl rfl rfl) ?_
      refine wl (ro_assign rfl) ?_
      refine wl_nil (x_then (hK8 _ _ ?_))
      clear hK8 K8
      refine c_ret (x_blkR (x_thenR ?_))
      refine bp_ret Tryz.results149 rfl ?_
      refine ⟨?_, hF.thenDrew⟩
      have hn := hv.nan (by omega) (by rw [← fCmp_self]; simpa using hg25)
      rw [hn]
      rfl
  · try simp only [decide_eq_true_eq, decide_eq_false_iff_not, Bool.not_eq_true', Bool.not_eq_false', Bool.not_eq_eq_eq_not, Bool.not_true, Bool.not_false, beq_iff_eq, bne_iff_ne, ne_eq, beq_eq_false_iff_ne, bne_eq_false_iff_eq, gt_iff_lt, ge_iff_le, Int.not_lt, Int.not_le] at hc12
    refine c_seq (fun K9 hK9 => ?_)
    refine c_reg ?_ -- region 7 exec.go:40
    refine wl (ro_cmp rfl rfl rfl) ?_
    refine wl (ro_assign rfl) ?_
    refine wl_nil (x_then (hK9 _ _ ?_))
    clear hK9 K9
    refine wc_cond rfl (fun hc30 => ?_) (fun hc30 => ?_)
    · try simp only [decide_eq_true_eq, decide_eq_false_iff_not, Bool.not_eq_true', Bool.not_eq_false', Bool.not_eq_eq_eq_not, Bool.not_true, Bool.not_false, beq_iff_eq, bne_iff_ne, ne_eq, beq_eq_false_iff_ne, bne_eq_false_iff_eq, gt_iff_lt, ge_iff_le, Int.not_lt, Int.not_le] at hc30
      refine c_seq (fun K10 hK10 => ?_)
      refine c_reg ?_ -- region 8 exec.go:41
      refine wl (ro_move rfl) ?_
      refine wl (ro_nilCheck rfl) ?_
      refine wl (ro_fieldAddr (k := 1) rfl fo_89_1) ?_
      refine wl (ro_loadB rfl sc_38 (hM) (rfl)) ?_
      refine wl_call rfl en_202 (Count202 (htb.far hF (fun _ _ _ q ↦ q) (Xt.refl _ _))) ?_
      rintro _ u0 ⟨rfl, hw0⟩
      rw [hw0]
      clear hw0 u0
      refine wl (ro_assign rfl) ?_
      refine wl_nil (x_then (hK10 _ _ ?_))
      clear hK10 K10
      refine forget [(3, _), (6, _)] ⟨rfl, rfl, trivial⟩ (fun e => ?_)
      refine c_seq (fun K11 hK11 => ?_)
      refine c_reg ?_ -- region 9 exec.go:42
      refine wl (ro_fieldAddr (k := 1) rfl fo_119_1) ?_
      refine wl (ro_loadB rfl sc_117 (h3) rfl) ?_
      refine wl (ro_move rfl) ?_
      refine wl (ro_conv (a := (s.tabs.length : Int)) rfl sc_3 in_117 (Go.IntWalk.u64_in _ (by omega))) ?_
      refine wl (ro_cmpU rfl rfl rfl) ?_
      refine wl (ro_assign rfl) ?_
      refine wl_nil (x_then (hK11 _ _ ?_))
      clear hK11 K11
      refine c_ret (x_blkR (x_thenR ?_))
      refine bp_ret Tryz.results149 rfl ?_
      refine ⟨congrArg Value.bool ?_, hF⟩
      have := hv.tb (by omega)
      simp
      omega
    · try simp only [decide_eq_true_eq, decide_eq_false_iff_not, Bool.not_eq_true', Bool.not_eq_false', Bool.not_eq_eq_eq_not, Bool.not_true, Bool.not_false, beq_iff_eq, bne_iff_ne, ne_eq, beq_eq_false_iff_ne, bne_eq_false_iff_eq, gt_iff_lt, ge_iff_le, Int.not_lt, Int.not_le] at hc30
      refine c_seq (fun K12 hK12 => ?_)
      refine c_reg ?_ -- region 10 exec.go:43
      refine wl (ro_cmp rfl rfl rfl) ?_
      refine wl (ro_assign rfl) ?_
      refine wl_nil (x_then (hK12 _ _ ?_))
      clear hK12 K12
      refine wc_cond rfl (fun hc42 => ?_) (fun hc42 => ?_)
      · try simp only [decide_eq_true_eq, decide_eq_false_iff_not, Bool.not_eq_true', Bool.not_eq_false', Bool.not_eq_eq_eq_not, Bool.not_true, Bool.not_false, beq_iff_eq, bne_iff_ne, ne_eq, beq_eq_false_iff_ne, bne_eq_false_iff_eq, gt_iff_lt, ge_iff_le, Int.not_lt, Int.not_le] at hc42
        refine c_seq (fun K13 hK13 => ?_)
        refine c_pi [(0, false), (1, false), (2, false), (3, false), (4, false), (5, false), (6, false), (7, false), (8, false), (9, false)] (SameH _) mixed (by kernel_rfl) rfl (by kernel_rfl) (po_then (po_blk (po_then (po_bp)))) (sameH_now _ _) ?_ -- region 11 exec.go:44
        refine pi_ro rfl (fun w hS => ro_fieldAddr (k := 1) rfl fo_119_1) ?_
        refine pi_ro rfl (fun w hS => ro_loadB rfl sc_117 (Blk.of_heap h3 hS) rfl) ?_
        refine pi_ro rfl (fun w hS => ro_move rfl) ?_
        refine pi_ro rfl (fun w hS => ro_nilCheck rfl) ?_
        refine pi_ro rfl (fun w hS => ro_fieldAddr (k := 6) rfl fo_89_6) ?_
        refine pi_ro rfl (fun w hS => ro_loadB rfl sc_85 (Blk.of_heap hM hS) (rfl)) ?_
        refine pi_ro rfl (fun w hS => ro_lenL rfl se_85) ?_
        refine pi_ro rfl (fun w hS => ro_conv (a := (x.cl.length : Int)) rfl sc_3 in_117 (Go.IntWalk.u64_in _ (by omega))) ?_
        refine pi_ro rfl (fun w hS => ro_cmpU rfl rfl rfl) ?_
        refine pi_ro rfl (fun w hS => ro_assign rfl) ?_
        refine pi_nil (x_then (hK13 _ _ ?_))
        clear hK13 K13
        refine c_ret (x_blkR (x_thenR ?_))
        refine bp_ret Tryz.results149 rfl ?_
        refine ⟨congrArg Value.bool ?_, hF.thenDrew⟩
        have := hv.f (by omega)
        simp
        omega
      · try simp only [decide_eq_true_eq, decide_eq_false_iff_not, Bool.not_eq_true', Bool.not_eq_false', Bool.not_eq_eq_eq_not, Bool.not_true, Bool.not_false, beq_iff_eq, bne_iff_ne, ne_eq, beq_eq_false_iff_ne, bne_eq_false_iff_eq, gt_iff_lt, ge_iff_le, Int.not_lt, Int.not_le] at hc42
        refine c_seq (fun K14 hK14 => ?_)
        refine c_reg ?_ -- region 12 exec.go:45
        refine wl (ro_cmp rfl rfl rfl) ?_
        refine wl (ro_assign rfl) ?_
        refine wl_nil (x_then (hK14 _ _ ?_))
        clear hK14 K14
        refine wc_cond rfl (fun hc53 => ?_) (fun hc53 => ?_)
        · try simp only [decide_eq_true_eq, decide_eq_false_iff_not, Bool.not_eq_true', Bool.not_eq_false', Bool.not_eq_eq_eq_not, Bool.not_true, Bool.not_false, beq_iff_eq, bne_iff_ne, ne_eq, beq_eq_false_iff_ne, bne_eq_false_iff_eq, gt_iff_lt, ge_iff_le, Int.not_lt, Int.not_le] at hc53
          refine c_seq (fun K15 hK15 => ?_)
          refine c_pi [(0, false), (1, false), (2, false), (3, false), (4, false), (5, false), (6, false), (7, false), (8, false), (9, false)] (SameH _) mixed (by kernel_rfl) rfl (by kernel_rfl) (po_then (po_blk (po_then (po_bp)))) (sameH_now _ _) ?_ -- region 13 exec.go:46
          refine pi_ro rfl (fun w hS => ro_fieldAddr (k := 1) rfl fo_119_1) ?_
          refine pi_ro rfl (fun w hS => ro_loadB rfl sc_117 (Blk.of_heap h3 hS) rfl) ?_
          refine pi_ro rfl (fun w hS => ro_move rfl) ?_
          refine pi_ro rfl (fun w hS => ro_nilCheck rfl) ?_
          refine pi_ro rfl (fun w hS => ro_fieldAddr (k := 9) rfl fo_89_9) ?_
          refine pi_ro rfl (fun w hS => ro_loadB rfl sc_80 (Blk.of_heap hM hS) (rfl)) ?_
          refine pi_ro rfl (fun w hS => ro_lenL rfl se_80) ?_
          refine pi_ro rfl (fun w hS => ro_conv (a := (V.ths.length : Int)) rfl sc_3 in_117 (Go.IntWalk.u64_in _ (by omega))) ?_
          refine pi_ro rfl (fun w hS => ro_cmpU rfl rfl rfl) ?_
          refine pi_ro rfl (fun w hS => ro_assign rfl) ?_
          refine pi_nil (x_then (hK15 _ _ ?_))
          clear hK15 K15
          refine c_ret (x_blkR (x_thenR ?_))
          refine bp_ret Tryz.results149 rfl ?_
          refine ⟨congrArg Value.bool ?_, hF.thenDrew⟩
          have := hv.co (by omega)
          simp
          omega
        · try simp only [decide_eq_true_eq, decide_eq_false_iff_not, Bool.not_eq_true', Bool.not_eq_false', Bool.not_eq_eq_eq_not, Bool.not_true, Bool.not_false, beq_iff_eq, bne_iff_ne, ne_eq, beq_eq_false_iff_ne, bne_eq_false_iff_eq, gt_iff_lt, ge_iff_le, Int.not_lt, Int.not_le] at hc53
          refine c_skip (x_blk (x_then (hK4 _ _ ?_)))
          clear hK4 K4
          refine forget [] trivial (fun e => ?_)
          refine c_seq (fun K16 hK16 => ?_)
          refine c_reg ?_ -- region 14 exec.go:48
          refine wl (ro_assign rfl) ?_
          refine wl_nil (x_then (hK16 _ _ ?_))
          clear hK16 K16
          refine c_ret ?_
          refine bp_ret Tryz.results149 rfl ?_
          exact ⟨rfl, hF⟩
set_option maxHeartbeats 16000000 in
theorem vals251 (h : MK E nb xb w ow F V s κ d x) (htp : E.tp = ptr xb) : Ret Tryz.prog 251 [ptr E.mb] w (fun r w' => r = .bool true ∧ Fram none' w w') := by
  have hF : Fram none' w w := Fram.refl _ _
  have hM := h.m
  unfold mkL at hM
  have ht5 := h.nt
  have o4 := h.o4
  have o8 := h.o8
  generalize d.a 4 = da4 at hM o4
  generalize d.a 8 = da8 at hM o8
  have hM0 := hM
  have hkc := o4.le
  have hcc := o8.le
  refine ret_of Tryz.func251 rfl Tryz.ntmps251 rfl ?_
  refine c_seq (fun K1 hK1 => ?_)
  refine c_reg ?_ -- region 0 check.go:238
  refine wl (ro_assign rfl) ?_
  refine wl_nil (x_then (hK1 _ _ ?_))
  clear hK1 K1
  refine c_seq (fun K2 hK2 => ?_)
  refine c_seq (fun K3 hK3 => ?_)
  refine c_reg ?_ -- region 1 check.go:239
  refine wl (ro_move rfl) ?_
  refine wl (ro_nilCheck rfl) ?_
  refine wl (ro_fieldAddr (k := 4) rfl fo_89_4) ?_
  refine wl (ro_loadB rfl sc_83 (hM) (rfl)) ?_
  refine wl (ro_lenL rfl se_83) ?_
  refine wl (ro_move rfl) ?_
  refine wl_nil (x_then (hK3 _ _ ?_))
  clear hK3 K3
  refine c_block ?_
  -- loop@r2: live slots [0, 16, 17, 18]
  refine c_loopG (fun n a' w' => ∃ i, n = x.K.length - i ∧ i ≤ x.K.length ∧ Fram none' w w' ∧ ∃ e, a' = Fr 80 (upds e [(0, ptr E.mb), (16, .slice da4 x.K.length (d.c 4)), (17, i64c x.K.length), (18, i64c i)]) []) x.K.length ⟨0, rfl, Nat.zero_le _, hF, kp _ ⟨rfl, rfl, rfl, rfl, trivial⟩⟩ ?_
  clear hF hM
  rintro n a' u1 ⟨i, rfl, hi, hF, e, rfl⟩
  have hM := hF.blkN hM0
  refine c_seq (fun K4 hK4 => ?_)
  refine c_reg ?_ -- region 2 check.go:239
  refine wl (ro_cmp rfl rfl rfl) ?_
  refine wl_nil (x_then (hK4 _ _ ?_))
  clear hK4 K4
  refine forget [(0, _), (16, _), (17, _), (18, _), (19, _)] ⟨rfl, rfl, rfl, rfl, rfl, trivial⟩ (fun e => ?_)
  refine c_seq (fun K5 hK5 => ?_)
  refine wc_cond rfl (fun hc19 => ?_) (fun hc19 => ?_)
  · try simp only [decide_eq_true_eq, decide_eq_false_iff_not, Bool.not_eq_true', Bool.not_eq_false', Bool.not_eq_eq_eq_not, Bool.not_true, Bool.not_false, beq_iff_eq, bne_iff_ne, ne_eq, beq_eq_false_iff_ne, bne_eq_false_iff_eq, gt_iff_lt, ge_iff_le, Int.not_lt, Int.not_le] at hc19
    have hlt : i < x.K.length := by omega
    obtain ⟨v, hv⟩ : ∃ v, x.K[i]? = some v := ⟨_, List.getElem?_eq_getElem hlt⟩
    obtain ⟨kg, kcap, kl, ev, hKb, k1, k2, k3, k4, k5⟩ := OwT.at pvc_len o4 hv
    obtain rfl : da4 = some ⟨kg, 0, none⟩ := by injection ev
    replace hKb := hF.blkN hKb
    have hkv := h.con (List.mem_of_getElem? hv)
    have hvv := KOK.vv hkv s.clos.length s.ths.length s.tabs.length
    have hT : v.T = 2 ∨ v.T = 3 := by
      rcases hkv with ⟨q, rfl, -⟩ | ⟨q, rfl, -⟩
      · exact .inl rfl
      · exact .inr rfl
    have hk5 := k5 i v hv
    refine c_skip (x_then (hK5 _ _ ?_))
    clear hK5 K5
    refine forget [(0, _), (16, _), (17, _), (18, _)] ⟨rfl, rfl, rfl, rfl, trivial⟩ (fun e => ?_)
    refine c_seq (fun K6 hK6 => ?_)
    refine c_block ?_
    refine c_seq (fun K7 hK7 => ?_)
    refine c_reg ?_ -- region 3 check.go:239
    refine wl (ro_indexAddr (et := 119) (k := 3) rfl rfl se_83 (rfl) (hlt)) ?_
    refine wl (ro_loadAggB rfl ag_119 (hKb) ((pvc_len v)) (hk5)) ?_
    refine wl_new (ze_119) (fun b4 w1 hbb4 h4 F1 => ?_)
    have hbsb4 := Nat.le_trans hF.size hbb4
    have hneE.mbb4 : E.mb < b4 := Nat.lt_of_lt_of_le hM.lt hbb4
    have hnekgb4 : kg < b4 := Nat.lt_of_lt_of_le hKb.lt hbb4
    replace hF := hF.thenDrew.thenN F1
    replace hM := F1.blkN hM
    replace hKb := F1.blkN hKb
    refine wl_puta rfl rfl ((pvc_one v)) sz_119 (rfl) h4 ((by simp)) (rfl) (fun w2 h4 F2 => ?_)
    replace hF := hF.thenDrew.thenO F2 (by first | exact .inr (by omega) | exact .inl rfl | exact .inl (by assumption) | assumption)
    replace hM := F2.blkO hM (by omega)
    replace hKb := F2.blkO hKb (by omega)
    refine wl_nil (x_then (hK7 _ _ ?_))
    clear hK7 K7
    refine c_seq (fun K8 hK8 => ?_)
    refine c_seq (fun K9 hK9 => ?_)
    refine c_reg ?_ -- region 4 check.go:240
    refine wl (ro_fieldAddr (k := 0) rfl fo_119_0) ?_
    refine wl (ro_loadB rfl sc_3 (h4) (rfl)) ?_
    refine wl (ro_cmp rfl rfl rfl) ?_
    refine wl_fork rfl (fun hg25 => ?_) (fun hg25 => ?_)
    · try simp only [decide_eq_true_eq, decide_eq_false_iff_not, Bool.not_eq_true', Bool.not_eq_false', Bool.not_eq_eq_eq_not, Bool.not_true, Bool.not_false, beq_iff_eq, bne_iff_ne, ne_eq, beq_eq_false_iff_ne, bne_eq_false_iff_eq, gt_iff_lt, ge_iff_le, Int.not_lt, Int.not_le] at hg25
      refine wlg_yes rfl (ro_fieldAddr (k := 0) rfl fo_119_0) ?_
      refine wlg_yes rfl (ro_loadB rfl sc_3 (h4) (rfl)) ?_
      refine wlg_yes rfl (ro_cmp rfl rfl rfl) ?_
      refine wl (ro_pick rfl rfl rfl) ?_
      refine wl_nil (x_then (hK9 _ _ ?_))
      clear hK9 K9
      refine wc_cond rfl (fun hc29 => ?_) (fun hc29 => ?_)
      · try simp only [decide_eq_true_eq, decide_eq_false_iff_not, Bool.not_eq_true', Bool.not_eq_false', Bool.not_eq_eq_eq_not, Bool.not_true, Bool.not_false, beq_iff_eq, bne_iff_ne, ne_eq, beq_eq_false_iff_ne, bne_eq_false_iff_eq, gt_iff_lt, ge_iff_le, Int.not_lt, Int.not_le] at hc29
        exfalso; omega
      · try simp only [decide_eq_true_eq, decide_eq_false_iff_not, Bool.not_eq_true', Bool.not_eq_false', Bool.not_eq_eq_eq_not, Bool.not_true, Bool.not_false, beq_iff_eq, bne_iff_ne, ne_eq, beq_eq_false_iff_ne, bne_eq_false_iff_eq, gt_iff_lt, ge_iff_le, Int.not_lt, Int.not_le] at hc29
        refine c_skip (x_then (hK8 _ _ ?_))
        clear hK8 K8
        refine forget [(0, _), (4, _), (16, _), (17, _), (18, _), (26, _), (27, _), (28, _)] ⟨rfl, rfl, rfl, rfl, rfl, rfl, rfl, rfl, trivial⟩ (fun e => ?_)
        refine c_seq (fun K10 hK10 => ?_)
        refine c_reg ?_ -- region 6 check.go:243
        refine wl (ro_move rfl) ?_
        refine wl (ro_loadAggB rfl ag_119 (h4) (rfl) (rfl)) ?_
        refine wl_call rfl en_149 (valid149 (h.farN hF) htp hvv) ?_
        rintro _ w3 ⟨rfl, F3⟩
        replace hF := hF.thenDrew.thenN F3
        replace hM := F3.blkN hM
        replace hKb := F3.blkN hKb
        replace h4 := F3.blkN h4
        refine wl (ro_assign rfl) ?_
        refine wl_nil (x_then (hK10 _ _ ?_))
        clear hK10 K10
        refine forget [(0, _), (5, _), (16, _), (17, _), (18, _), (26, _), (27, _), (28, _)] ⟨rfl, rfl, rfl, rfl, rfl, rfl, rfl, rfl, trivial⟩ (fun e => ?_)
        refine c_seq (fun K11 hK11 => ?_)
        refine c_reg ?_ -- region 7 check.go:244
        refine wl (ro_move rfl) ?_
        refine wl (ro_not rfl) ?_
        refine wl_nil (x_then (hK11 _ _ ?_))
        clear hK11 K11
        refine wc_condF rfl ?_
        refine c_skip (x_blk (x_then (hK6 _ _ ?_)))
        clear hK6 K6
        refine c_reg ?_ -- region 9 check.go:239
        refine wl (ro_adT (m := i) (k := 1) rfl rfl (by omega)) ?_
        refine wl (ro_move rfl) ?_
        refine wl_nil (x_then ?_)
        exact ⟨x.K.length - (i + 1), by omega, i + 1, rfl, by omega, hF, kp _ ⟨rfl, rfl, rfl, rfl, trivial⟩⟩
    · try simp only [decide_eq_true_eq, decide_eq_false_iff_not, Bool.not_eq_true', Bool.not_eq_false', Bool.not_eq_eq_eq_not, Bool.not_true, Bool.not_false, beq_iff_eq, bne_iff_ne, ne_eq, beq_eq_false_iff_ne, bne_eq_false_iff_eq, gt_iff_lt, ge_iff_le, Int.not_lt, Int.not_le] at hg25
      refine wlg_no rfl ?_
      refine wlg_no rfl ?_
      refine wlg_no rfl ?_
      refine wl (ro_pick rfl rfl rfl) ?_
      refine wl_nil (x_then (hK9 _ _ ?_))
      clear hK9 K9
      refine wc_condF rfl ?_
      refine c_skip (x_then (hK8 _ _ ?_))
      clear hK8 K8
      refine forget [(0, _), (4, _), (16, _), (17, _), (18, _)] ⟨rfl, rfl, rfl, rfl, rfl, trivial⟩ (fun e => ?_)
      refine c_seq (fun K12 hK12 => ?_)
      refine c_reg ?_ -- region 6 check.go:243
      refine wl (ro_move rfl) ?_
      refine wl (ro_loadAggB rfl ag_119 (h4) (rfl) (rfl)) ?_
      refine wl_call rfl en_149 (valid149 (h.farN hF) htp hvv) ?_
      rintro _ w4 ⟨rfl, F4⟩
      replace hF := hF.thenDrew.thenN F4
      replace hM := F4.blkN hM
      replace hKb := F4.blkN hKb
      replace h4 := F4.blkN h4
      refine wl (ro_assign rfl) ?_
      refine wl_nil (x_then (hK12 _ _ ?_))
      clear hK12 K12
      refine forget [(0, _), (5, _), (16, _), (17, _), (18, _)] ⟨rfl, rfl, rfl, rfl, rfl, trivial⟩ (fun e => ?_)
      refine c_seq (fun K13 hK13 => ?_)
      refine c_reg ?_ -- region 7 check.go:244
      refine wl (ro_move rfl) ?_
      refine wl (ro_not rfl) ?_
      refine wl_nil (x_then (hK13 _ _ ?_))
      clear hK13 K13
      refine wc_condF rfl ?_
      refine c_skip (x_blk (x_then (hK6 _ _ ?_)))
      clear hK6 K6
      refine c_reg ?_ -- region 9 check.go:239
      refine wl (ro_adT (m := i) (k := 1) rfl rfl (by omega)) ?_
      refine wl (ro_move rfl) ?_
      refine wl_nil (x_then ?_)
      exact ⟨x.K.length - (i + 1), by omega, i + 1, rfl, by omega, hF, kp _ ⟨rfl, rfl, rfl, rfl, trivial⟩⟩
  · try simp only [decide_eq_true_eq, decide_eq_false_iff_not, Bool.not_eq_true', Bool.not_eq_false', Bool.not_eq_eq_eq_not, Bool.not_true, Bool.not_false, beq_iff_eq, bne_iff_ne, ne_eq, beq_eq_false_iff_ne, bne_eq_false_iff_eq, gt_iff_lt, ge_iff_le, Int.not_lt, Int.not_le] at hc19
    refine c_exit (x_thenX (x_thenX (x_blkX (x_then (hK2 _ _ ?_)))))
    clear hK5 K5 hK2 K2
    refine c_seq (fun K14 hK14 => ?_)
    refine c_seq (fun K15 hK15 => ?_)
    refine c_reg ?_ -- region 10 check.go:248
    refine wl (ro_move rfl) ?_
    refine wl (ro_nilCheck rfl) ?_
    refine wl (ro_fieldAddr (k := 8) rfl fo_89_8) ?_
    refine wl (ro_loadB rfl sc_87 (hM) (rfl)) ?_
    refine wl (ro_lenL rfl se_87) ?_
    refine wl (ro_move rfl) ?_
    refine wl_nil (x_then (hK15 _ _ ?_))
    clear hK15 K15
    refine c_block ?_
    -- loop@r11: live slots [0, 39, 40, 41]
    refine c_loopG (fun n a' w' => ∃ i, n = V.cells.length - i ∧ i ≤ V.cells.length ∧ Fram none' w w' ∧ ∃ e, a' = Fr 80 (upds e [(0, ptr E.mb), (39, .slice da8 V.cells.length (d.c 8)), (40, i64c V.cells.length), (41, i64c i)]) []) V.cells.length ⟨0, rfl, Nat.zero_le _, hF, kp _ ⟨rfl, rfl, rfl, rfl, trivial⟩⟩ ?_
    clear hF hM
    rintro n a' u1 ⟨i, rfl, hi, hF, e, rfl⟩
    have hM := hF.blkN hM0
    refine c_seq (fun K16 hK16 => ?_)
    refine c_reg ?_ -- region 11 check.go:248
    refine wl (ro_cmp rfl rfl rfl) ?_
    refine wl_nil (x_then (hK16 _ _ ?_))
    clear hK16 K16
    refine forget [(0, _), (39, _), (40, _), (41, _), (42, _)] ⟨rfl, rfl, rfl, rfl, rfl, trivial⟩ (fun e => ?_)
    refine c_seq (fun K17 hK17 => ?_)
    refine wc_cond rfl (fun hc42 => ?_) (fun hc42 => ?_)
    · try simp only [decide_eq_true_eq, decide_eq_false_iff_not, Bool.not_eq_true', Bool.not_eq_false', Bool.not_eq_eq_eq_not, Bool.not_true, Bool.not_false, beq_iff_eq, bne_iff_ne, ne_eq, beq_eq_false_iff_ne, bne_eq_false_iff_eq, gt_iff_lt, ge_iff_le, Int.not_lt, Int.not_le] at hc42
      have hlt : i < V.cells.length := by omega
      obtain ⟨v, hv⟩ : ∃ v, V.cells[i]? = some v := ⟨_, List.getElem?_eq_getElem hlt⟩
      obtain ⟨kg, kcap, kl, ev, hKb, k1, k2, k3, k4, k5⟩ := OwT.at cec_len o8 hv
      obtain rfl : da8 = some ⟨kg, 0, none⟩ := by injection ev
      replace hKb := hF.blkN hKb
      have hvv := h.cell hv
      have hk5 := k5 i v hv
      refine c_skip (x_then (hK17 _ _ ?_))
      clear hK17 K17
      refine forget [(0, _), (39, _), (40, _), (41, _)] ⟨rfl, rfl, rfl, rfl, trivial⟩ (fun e => ?_)
      refine c_seq (fun K18 hK18 => ?_)
      refine c_block ?_
      refine c_seq (fun K19 hK19 => ?_)
      refine c_reg ?_ -- region 12 check.go:248
      refine wl (ro_indexAddr (et := 413) (k := 5) rfl rfl se_87 (rfl) (hlt)) ?_
      refine wl (ro_loadAggB rfl ag_413 (hKb) ((cec_len v)) (hk5)) ?_
      refine wl_new (ze_413) (fun b7 w5 hbb7 h7 F5 => ?_)
      have hbsb7 := Nat.le_trans hF.size hbb7
      have hneE.mbb7 : E.mb < b7 := Nat.lt_of_lt_of_le hM.lt hbb7
      have hnekgb7 : kg < b7 := Nat.lt_of_lt_of_le hKb.lt hbb7
      replace hF := hF.thenDrew.thenN F5
      replace hM := F5.blkN hM
      replace hKb := F5.blkN hKb
      refine wl_puta rfl rfl ((cec_one v)) sz_413 (rfl) h7 ((by simp)) (rfl) (fun w6 h7 F6 => ?_)
      replace hF := hF.thenDrew.thenO F6 (by first | exact .inr (by omega) | exact .inl rfl | exact .inl (by assumption) | assumption)
      replace hM := F6.blkO hM (by omega)
      replace hKb := F6.blkO hKb (by omega)
      refine wl_nil (x_then (hK19 _ _ ?_))
      clear hK19 K19
      refine forget [(0, _), (7, _), (39, _), (40, _), (41, _)] ⟨rfl, rfl, rfl, rfl, rfl, trivial⟩ (fun e => ?_)
      refine c_seq (fun K20 hK20 => ?_)
      refine c_reg ?_ -- region 13 check.go:249
      refine wl (ro_move rfl) ?_
      refine wl (ro_fieldAddr (k := 2) rfl fo_413_2) ?_
      refine wl (ro_loadAggB rfl ag_119 (h7) (rfl) (rfl)) ?_
      refine wl_call rfl en_149 (valid149 (h.farN hF) htp hvv) ?_
      rintro _ w7 ⟨rfl, F7⟩
      replace hF := hF.thenDrew.thenN F7
      replace hM := F7.blkN hM
      replace hKb := F7.blkN hKb
      replace h7 := F7.blkN h7
      refine wl (ro_assign rfl) ?_
      refine wl_nil (x_then (hK20 _ _ ?_))
      clear hK20 K20
      refine forget [(0, _), (8, _), (39, _), (40, _), (41, _)] ⟨rfl, rfl, rfl, rfl, rfl, trivial⟩ (fun e => ?_)
      refine c_seq (fun K21 hK21 => ?_)
      refine c_reg ?_ -- region 14 check.go:250
      refine wl (ro_move rfl) ?_
      refine wl (ro_not rfl) ?_
      refine wl_nil (x_then (hK21 _ _ ?_))
      clear hK21 K21
      refine wc_condF rfl ?_
      refine c_skip (x_blk (x_then (hK18 _ _ ?_)))
      clear hK18 K18
      refine c_reg ?_ -- region 16 check.go:248
      refine wl (ro_adT (m := i) (k := 1) rfl rfl (by omega)) ?_
      refine wl (ro_move rfl) ?_
      refine wl_nil (x_then ?_)
      exact ⟨V.cells.length - (i + 1), by omega, i + 1, rfl, by omega, hF, kp _ ⟨rfl, rfl, rfl, rfl, trivial⟩⟩
    · try simp only [decide_eq_true_eq, decide_eq_false_iff_not, Bool.not_eq_true', Bool.not_eq_false', Bool.not_eq_eq_eq_not, Bool.not_true, Bool.not_false, beq_iff_eq, bne_iff_ne, ne_eq, beq_eq_false_iff_ne, bne_eq_false_iff_eq, gt_iff_lt, ge_iff_le, Int.not_lt, Int.not_le] at hc42
      refine c_exit (x_thenX (x_thenX (x_blkX (x_then (hK14 _ _ ?_)))))
      clear hK17 K17 hK14 K14
      refine c_seq (fun K22 hK22 => ?_)
      refine c_seq (fun K23 hK23 => ?_)
      refine c_reg ?_ -- region 17 check.go:254
      refine wl (ro_move rfl) ?_
      refine wl (ro_nilCheck rfl) ?_
      refine wl (ro_fieldAddr (k := 9) rfl fo_89_9) ?_
      refine wl (ro_loadB rfl sc_80 (hM) (rfl)) ?_
      refine wl (ro_lenL rfl se_80) ?_
      refine wl (ro_move rfl) ?_
      refine wl_nil (x_then (hK23 _ _ ?_))
      clear hK23 K23
      refine c_block ?_
      -- loop@r18: live slots [0, 56, 57]
      refine c_loopG (fun n a' w' => ∃ i, n = V.ths.length - i ∧ i ≤ V.ths.length ∧ Fram none' w w' ∧ ∃ e, a' = Fr 80 (upds e [(0, ptr E.mb), (56, i64c V.ths.length), (57, i64c i)]) []) V.ths.length ⟨0, rfl, Nat.zero_le _, hF, kp _ ⟨rfl, rfl, rfl, trivial⟩⟩ ?_
      clear hF hM
      rintro n a' u1 ⟨j, rfl, hj, hF, e, rfl⟩
      have hM := hF.blkN hM0
      refine c_seq (fun K24 hK24 => ?_)
      refine c_reg ?_ -- region 18 check.go:254
      refine wl (ro_cmp rfl rfl rfl) ?_
      refine wl_nil (x_then (hK24 _ _ ?_))
      clear hK24 K24
      refine forget [(0, _), (56, _), (57, _), (58, _)] ⟨rfl, rfl, rfl, rfl, trivial⟩ (fun e => ?_)
      refine c_seq (fun K25 hK25 => ?_)
      refine wc_cond rfl (fun hc58 => ?_) (fun hc58 => ?_)
      · try simp only [decide_eq_true_eq, decide_eq_false_iff_not, Bool.not_eq_true', Bool.not_eq_false', Bool.not_eq_eq_eq_not, Bool.not_true, Bool.not_false, beq_iff_eq, bne_iff_ne, ne_eq, beq_eq_false_iff_ne, bne_eq_false_iff_eq, gt_iff_lt, ge_iff_le, Int.not_lt, Int.not_le] at hc58
        have hltj : j < V.ths.length := by omega
        obtain ⟨y, hy⟩ : ∃ y, V.ths[j]? = some y := ⟨_, List.getElem?_eq_getElem hltj⟩
        obtain ⟨lT, hT, hrow⟩ := (h.farN hF).row hy
        have hT0 := hT
        have hyb := h.sb j y hy
        have su2 := h.u2 j y hy
        have r2 := hrow 2 _ rfl
        generalize d.ua j 2 = du2 at su2 r2
        refine c_skip (x_then (hK25 _ _ ?_))
        clear hK25 K25
        refine forget [(0, _), (56, _), (57, _)] ⟨rfl, rfl, rfl, trivial⟩ (fun e => ?_)
        refine c_seq (fun K26 hK26 => ?_)
        refine c_block ?_
        refine c_seq (fun K27 hK27 => ?_)
        refine c_reg ?_ -- region 19 check.go:254
        refine wl (ro_move rfl) ?_
        refine wl (ro_assign rfl) ?_
        refine wl_nil (x_then (hK27 _ _ ?_))
        clear hK27 K27
        refine forget [(0, _), (9, _), (56, _), (57, _)] ⟨rfl, rfl, rfl, rfl, trivial⟩ (fun e => ?_)
        refine c_seq (fun K28 hK28 => ?_)
        refine c_reg ?_ -- region 20 check.go:255
        refine wl (ro_move rfl) ?_
        refine wl (ro_nilCheck rfl) ?_
        refine wl (ro_fieldAddr (k := 9) rfl fo_89_9) ?_
        refine wl (ro_loadB rfl sc_80 (hM) (rfl)) ?_
        refine wl (ro_move rfl) ?_
        refine wl (ro_indexAddr (et := 269) (k := 5) rfl rfl se_80 (rfl) (hltj)) ?_
        refine wl (ro_fieldAddr (k := 2) rfl fo_269_2) ?_
        refine wl (ro_loadB rfl sc_83 (hT) (r2)) ?_
        refine wl (ro_lenL rfl se_83) ?_
        refine wl (ro_move rfl) ?_
        refine wl_nil (x_then (hK28 _ _ ?_))
        clear hK28 K28
        refine c_block ?_
        -- loop@r21: live slots [0, 56, 57, 67, 68, 69]
        refine c_loopG (fun n a' w' => ∃ i, n = y.stack.length - i ∧ i ≤ y.stack.length ∧ Fram none' w w' ∧ ∃ e, a' = Fr 80 (upds e [(0, ptr E.mb), (56, i64c V.ths.length), (57, i64c j), (67, .slice du2 y.stack.length (d.uc j 2)), (68, i64c y.stack.length), (69, i64c i)]) []) y.stack.length ⟨0, rfl, Nat.zero_le _, hF, kp _ ⟨rfl, rfl, rfl, rfl, rfl, rfl, trivial⟩⟩ ?_
        clear hF hM hT
        rintro n2 a2 u2 ⟨i, rfl, hi, hF, e2, rfl⟩
        have hM := hF.blkN hM0
        refine c_seq (fun K29 hK29 => ?_)
        refine c_reg ?_ -- region 21 check.go:255
        refine wl (ro_cmp rfl rfl rfl) ?_
        refine wl_nil (x_then (hK29 _ _ ?_))
        clear hK29 K29
        refine forget [(0, _), (56, _), (57, _), (67, _), (68, _), (69, _), (70, _)] ⟨rfl, rfl, rfl, rfl, rfl, rfl, rfl, trivial⟩ (fun e => ?_)
        refine c_seq (fun K30 hK30 => ?_)
        refine wc_cond rfl (fun hc70 => ?_) (fun hc70 => ?_)
        · try simp only [decide_eq_true_eq, decide_eq_false_iff_not, Bool.not_eq_true', Bool.not_eq_false', Bool.not_eq_eq_eq_not, Bool.not_true, Bool.not_false, beq_iff_eq, bne_iff_ne, ne_eq, beq_eq_false_iff_ne, bne_eq_false_iff_eq, gt_iff_lt, ge_iff_le, Int.not_lt, Int.not_le] at hc70
          have hlt : i < y.stack.length := by omega
          obtain ⟨v, hv⟩ : ∃ v, y.stack[i]? = some v := ⟨_, List.getElem?_eq_getElem hlt⟩
          obtain ⟨kg, kcap, kl, ev, hKb, k1, k2, k3, k4, k5⟩ := OwT.at pvc_len su2 hv
          obtain rfl : du2 = some ⟨kg, 0, none⟩ := by injection ev
          replace hKb := hF.blkN hKb
          have hvv := h.stk hy hv
          have hk5 := k5 i v hv
          refine c_skip (x_then (hK30 _ _ ?_))
          clear hK30 K30
          refine forget [(0, _), (56, _), (57, _), (67, _), (68, _), (69, _)] ⟨rfl, rfl, rfl, rfl, rfl, rfl, trivial⟩ (fun e => ?_)
          refine c_seq (fun K31 hK31 => ?_)
          refine c_block ?_
          refine c_seq (fun K32 hK32 => ?_)
          refine c_reg ?_ -- region 22 check.go:255
          refine wl (ro_indexAddr (et := 119) (k := 3) rfl rfl se_83 (rfl) (hlt)) ?_
          refine wl (ro_loadAggB rfl ag_119 (hKb) ((pvc_len v)) (hk5)) ?_
          refine wl_new (ze_119) (fun b11 w8 hbb11 h11 F8 => ?_)
          have hbsb11 := Nat.le_trans hF.size hbb11
          have hneE.mbb11 : E.mb < b11 := Nat.lt_of_lt_of_le hM.lt hbb11
          have hnekgb11 : kg < b11 := Nat.lt_of_lt_of_le hKb.lt hbb11
          replace hF := hF.thenDrew.thenN F8
          replace hM := F8.blkN hM
          replace hKb := F8.blkN hKb
          refine wl_puta rfl rfl ((pvc_one v)) sz_119 (rfl) h11 ((by simp)) (rfl) (fun w9 h11 F9 => ?_)
          replace hF := hF.thenDrew.thenO F9 (by first | exact .inr (by omega) | exact .inl rfl | exact .inl (by assumption) | assumption)
          replace hM := F9.blkO hM (by omega)
          replace hKb := F9.blkO hKb (by omega)
          refine wl_nil (x_then (hK32 _ _ ?_))
          clear hK32 K32
          refine forget [(0, _), (11, _), (56, _), (57, _), (67, _), (68, _), (69, _)] ⟨rfl, rfl, rfl, rfl, rfl, rfl, rfl, trivial⟩ (fun e => ?_)
          refine c_seq (fun K33 hK33 => ?_)
          refine c_reg ?_ -- region 23 check.go:256
          refine wl (ro_move rfl) ?_
          refine wl (ro_loadAggB rfl ag_119 (h11) (rfl) (rfl)) ?_
          refine wl_call rfl en_149 (valid149 (h.farN hF) htp hvv) ?_
          rintro _ w10 ⟨rfl, F10⟩
          replace hF := hF.thenDrew.thenN F10
          replace hM := F10.blkN hM
          replace hKb := F10.blkN hKb
          replace h11 := F10.blkN h11
          refine wl (ro_assign rfl) ?_
          refine wl_nil (x_then (hK33 _ _ ?_))
          clear hK33 K33
          refine forget [(0, _), (12, _), (56, _), (57, _), (67, _), (68, _), (69, _)] ⟨rfl, rfl, rfl, rfl, rfl, rfl, rfl, trivial⟩ (fun e => ?_)
          refine c_seq (fun K34 hK34 => ?_)
          refine c_reg ?_ -- region 24 check.go:257
          refine wl (ro_move rfl) ?_
          refine wl (ro_not rfl) ?_
          refine wl_nil (x_then (hK34 _ _ ?_))
          clear hK34 K34
          refine wc_condF rfl ?_
          refine c_skip (x_blk (x_then (hK31 _ _ ?_)))
          clear hK31 K31
          refine c_reg ?_ -- region 26 check.go:255
          refine wl (ro_adT (m := i) (k := 1) rfl rfl (by omega)) ?_
          refine wl (ro_move rfl) ?_
          refine wl_nil (x_then ?_)
          exact ⟨y.stack.length - (i + 1), by omega, i + 1, rfl, by omega, hF, kp _ ⟨rfl, rfl, rfl, rfl, rfl, rfl, trivial⟩⟩
        · try simp only [decide_eq_true_eq, decide_eq_false_iff_not, Bool.not_eq_true', Bool.not_eq_false', Bool.not_eq_eq_eq_not, Bool.not_true, Bool.not_false, beq_iff_eq, bne_iff_ne, ne_eq, beq_eq_false_iff_ne, bne_eq_false_iff_eq, gt_iff_lt, ge_iff_le, Int.not_lt, Int.not_le] at hc70
          refine c_exit (x_thenX (x_thenX (x_blkX (x_blk (x_then (hK26 _ _ ?_))))))
          clear hK30 K30 hK26 K26
          refine c_reg ?_ -- region 27 check.go:254
          refine wl (ro_adT (m := j) (k := 1) rfl rfl (by omega)) ?_
          refine wl (ro_move rfl) ?_
          refine wl_nil (x_then ?_)
          exact ⟨V.ths.length - (j + 1), by omega, j + 1, rfl, by omega, hF, kp _ ⟨rfl, rfl, rfl, trivial⟩⟩
      · try simp only [decide_eq_true_eq, decide_eq_false_iff_not, Bool.not_eq_true', Bool.not_eq_false', Bool.not_eq_eq_eq_not, Bool.not_true, Bool.not_false, beq_iff_eq, bne_iff_ne, ne_eq, beq_eq_false_iff_ne, bne_eq_false_iff_eq, gt_iff_lt, ge_iff_le, Int.not_lt, Int.not_le] at hc58
        refine c_exit (x_thenX (x_thenX (x_blkX (x_then (hK22 _ _ ?_)))))
        clear hK25 K25 hK22 K22
        refine forget [] trivial (fun e => ?_)
        refine c_seq (fun K35 hK35 => ?_)
        refine c_reg ?_ -- region 28 check.go:262
        refine wl (ro_assign rfl) ?_
        refine wl_nil (x_then (hK35 _ _ ?_))
        clear hK35 K35
        refine c_ret ?_
        refine bp_ret Tryz.results251 rfl ?_
        exact ⟨rfl, hF⟩
end
end Go.Proofs.Qxb6500568aGreatDoor
