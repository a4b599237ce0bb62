import Derived.Test.Qxb6500568aGreatDoorTn
import Derived.Test.Qxb6500568aGreatDoorRm
/- The machine's check. -/
namespace Go.Proofs.Qxb6500568aGreatDoor
open Ieee
set_option linter.unusedVariables false
set_option linter.unusedSimpArgs false
set_option linter.unusedSectionVars false

section
variable {P : Program} {n : Nat} {e : Nat → Option Value} {w : World}
theorem ro_capL {t et k : Nat} {x : Operand} {a : Option Addr} {m c : Nat} (hx : evO n e x = some (.slice a m c)) (ht : selB P t et k = true) : RO P n e w (.call ⟨.builtin .cap, #[x], #[t]⟩) (.int .i64 c) := by
  intro ds dst ty ps af g
  obtain ⟨t1, t2⟩ := selB_spec ht
  simp [execOp, resolve, evO_eval hx, invoke, builtin, Builtin.cap_, run_underlying t1, goInt]
end
section
variable {E : VE} {nb xb : Nat} {w : World} {ow : Nat → Nat} {F : Fns} {V : VS} {s : AS} {κ : List Nat} {d : AD} {x : PX}
theorem thread250 (h : MK E nb xb w ow F V s κ d x) {i : Nat} {y : VTh} (hy : V.ths[i]? = some y) : Ret Tryz.prog 250 [ptr E.mb, i64c i, .bool false, i64c 0] w (fun r w' => r = .bool true ∧ Fram none' w w') := by
  obtain ⟨t, ht, -, hB, -, -, h4⟩ := h.th hy
  have := hB.s5
  by_cases q : t.st = 1 ∨ t.st = 5
  · exact thread250n h hy ht q
  · exact thread250f h hy ht (by omega)
/-- what the tiles add up to. -/
def upT (F : Fns) (i : Nat) : Nat := (fUps (F.take i)).length
def kT (F : Fns) (i : Nat) : Nat := (fKs (F.take i)).length
def cT (F : Fns) (i : Nat) : Nat := (fCode (F.take i)).length
theorem tilT_row : ∀ (F : Fns) (p o k c : Nat), p < F.length → (tilT o k c F)[p]? = some (fsAt F p, o + upT F p, k + kT F p, c + cT F p)
  | [], p, o, k, c, h => by cases h
  | f :: F, 0, o, k, c, h => rfl
  | f :: F, p + 1, o, k, c, h => by
    have := tilT_row F p (o + f.ups.length) (k + f.ks.length) (c + f.code.length) (by rw [List.length_cons] at h; omega)
    show (tilT _ _ _ F)[p]? = _
    rw [this]
    unfold upT kT cT fUps fKs fCode
    simp only [List.take_succ_cons, List.map_cons, List.flatten_cons, List.length_append, Nat.add_assoc]
    rfl
theorem fl_succ {α : Type} (g : FS → List α) {F : Fns} {p : Nat} (h : p < F.length) : (((F.take (p + 1)).map g).flatten).length = (((F.take p).map g).flatten).length + (g (fsAt F p)).length := by
  have e : fsAt F p = F[p] := by unfold fsAt; rw [List.getD_eq_getElem?_getD, List.getElem?_eq_getElem h]; rfl
  rw [List.take_add_one, List.getElem?_eq_getElem h, e, List.map_append, List.flatten_append, List.length_append]
  simp
theorem upT_succ {F : Fns} {p : Nat} (h : p < F.length) : upT F (p + 1) = upT F p + (fsAt F p).ups.length ∧ kT F (p + 1) = kT F p + (fsAt F p).ks.length ∧ cT F (p + 1) = cT F p + (fsAt F p).code.length :=
  ⟨fl_succ (fun f => f.ups) h, fl_succ (fun f => f.ks) h, fl_succ (fun f => f.code) h⟩
theorem upT_all (F : Fns) : upT F F.length = (fUps F).length ∧ kT F F.length = (fKs F).length ∧ cT F F.length = (fCode F).length := by
  unfold upT kT cT
  rw [List.take_length]
  exact ⟨rfl, rfl, rfl⟩
def clsN (C : List (Nat × List Nat)) (i : Nat) : Nat := (fCl (C.take i)).length
theorem clT_row : ∀ (C : List (Nat × List Nat)) (p o : Nat) (c : Nat × List Nat), C[p]? = some c → (clT o C)[p]? = some (c.1, o + clsN C p, c.2.length)
  | [], p, o, c, h => by cases h
  | a :: C, 0, o, c, h => by
    injection h with h
    subst h
    rfl
  | a :: C, p + 1, o, c, h => by
    rw [List.getElem?_cons_succ] at h
    have := clT_row C p (o + a.2.length) c h
    show (clT _ C)[p]? = _
    rw [this]
    unfold clsN fCl
    simp only [List.take_succ_cons, List.map_cons, List.flatten_cons, List.length_append, Nat.add_assoc]
theorem clsN_succ {C : List (Nat × List Nat)} {p : Nat} {c : Nat × List Nat} (h : C[p]? = some c) : clsN C (p + 1) = clsN C p + c.2.length := by
  unfold clsN fCl
  rw [List.take_add_one, h, List.map_append, List.flatten_append, List.length_append]
  simp
theorem clsN_all (C : List (Nat × List Nat)) : clsN C C.length = (fCl C).length := by
  unfold clsN
  rw [List.take_length]
/-- the open cells that the check has counted. -/
def opS (V : VS) (i : Nat) : Nat := (((V.ths.take i).map fun x => x.opn).flatten).length
theorem opS_succ {V : VS} {i : Nat} {y : VTh} (h : V.ths[i]? = some y) : opS V (i + 1) = opS V i + y.opn.length := by
  unfold opS
  rw [List.take_add_one, h, List.map_append, List.flatten_append, List.length_append]
  simp
def ceS (V : VS) (i : Nat) : Nat := (V.cells.take i).countP fun c => c.th.isSome
theorem ceS_succ {V : VS} {i : Nat} {c : VCell} (h : V.cells[i]? = some c) : ceS V (i + 1) = ceS V i + if c.th.isSome then 1 else 0 := by
  unfold ceS
  rw [List.take_add_one, h, List.countP_append]
  simp [List.countP_cons]
end
section
variable {mb tb nb xb db : Nat} {w : World} {ow : Nat → Nat} {L : VL} {T : List Tb}
set_option maxHeartbeats 8000000 in
/-- a machine that has nothing loaded. -/
theorem check208z (h : VT ⟨mb, tb, ptr nb, ptr xb⟩ nb xb w ow L T) {fuel e : Nat} {out : Str} (hf : L.fu = i64c fuel) (ho : L.A 11 = (out.length, out.map u8c)) (h200 : out.length ≤ 200) (hz : Zr L e) : Ret Tryz.prog 208 [ptr mb, .int .i64 (-1), i64c 0] w (fun r w' => r = .bool true ∧ Fram none' w w') := by
  have hF : Fram none' w w := Fram.refl _ _
  obtain ⟨Vv, U, op⟩ := h.m
  obtain ⟨z1, z2, z3, z4⟩ := hz
  have hA : ∀ i, 2 ≤ i → i ≤ 8 → ∃ a c, Vv i = .slice a 0 c := fun i h1 h2 => by
    obtain ⟨a, c, q⟩ := (op.a i (.inl ⟨h1, h2⟩)).form
    rw [z1 i h1 h2] at q
    exact ⟨a, c, q⟩
  obtain ⟨a2, c2, v2⟩ := hA 2 (by decide) (by decide)
  obtain ⟨a3, c3, v3⟩ := hA 3 (by decide) (by decide)
  obtain ⟨a4, c4, v4⟩ := hA 4 (by decide) (by decide)
  obtain ⟨a5, c5, v5⟩ := hA 5 (by decide) (by decide)
  obtain ⟨a6, c6, v6⟩ := hA 6 (by decide) (by decide)
  obtain ⟨a7, c7, v7⟩ := hA 7 (by decide) (by decide)
  obtain ⟨a8, c8, v8⟩ := hA 8 (by decide) (by decide)
  obtain ⟨a11, c11, v11⟩ := (op.a 11 (.inr rfl)).form
  rw [ho] at v11
  have hM := op.m
  unfold mbc at hM
  rw [v2, v3, v4, v5, v6, v7, v8, v11, z2, hf, z3] at hM
  have hM : Blk w.heap mb _ 89 := hM
  refine ret_of Tryz.func208 rfl Tryz.ntmps208 rfl ?_
  refine c_seq (fun K1 hK1 => ?_)
  refine c_reg ?_ -- region 0 check.go:108
  refine wl (ro_assign rfl) ?_
  refine wl_nil (x_then (hK1 _ _ ?_))
  clear hK1 K1
  refine c_seq (fun K2 hK2 => ?_)
  refine c_seq (fun K3 hK3 => ?_)
  refine c_reg ?_ -- region 1 check.go:109
  refine wl (ro_move rfl) ?_
  refine wl (ro_nilCheck rfl) ?_
  refine wl (ro_fieldAddr (k := 9) rfl fo_89_9) ?_
  refine wl (ro_loadB rfl sc_80 (hM) (rfl)) ?_
  refine wl (ro_capL rfl se_80) ?_
  refine wl (ro_cmp (r := false) rfl rfl rfl) ?_
  refine wl (ro_move rfl) ?_
  refine wlg_yes rfl (ro_move rfl) ?_
  refine wlg_yes rfl (ro_nilCheck rfl) ?_
  refine wlg_yes rfl (ro_fieldAddr (k := 10) rfl fo_89_10) ?_
  refine wlg_yes rfl (ro_loadB rfl sc_3 (hM) (rfl)) ?_
  refine wlg_yes rfl (ro_cmp (r := false) rfl rfl (congrArg some (decide_eq_false (by omega)))) ?_
  refine wl (ro_pick rfl rfl rfl) ?_
  refine wl (ro_move rfl) ?_
  refine wlg_yes rfl (ro_move rfl) ?_
  refine wlg_yes rfl (ro_nilCheck rfl) ?_
  refine wlg_yes rfl (ro_fieldAddr (k := 11) rfl fo_89_11) ?_
  refine wlg_yes rfl (ro_loadB rfl sc_70 (hM) (rfl)) ?_
  refine wlg_yes rfl (ro_lenL rfl se_70) ?_
  refine wlg_yes rfl (ro_cmp (r := false) rfl rfl (congrArg some (decide_eq_false (by omega)))) ?_
  refine wl (ro_pick rfl rfl rfl) ?_
  refine wl_nil (x_then (hK3 _ _ ?_))
  clear hK3 K3
  refine wc_condF rfl ?_
  refine c_skip (x_then (hK2 _ _ ?_))
  clear hK2 K2
  refine c_seq (fun K4 hK4 => ?_)
  refine c_seq (fun K5 hK5 => ?_)
  refine c_reg ?_ -- region 3 check.go:112
  refine wl (ro_move rfl) ?_
  refine wl (ro_nilCheck rfl) ?_
  refine wl (ro_fieldAddr (k := 12) rfl fo_89_12) ?_
  refine wl (ro_loadB rfl sc_54 (hM) (rfl)) ?_
  refine wl (ro_cmp (r := true) rfl rfl (congrArg some (by simp; omega))) ?_
  refine wl_nil (x_then (hK5 _ _ ?_))
  clear hK5 K5
  refine wc_condT rfl ?_
  refine c_seq (fun K6 hK6 => ?_)
  refine c_pi [(0, false), (1, false), (2, false), (3, false), (4, false), (5, false), (6, false), (7, false), (8, false), (9, false), (10, false), (11, false), (12, false), (13, false), (14, false), (15, false), (16, false), (17, false), (18, false), (19, false), (20, false), (21, false), (22, false), (23, false), (24, false), (25, false), (26, false), (27, false), (28, false), (29, false), (30, false), (31, false), (32, false), (33, false), (34, false), (35, false), (36, false), (37, false), (38, false), (39, false), (40, false), (41, false), (42, false), (43, false), (44, false), (45, false), (46, false), (47, false)] (SameH _) mixed (by kernel_rfl) rfl (by kernel_rfl) (po_then (po_then (po_bp))) (sameH_now _ _) ?_ -- region 4 check.go:113
  refine pi_ro rfl (fun w hS => ro_move rfl) ?_
  refine pi_ro rfl (fun w hS => ro_nilCheck rfl) ?_
  refine pi_ro rfl (fun w hS => ro_fieldAddr (k := 2) rfl fo_89_2) ?_
  refine pi_ro rfl (fun w hS => ro_loadB rfl sc_81 (Blk.of_heap hM hS) (rfl)) ?_
  refine pi_ro rfl (fun w hS => ro_lenL rfl se_81) ?_
  refine pi_ro rfl (fun w hS => ro_move rfl) ?_
  refine pi_ro rfl (fun w hS => ro_nilCheck rfl) ?_
  refine pi_ro rfl (fun w hS => ro_fieldAddr (k := 3) rfl fo_89_3) ?_
  refine pi_ro rfl (fun w hS => ro_loadB rfl sc_82 (Blk.of_heap hM hS) (rfl)) ?_
  refine pi_ro rfl (fun w hS => ro_lenL rfl se_82) ?_
  refine pi_ro rfl (fun w hS => ro_adT (m := 0) (k := 0) rfl rfl (by omega)) ?_
  refine pi_ro rfl (fun w hS => ro_move rfl) ?_
  refine pi_ro rfl (fun w hS => ro_nilCheck rfl) ?_
  refine pi_ro rfl (fun w hS => ro_fieldAddr (k := 4) rfl fo_89_4) ?_
  refine pi_ro rfl (fun w hS => ro_loadB rfl sc_83 (Blk.of_heap hM hS) (rfl)) ?_
  refine pi_ro rfl (fun w hS => ro_lenL rfl se_83) ?_
  refine pi_ro rfl (fun w hS => ro_adT (m := 0) (k := 0) rfl rfl (by omega)) ?_
  refine pi_ro rfl (fun w hS => ro_move rfl) ?_
  refine pi_ro rfl (fun w hS => ro_nilCheck rfl) ?_
  refine pi_ro rfl (fun w hS => ro_fieldAddr (k := 5) rfl fo_89_5) ?_
  refine pi_ro rfl (fun w hS => ro_loadB rfl sc_84 (Blk.of_heap hM hS) (rfl)) ?_
  refine pi_ro rfl (fun w hS => ro_lenL rfl se_84) ?_
  refine pi_ro rfl (fun w hS => ro_adT (m := 0) (k := 0) rfl rfl (by omega)) ?_
  refine pi_ro rfl (fun w hS => ro_move rfl) ?_
  refine pi_ro rfl (fun w hS => ro_nilCheck rfl) ?_
  refine pi_ro rfl (fun w hS => ro_fieldAddr (k := 6) rfl fo_89_6) ?_
  refine pi_ro rfl (fun w hS => ro_loadB rfl sc_85 (Blk.of_heap hM hS) (rfl)) ?_
  refine pi_ro rfl (fun w hS => ro_lenL rfl se_85) ?_
  refine pi_ro rfl (fun w hS => ro_adT (m := 0) (k := 0) rfl rfl (by omega)) ?_
  refine pi_ro rfl (fun w hS => ro_move rfl) ?_
  refine pi_ro rfl (fun w hS => ro_nilCheck rfl) ?_
  refine pi_ro rfl (fun w hS => ro_fieldAddr (k := 7) rfl fo_89_7) ?_
  refine pi_ro rfl (fun w hS => ro_loadB rfl sc_86 (Blk.of_heap hM hS) (rfl)) ?_
  refine pi_ro rfl (fun w hS => ro_lenL rfl se_86) ?_
  refine pi_ro rfl (fun w hS => ro_adT (m := 0) (k := 0) rfl rfl (by omega)) ?_
  refine pi_ro rfl (fun w hS => ro_move rfl) ?_
  refine pi_ro rfl (fun w hS => ro_nilCheck rfl) ?_
  refine pi_ro rfl (fun w hS => ro_fieldAddr (k := 8) rfl fo_89_8) ?_
  refine pi_ro rfl (fun w hS => ro_loadB rfl sc_87 (Blk.of_heap hM hS) (rfl)) ?_
  refine pi_ro rfl (fun w hS => ro_lenL rfl se_87) ?_
  refine pi_ro rfl (fun w hS => ro_adT (m := 0) (k := 0) rfl rfl (by omega)) ?_
  refine pi_ro rfl (fun w hS => ro_move rfl) ?_
  refine pi_ro rfl (fun w hS => ro_nilCheck rfl) ?_
  refine pi_ro rfl (fun w hS => ro_fieldAddr (k := 9) rfl fo_89_9) ?_
  refine pi_ro rfl (fun w hS => ro_loadB rfl sc_80 (Blk.of_heap hM hS) (rfl)) ?_
  refine pi_ro rfl (fun w hS => ro_lenL rfl se_80) ?_
  refine pi_ro rfl (fun w hS => ro_adT (m := 0) (k := 0) rfl rfl (by omega)) ?_
  refine pi_ro rfl (fun w hS => ro_assign rfl) ?_
  refine pi_nil (x_then (hK6 _ _ ?_))
  clear hK6 K6
  refine forget [(7, _)] ⟨rfl, trivial⟩ (fun e => ?_)
  refine c_seq (fun K7 hK7 => ?_)
  refine c_reg ?_ -- region 5 check.go:114
  refine wl (ro_move rfl) ?_
  refine wl (ro_cmp (r := true) rfl rfl rfl) ?_
  refine wl (ro_assign rfl) ?_
  refine wl_nil (x_then (hK7 _ _ ?_))
  clear hK7 K7
  refine c_ret (x_thenR ?_)
  refine bp_ret Tryz.results208 rfl ?_
  exact ⟨rfl, hF.thenDrew⟩
theorem vpr_one (r : FS × Nat × Nat × Nat) : ∀ u ∈ vpr r, u.oneCell' = true := by simp [vpr, vpc, Value.oneCell', i64c]
theorem fCl_le : ∀ (C : List (Nat × List Nat)), (∀ c ∈ C, c.2.length ≤ 144) → (fCl C).length ≤ 144 * C.length
  | [], _ => Nat.le_refl _
  | c :: C, h => by
    have h1 := fCl_le C (fun d hd => h d (List.mem_cons_of_mem _ hd))
    have h2 := h c List.mem_cons_self
    unfold fCl at h1 ⊢
    rw [List.map_cons, List.flatten_cons, List.length_append, List.length_cons]
    omega
theorem take_le {α : Type} (l : List (List α)) (i : Nat) : ((l.take i).flatten).length ≤ l.flatten.length := by
  conv => rhs; rw [← List.take_append_drop i l]
  rw [List.flatten_append, List.length_append]
  omega
variable {F : Fns} {V : VS} {s : AS} {κ : List Nat} {d : AD} {x : PX}
/-- the plain facts that the check asks. -/
structure MF8 (F : Fns) (V : VS) (s : AS) (x : PX) : Prop where
  rl : x.rows.length = F.length
  cl : x.cl.length = V.clos.length
  c1 : 1 ≤ V.clos.length
  c24 : V.clos.length ≤ 24
  t1 : 1 ≤ V.ths.length
  ux : x.ux = fCl V.clos
  u6 : x.ux.length ≤ 6120
  co : ∀ (i : Nat) p cs, V.clos[i]? = some (p, cs) → p < F.length ∧ cs.length = (fsAt F p).ups.length ∧ ∀ k ∈ cs, k < V.cells.length
theorem MK.m8 (h : MK ⟨mb, tb, ptr nb, ptr xb⟩ nb xb w ow F V s κ d x) : MF8 F V s x := by
  have hco : ∀ (i : Nat) p cs, V.clos[i]? = some (p, cs) → p < F.length ∧ cs.length = (fsAt F p).ups.length ∧ ∀ k ∈ cs, k < V.cells.length := fun i p cs hi => by
    obtain ⟨h1, h2⟩ := h.z.r.clo i p cs hi
    obtain ⟨h3, h4⟩ := h.fin.sh.cl i p _ h1
    rw [List.length_map, pr_psf] at h4
    unfold Psf at h3
    rw [List.length_map] at h3
    exact ⟨h3, h4, h2⟩
  have ht1 : 1 ≤ V.ths.length := by
    rw [h.z.r.tlen]
    have := h.fin.bi.f
    omega
  have hux : x.ux = fCl V.clos := by
    obtain ⟨-, r, q1, q2⟩ := h.cr.2.2
    have : r = [] := List.eq_nil_of_length_eq_zero (by omega)
    rw [q1, this, List.append_nil]
  have hc24 : V.clos.length ≤ 24 := by rw [h.z.r.clen]; exact h.fin.av.nc
  refine ⟨by rw [h.pt.1]; exact tilT_len F 0 0 0, h.cr.1, ?_, hc24, ht1, hux, ?_, hco⟩
  · obtain ⟨t, ht⟩ : ∃ t, s.ths[0]? = some t := ⟨_, List.getElem?_eq_getElem (by rw [← h.z.r.tlen]; omega)⟩
    have := (h.fin.bi.t 0 t ht).fn
    rw [h.z.r.clen]
    omega
  · rw [hux]
    have := fCl_le V.clos (fun c hc => by
      obtain ⟨i, hi⟩ := List.mem_iff_getElem?.1 hc
      obtain ⟨p, cs⟩ := c
      obtain ⟨-, q, -⟩ := hco i p cs hi
      obtain ⟨-, -, -, -, -, dd, hd, hu⟩ := h.fin.fok p
      have := hu.len
      show cs.length ≤ 144
      omega)
    omega
set_option maxHeartbeats 64000000 in
theorem check208l (h : MK ⟨mb, tb, ptr nb, ptr xb⟩ nb xb w ow F V s κ d x) : Ret Tryz.prog 208 [ptr mb, .int .i64 (-1), i64c 0] w (fun r w' => r = .bool true ∧ Fram none' w w') := by
  have hF : Fram none' w w := Fram.refl _ _
  have h8 := h.m8
  have hrl := h8.rl
  have hcl := h8.cl
  have hc1 := h8.c1
  have hc24 := h8.c24
  have ht1 := h8.t1
  have hu6 := h8.u6
  have hux := h8.ux
  have hec := h.ec
  rw [← hux] at hec
  have hf1 := h.fin.f1
  have hf13 := h.fin.f13
  have ht5 := h.nt
  have htb1 := h.fin.tb
  have htb12 := h.fin.av.nh
  have ho200 := h.fin.av.out
  obtain ⟨pb1, pb2, pb3⟩ := h.pb
  obtain ⟨pe1, pe2, pe3, pe4⟩ := h.pt
  have ua := upT_all F
  rw [← pe2, ← pe3, ← pe4] at ua
  have hM0 : Blk w.heap mb _ 89 := h.m
  unfold mkL at hM0
  have o2 := h.o2
  have o6 := h.o6
  have o7 := h.o7
  have o8 := h.o8
  obtain ⟨r0, hr0⟩ : ∃ rr, x.rows[0]? = some rr := ⟨_, List.getElem?_eq_getElem (by omega)⟩
  obtain ⟨rg, rcap, rl, er, hRg, -, -, -, -, k5r⟩ := OwT.at vpr_len o2 hr0
  obtain ⟨l0, hl0⟩ : ∃ rr, x.cl[0]? = some rr := ⟨_, List.getElem?_eq_getElem (by omega)⟩
  obtain ⟨cg, ccap, cll, ec, hCg, -, -, -, -, k5c⟩ := OwT.at vcc_len o6 hl0
  have hda2 : d.a 2 = some ⟨rg, 0, none⟩ := by injection er
  have hda6 : d.a 6 = some ⟨cg, 0, none⟩ := by injection ec
  rw [hda2, hda6] at hM0
  generalize d.a 7 = da7 at hM0 o7
  generalize d.a 8 = da8 at hM0 o8
  clear er ec o2 o6
  have hopS : opS V V.ths.length = ceS V V.cells.length := by
    unfold opS ceS
    rw [List.take_length, List.take_length]
    exact opn_cnt h.z.r
  have hceL : ceS V V.cells.length ≤ V.cells.length := by unfold ceS; rw [List.take_length]; exact List.countP_le_length
  have htake : ∀ i, opS V i ≤ opS V V.ths.length := fun i => by
    unfold opS
    rw [List.take_length, List.map_take]
    exact take_le _ i
  refine ret_of Tryz.func208 rfl Tryz.ntmps208 rfl ?_
  refine c_seq (fun K1 hK1 => ?_)
  refine c_reg ?_ -- region 0 check.go:108
  refine wl (ro_assign rfl) ?_
  refine wl_nil (x_then (hK1 _ _ ?_))
  clear hK1 K1
  refine c_seq (fun K2 hK2 => ?_)
  refine c_seq (fun K3 hK3 => ?_)
  refine c_reg ?_ -- region 1 check.go:109
  refine wl (ro_move rfl) ?_
  refine wl (ro_nilCheck rfl) ?_
  refine wl (ro_fieldAddr (k := 9) rfl fo_89_9) ?_
  refine wl (ro_loadB rfl sc_80 ((hF.blkN hM0)) (rfl)) ?_
  refine wl (ro_capL rfl se_80) ?_
  refine wl (ro_cmp (r := false) rfl rfl rfl) ?_
  refine wl (ro_move rfl) ?_
  refine wlg_yes rfl (ro_move rfl) ?_
  refine wlg_yes rfl (ro_nilCheck rfl) ?_
  refine wlg_yes rfl (ro_fieldAddr (k := 10) rfl fo_89_10) ?_
  refine wlg_yes rfl (ro_loadB rfl sc_3 ((hF.blkN hM0)) (rfl)) ?_
  refine wlg_yes rfl (ro_cmp (r := false) rfl rfl (congrArg some (decide_eq_false (by omega)))) ?_
  refine wl (ro_pick rfl rfl rfl) ?_
  refine wl (ro_move rfl) ?_
  refine wlg_yes rfl (ro_move rfl) ?_
  refine wlg_yes rfl (ro_nilCheck rfl) ?_
  refine wlg_yes rfl (ro_fieldAddr (k := 11) rfl fo_89_11) ?_
  refine wlg_yes rfl (ro_loadB rfl sc_70 ((hF.blkN hM0)) (rfl)) ?_
  refine wlg_yes rfl (ro_lenL rfl se_70) ?_
  refine wlg_yes rfl (ro_cmp (r := false) rfl rfl (congrArg some (decide_eq_false (by omega)))) ?_
  refine wl (ro_pick rfl rfl rfl) ?_
  refine wl_nil (x_then (hK3 _ _ ?_))
  clear hK3 K3
  refine wc_condF rfl ?_
  refine c_skip (x_then (hK2 _ _ ?_))
  clear hK2 K2
  refine c_seq (fun K4 hK4 => ?_)
  refine c_seq (fun K5 hK5 => ?_)
  refine c_reg ?_ -- region 3 check.go:112
  refine wl (ro_move rfl) ?_
  refine wl (ro_nilCheck rfl) ?_
  refine wl (ro_fieldAddr (k := 12) rfl fo_89_12) ?_
  refine wl (ro_loadB rfl sc_54 ((hF.blkN hM0)) (rfl)) ?_
  refine wl (ro_cmp (r := false) rfl rfl rfl) ?_
  refine wl_nil (x_then (hK5 _ _ ?_))
  clear hK5 K5
  refine wc_condF rfl ?_
  refine c_skip (x_then (hK4 _ _ ?_))
  clear hK4 K4
  refine c_seq (fun K6 hK6 => ?_)
  refine c_seq (fun K7 hK7 => ?_)
  refine c_reg ?_ -- region 6 check.go:116
  refine wl (ro_move rfl) ?_
  refine wl (ro_nilCheck rfl) ?_
  refine wl (ro_fieldAddr (k := 2) rfl fo_89_2) ?_
  refine wl (ro_loadB rfl sc_81 ((hF.blkN hM0)) (rfl)) ?_
  refine wl (ro_lenL rfl se_81) ?_
  refine wl (ro_cmp (r := false) rfl rfl (congrArg some (decide_eq_false (by omega)))) ?_
  refine wl (ro_move rfl) ?_
  refine wlg_yes rfl (ro_move rfl) ?_
  refine wlg_yes rfl (ro_nilCheck rfl) ?_
  refine wlg_yes rfl (ro_fieldAddr (k := 2) rfl fo_89_2) ?_
  refine wlg_yes rfl (ro_loadB rfl sc_81 ((hF.blkN hM0)) (rfl)) ?_
  refine wlg_yes rfl (ro_lenL rfl se_81) ?_
  refine wlg_yes rfl (ro_cmp (r := false) rfl rfl (congrArg some (decide_eq_false (by omega)))) ?_
  refine wl (ro_pick rfl rfl rfl) ?_
  refine wl (ro_move rfl) ?_
  refine wlg_yes rfl (ro_move rfl) ?_
  refine wlg_yes rfl (ro_nilCheck rfl) ?_
  refine wlg_yes rfl (ro_fieldAddr (k := 6) rfl fo_89_6) ?_
  refine wlg_yes rfl (ro_loadB rfl sc_85 ((hF.blkN hM0)) (rfl)) ?_
  refine wlg_yes rfl (ro_lenL rfl se_85) ?_
  refine wlg_yes rfl (ro_cmp (r := false) rfl rfl (congrArg some (decide_eq_false (by omega)))) ?_
  refine wl (ro_pick rfl rfl rfl) ?_
  refine wl (ro_move rfl) ?_
  refine wlg_yes rfl (ro_move rfl) ?_
  refine wlg_yes rfl (ro_nilCheck rfl) ?_
  refine wlg_yes rfl (ro_fieldAddr (k := 6) rfl fo_89_6) ?_
  refine wlg_yes rfl (ro_loadB rfl sc_85 ((hF.blkN hM0)) (rfl)) ?_
  refine wlg_yes rfl (ro_lenL rfl se_85) ?_
  refine wlg_yes rfl (ro_cmp (r := false) rfl rfl (congrArg some (decide_eq_false (by omega)))) ?_
  refine wl (ro_pick rfl rfl rfl) ?_
  refine wl (ro_move rfl) ?_
  refine wlg_yes rfl (ro_move rfl) ?_
  refine wlg_yes rfl (ro_nilCheck rfl) ?_
  refine wlg_yes rfl (ro_fieldAddr (k := 9) rfl fo_89_9) ?_
  refine wlg_yes rfl (ro_loadB rfl sc_80 ((hF.blkN hM0)) (rfl)) ?_
  refine wlg_yes rfl (ro_lenL rfl se_80) ?_
  refine wlg_yes rfl (ro_cmp (r := false) rfl rfl (congrArg some (decide_eq_false (by omega)))) ?_
  refine wl (ro_pick rfl rfl rfl) ?_
  refine wl_nil (x_then (hK7 _ _ ?_))
  clear hK7 K7
  refine wc_condF rfl ?_
  refine c_skip (x_then (hK6 _ _ ?_))
  clear hK6 K6
  refine c_seq (fun K8 hK8 => ?_)
  refine c_seq (fun K9 hK9 => ?_)
  refine c_pi [(0, false), (1, false), (2, false), (3, false), (4, false), (5, false), (6, false), (7, false), (8, false), (9, false), (10, false), (11, false), (12, false), (13, false), (14, false), (15, false), (16, false), (17, false), (18, false)] (SameH _) mixed (by kernel_rfl) rfl (by kernel_rfl) (po_then (po_then (po_bp))) (sameH_now _ _) ?_ -- region 8 check.go:119
  refine pi_ro rfl (fun w hS => ro_move rfl) ?_
  refine pi_ro rfl (fun w hS => ro_nilCheck rfl) ?_
  refine pi_ro rfl (fun w hS => ro_fieldAddr (k := 8) rfl fo_89_8) ?_
  refine pi_ro rfl (fun w hS => ro_loadB rfl sc_87 (Blk.of_heap (hF.blkN hM0) hS) (rfl)) ?_
  refine pi_ro rfl (fun w hS => ro_lenL rfl se_87) ?_
  refine pi_ro rfl (fun w hS => ro_move rfl) ?_
  refine pi_ro rfl (fun w hS => ro_nilCheck rfl) ?_
  refine pi_ro rfl (fun w hS => ro_fieldAddr (k := 7) rfl fo_89_7) ?_
  refine pi_ro rfl (fun w hS => ro_loadB rfl sc_86 (Blk.of_heap (hF.blkN hM0) hS) (rfl)) ?_
  refine pi_ro rfl (fun w hS => ro_lenL rfl se_86) ?_
  refine pi_ro rfl (fun w hS => ro_cmp (r := false) rfl rfl (congrArg some (decide_eq_false (by omega)))) ?_
  refine pi_ro rfl (fun w hS => ro_move rfl) ?_
  refine pi_gyes rfl rfl (fun w hS => ro_move rfl) ?_
  refine pi_gyes rfl rfl (fun w hS => ro_nilCheck rfl) ?_
  refine pi_gyes rfl rfl (fun w hS => ro_fieldAddr (k := 7) rfl fo_89_7) ?_
  refine pi_gyes rfl rfl (fun w hS => ro_loadB rfl sc_86 (Blk.of_heap (hF.blkN hM0) hS) (rfl)) ?_
  refine pi_gyes rfl rfl (fun w hS => ro_lenL rfl se_86) ?_
  refine pi_gyes rfl rfl (fun w hS => ro_cmp (r := false) rfl rfl (congrArg some (decide_eq_false (by omega)))) ?_
  refine pi_ro rfl (fun w hS => ro_pick rfl rfl rfl) ?_
  refine pi_nil (x_then (hK9 _ _ ?_))
  clear hK9 K9
  refine wc_condF rfl ?_
  refine c_skip (x_then (hK8 _ _ ?_))
  clear hK8 K8
  refine forget [(0, _), (1, _), (2, _)] ⟨rfl, rfl, rfl, trivial⟩ (fun e => ?_)
  refine c_seq (fun K10 hK10 => ?_)
  refine c_reg ?_ -- region 10 check.go:122
  refine wl (ro_move rfl) ?_
  refine wl (ro_nilCheck rfl) ?_
  refine wl (ro_fieldAddr (k := 1) rfl fo_89_1) ?_
  refine wl (ro_loadB rfl sc_38 ((hF.blkN hM0)) (rfl)) ?_
  refine wl_call rfl en_202 (Count202 (h.tb.far hF.thenDrew (fun _ _ _ q ↦ q) (Xt.refl _ _))) ?_
  rintro _ u0 ⟨rfl, hw0⟩
  rw [hw0]
  clear hw0 u0
  refine wl (ro_assign rfl) ?_
  refine wl_nil (x_then (hK10 _ _ ?_))
  clear hK10 K10
  refine c_seq (fun K11 hK11 => ?_)
  refine c_seq (fun K12 hK12 => ?_)
  refine c_reg ?_ -- region 11 check.go:123
  refine wl (ro_move rfl) ?_
  refine wl (ro_cmp (r := false) rfl rfl (congrArg some (decide_eq_false (by omega)))) ?_
  refine wl_nil (x_then (hK12 _ _ ?_))
  clear hK12 K12
  refine wc_condF rfl ?_
  refine c_skip (x_then (hK11 _ _ ?_))
  clear hK11 K11
  refine forget [(0, _), (1, _), (2, _)] ⟨rfl, rfl, rfl, trivial⟩ (fun e => ?_)
  refine c_seq (fun K13 hK13 => ?_)
  refine c_reg ?_ -- region 13 check.go:126
  refine wl (ro_assign rfl) ?_
  refine wl (ro_assign rfl) ?_
  refine wl (ro_assign rfl) ?_
  refine wl_nil (x_then (hK13 _ _ ?_))
  clear hK13 K13
  refine c_seq (fun K14 hK14 => ?_)
  refine c_seq (fun K15 hK15 => ?_)
  refine c_reg ?_ -- region 14 check.go:127
  refine wl (ro_move rfl) ?_
  refine wl (ro_nilCheck rfl) ?_
  refine wl (ro_fieldAddr (k := 2) rfl fo_89_2) ?_
  refine wl (ro_loadB rfl sc_81 ((hF.blkN hM0)) (rfl)) ?_
  refine wl (ro_lenL rfl se_81) ?_
  refine wl (ro_move rfl) ?_
  refine wl_nil (x_then (hK15 _ _ ?_))
  clear hK15 K15
  refine c_block ?_
  -- loop@r15: live slots [0, 1, 2, 9, 10, 11, 166, 167, 168]
  refine c_loopG (fun n a' w' => ∃ i, n = F.length - i ∧ i ≤ F.length ∧ Fram none' w w' ∧ ∃ e, a' = Fr 401 (upds e [(0, ptr mb), (1, .int .i64 (-1)), (2, i64c 0), (9, i64c (upT F i)), (10, i64c (kT F i)), (11, i64c (cT F i)), (166, .slice (some ⟨rg, 0, none⟩) x.rows.length (d.c 2)), (167, i64c x.rows.length), (168, i64c i)]) []) F.length ⟨0, rfl, Nat.zero_le _, hF.thenDrew, kp _ ⟨rfl, rfl, rfl, rfl, rfl, rfl, rfl, rfl, rfl, trivial⟩⟩ ?_
  clear hF
  rintro n a' u1 ⟨i, rfl, hi, hF, e, rfl⟩
  refine c_seq (fun K16 hK16 => ?_)
  refine c_reg ?_ -- region 15 check.go:127
  refine wl (ro_cmp rfl rfl rfl) ?_
  refine wl_nil (x_then (hK16 _ _ ?_))
  clear hK16 K16
  refine forget [(0, _), (1, _), (2, _), (9, _), (10, _), (11, _), (166, _), (167, _), (168, _), (169, _)] ⟨rfl, rfl, rfl, rfl, rfl, rfl, rfl, rfl, rfl, rfl, trivial⟩ (fun e => ?_)
  refine c_seq (fun K17 hK17 => ?_)
  refine wc_cond rfl (fun hc169 => ?_) (fun hc169 => ?_)
  · try simp only [decide_eq_true_eq, decide_eq_false_iff_not, Bool.not_eq_true', Bool.not_eq_false', Bool.not_eq_eq_eq_not, Bool.not_true, Bool.not_false, beq_iff_eq, bne_iff_ne, ne_eq, beq_eq_false_iff_ne, bne_eq_false_iff_eq, gt_iff_lt, ge_iff_le, Int.not_lt, Int.not_le] at hc169
    have hlt : i < F.length := by omega
    have hri : x.rows[i]? = some (fsAt F i, 0 + upT F i, 0 + kT F i, 0 + cT F i) := by rw [pe1]; exact tilT_row F i 0 0 0 hlt
    rw [Nat.zero_add, Nat.zero_add, Nat.zero_add] at hri
    have hk5 := k5r i _ hri
    obtain ⟨f1, f2, f3, f4, f5, dd, hd, hu⟩ := h.fin.fok i
    have hul := hu.len
    obtain ⟨us1, us2, us3⟩ := upT_succ hlt
    have b1 : upT F (i + 1) ≤ x.D.length := by rw [← ua.1]; unfold upT; rw [List.take_length, fUps, List.map_take]; exact take_le _ _
    have b2 : kT F (i + 1) ≤ x.K.length := by rw [← ua.2.1]; unfold kT; rw [List.take_length, fKs, List.map_take]; exact take_le _ _
    have b3 : cT F (i + 1) ≤ x.Cd.length := by rw [← ua.2.2]; unfold cT; rw [List.take_length, fCode, List.map_take]; exact take_le _ _
    refine c_skip (x_then (hK17 _ _ ?_))
    clear hK17 K17
    refine forget [(0, _), (1, _), (2, _), (9, _), (10, _), (11, _), (166, _), (167, _), (168, _)] ⟨rfl, rfl, rfl, rfl, rfl, rfl, rfl, rfl, rfl, trivial⟩ (fun e => ?_)
    refine c_seq (fun K18 hK18 => ?_)
    refine c_block ?_
    refine c_seq (fun K19 hK19 => ?_)
    refine c_reg ?_ -- region 16 check.go:127
    refine wl (ro_indexAddr (et := 258) (k := 8) rfl rfl se_81 (rfl) ((by omega))) ?_
    refine wl (ro_loadAggB rfl ag_258 ((hF.blkN hRg)) ((vpr_len _)) (hk5)) ?_
    refine wl_new (ze_258) (fun b13 w1 hbb13 h13 F1 => ?_)
    have hbsb13 := Nat.le_trans hF.size hbb13
    replace hF := hF.thenDrew.thenN F1
    refine wl_puta rfl rfl ((vpr_one _)) sz_258 (rfl) h13 ((by simp)) (rfl) (fun w2 h13 F2 => ?_)
    replace hF := hF.thenDrew.thenO F2 (by first | exact .inr (by omega) | exact .inl rfl | exact .inl (by assumption) | assumption)
    refine wl_nil (x_then (hK19 _ _ ?_))
    clear hK19 K19
    refine c_seq (fun K20 hK20 => ?_)
    refine c_seq (fun K21 hK21 => ?_)
    refine c_reg ?_ -- region 17 check.go:128
    refine wl (ro_fieldAddr (k := 2) rfl fo_258_2) ?_
    refine wl (ro_loadB rfl sc_3 (h13) (rfl)) ?_
    refine wl (ro_move rfl) ?_
    refine wl (ro_cmp (r := false) rfl rfl (congrArg some (by simp))) ?_
    refine wl (ro_move rfl) ?_
    refine wlg_yes rfl (ro_fieldAddr (k := 4) rfl fo_258_4) ?_
    refine wlg_yes rfl (ro_loadB rfl sc_3 (h13) (rfl)) ?_
    refine wlg_yes rfl (ro_move rfl) ?_
    refine wlg_yes rfl (ro_cmp (r := false) rfl rfl (congrArg some (by simp))) ?_
    refine wl (ro_pick rfl rfl rfl) ?_
    refine wl (ro_move rfl) ?_
    refine wlg_yes rfl (ro_fieldAddr (k := 6) rfl fo_258_6) ?_
    refine wlg_yes rfl (ro_loadB rfl sc_3 (h13) (rfl)) ?_
    refine wlg_yes rfl (ro_move rfl) ?_
    refine wlg_yes rfl (ro_cmp (r := false) rfl rfl (congrArg some (by simp))) ?_
    refine wl (ro_pick rfl rfl rfl) ?_
    refine wl (ro_move rfl) ?_
    refine wlg_yes rfl (ro_fieldAddr (k := 3) rfl fo_258_3) ?_
    refine wlg_yes rfl (ro_loadB rfl sc_3 (h13) (rfl)) ?_
    refine wlg_yes rfl (ro_cmp (r := false) rfl rfl (congrArg some (decide_eq_false (by omega)))) ?_
    refine wl (ro_pick rfl rfl rfl) ?_
    refine wl (ro_move rfl) ?_
    refine wlg_yes rfl (ro_fieldAddr (k := 3) rfl fo_258_3) ?_
    refine wlg_yes rfl (ro_loadB rfl sc_3 (h13) (rfl)) ?_
    refine wlg_yes rfl (ro_cmp (r := false) rfl rfl (congrArg some (decide_eq_false (by dsimp only; omega)))) ?_
    refine wl (ro_pick rfl rfl rfl) ?_
    refine wl (ro_move rfl) ?_
    refine wlg_yes rfl (ro_fieldAddr (k := 5) rfl fo_258_5) ?_
    refine wlg_yes rfl (ro_loadB rfl sc_3 (h13) (rfl)) ?_
    refine wlg_yes rfl (ro_cmp (r := false) rfl rfl (congrArg some (decide_eq_false (by omega)))) ?_
    refine wl (ro_pick rfl rfl rfl) ?_
    refine wl (ro_move rfl) ?_
    refine wlg_yes rfl (ro_fieldAddr (k := 7) rfl fo_258_7) ?_
    refine wlg_yes rfl (ro_loadB rfl sc_3 (h13) (rfl)) ?_
    refine wlg_yes rfl (ro_cmp (r := false) rfl rfl (congrArg some (decide_eq_false (by omega)))) ?_
    refine wl (ro_pick rfl rfl rfl) ?_
    refine wl_nil (x_then (hK21 _ _ ?_))
    clear hK21 K21
    refine wc_condF rfl ?_
    refine c_skip (x_then (hK20 _ _ ?_))
    clear hK20 K20
    refine c_seq (fun K22 hK22 => ?_)
    refine c_seq (fun K23 hK23 => ?_)
    refine c_reg ?_ -- region 19 check.go:131
    refine wl (ro_fieldAddr (k := 0) rfl fo_258_0) ?_
    refine wl (ro_loadB rfl sc_3 (h13) (rfl)) ?_
    refine wl (ro_cmp (r := false) rfl rfl (congrArg some (decide_eq_false (by omega)))) ?_
    refine wl (ro_move rfl) ?_
    refine wlg_yes rfl (ro_fieldAddr (k := 0) rfl fo_258_0) ?_
    refine wlg_yes rfl (ro_loadB rfl sc_3 (h13) (rfl)) ?_
    refine wlg_yes rfl (ro_cmp (r := false) rfl rfl (congrArg some (decide_eq_false (by dsimp only; omega)))) ?_
    refine wl (ro_pick rfl rfl rfl) ?_
    refine wl (ro_move rfl) ?_
    refine wlg_yes rfl (ro_fieldAddr (k := 0) rfl fo_258_0) ?_
    refine wlg_yes rfl (ro_loadB rfl sc_3 (h13) (rfl)) ?_
    refine wlg_yes rfl (ro_fieldAddr (k := 1) rfl fo_258_1) ?_
    refine wlg_yes rfl (ro_loadB rfl sc_3 (h13) (rfl)) ?_
    refine wlg_yes rfl (ro_cmp (r := false) rfl rfl (congrArg some (decide_eq_false (by dsimp only; omega)))) ?_
    refine wl (ro_pick rfl rfl rfl) ?_
    refine wl (ro_move rfl) ?_
    refine wlg_yes rfl (ro_fieldAddr (k := 1) rfl fo_258_1) ?_
    refine wlg_yes rfl (ro_loadB rfl sc_3 (h13) (rfl)) ?_
    refine wlg_yes rfl (ro_cmp (r := false) rfl rfl (congrArg some (decide_eq_false (by dsimp only; omega)))) ?_
    refine wl (ro_pick rfl rfl rfl) ?_
    refine wl_nil (x_then (hK23 _ _ ?_))
    clear hK23 K23
    refine wc_condF rfl ?_
    refine c_skip (x_then (hK22 _ _ ?_))
    clear hK22 K22
    refine c_pi [(0, false), (1, false), (2, false), (3, false), (4, false), (5, false), (6, false), (7, false), (8, false), (9, false), (10, false), (11, false), (12, false), (13, false), (14, false)] (SameH _) mixed (by kernel_rfl) rfl (by kernel_rfl) (po_blk (po_then (po_then (po_blk (po_then (po_bp)))))) (sameH_now _ _) ?_ -- region 21 check.go:134
    refine pi_ro rfl (fun w hS => ro_move rfl) ?_
    refine pi_ro rfl (fun w hS => ro_fieldAddr (k := 3) rfl fo_258_3) ?_
    refine pi_ro rfl (fun w hS => ro_loadB rfl sc_3 (Blk.of_heap h13 hS) (rfl)) ?_
    refine pi_ro rfl (fun w hS => ro_adT (m := upT F i) (k := (fsAt F i).ups.length) rfl rfl (by omega)) ?_
    refine pi_ro rfl (fun w hS => ro_move rfl) ?_
    refine pi_ro rfl (fun w hS => ro_fieldAddr (k := 5) rfl fo_258_5) ?_
    refine pi_ro rfl (fun w hS => ro_loadB rfl sc_3 (Blk.of_heap h13 hS) (rfl)) ?_
    refine pi_ro rfl (fun w hS => ro_adT (m := kT F i) (k := (fsAt F i).ks.length) rfl rfl (by omega)) ?_
    refine pi_ro rfl (fun w hS => ro_move rfl) ?_
    refine pi_ro rfl (fun w hS => ro_fieldAddr (k := 7) rfl fo_258_7) ?_
    refine pi_ro rfl (fun w hS => ro_loadB rfl sc_3 (Blk.of_heap h13 hS) (rfl)) ?_
    refine pi_ro rfl (fun w hS => ro_adT (m := cT F i) (k := (fsAt F i).code.length) rfl rfl (by omega)) ?_
    refine pi_ro rfl (fun w hS => ro_assign rfl) ?_
    refine pi_ro rfl (fun w hS => ro_assign rfl) ?_
    refine pi_ro rfl (fun w hS => ro_assign rfl) ?_
    refine pi_nil (x_blk (x_then (hK18 _ _ ?_)))
    clear hK18 K18
    refine c_reg ?_ -- region 22 check.go:127
    refine wl (ro_adT (m := i) (k := 1) rfl rfl (by omega)) ?_
    refine wl (ro_move rfl) ?_
    refine wl_nil (x_then ?_)
    exact ⟨F.length - (i + 1), by omega, i + 1, rfl, by omega, hF.thenDrew, kp _ ⟨rfl, rfl, rfl, congrArg (fun z : Nat => some (i64c z)) us1.symm, congrArg (fun z : Nat => some (i64c z)) us2.symm, congrArg (fun z : Nat => some (i64c z)) us3.symm, rfl, rfl, rfl, trivial⟩⟩
  · try simp only [decide_eq_true_eq, decide_eq_false_iff_not, Bool.not_eq_true', Bool.not_eq_false', Bool.not_eq_eq_eq_not, Bool.not_true, Bool.not_false, beq_iff_eq, bne_iff_ne, ne_eq, beq_eq_false_iff_ne, bne_eq_false_iff_eq, gt_iff_lt, ge_iff_le, Int.not_lt, Int.not_le] at hc169
    obtain rfl : i = F.length := by omega
    rw [ua.1, ua.2.1, ua.2.2]
    refine c_exit (x_thenX (x_thenX (x_blkX (x_then (hK14 _ _ ?_)))))
    clear hK17 K17 hK14 K14
    refine c_seq (fun K24 hK24 => ?_)
    refine c_seq (fun K25 hK25 => ?_)
    refine c_reg ?_ -- region 23 check.go:136
    refine wl (ro_move rfl) ?_
    refine wl (ro_move rfl) ?_
    refine wl (ro_nilCheck rfl) ?_
    refine wl (ro_fieldAddr (k := 3) rfl fo_89_3) ?_
    refine wl (ro_loadB rfl sc_82 ((hF.blkN hM0)) (rfl)) ?_
    refine wl (ro_lenL rfl se_82) ?_
    refine wl (ro_cmp (r := false) rfl rfl (congrArg some (by simp))) ?_
    refine wl (ro_move rfl) ?_
    refine wlg_yes rfl (ro_move rfl) ?_
    refine wlg_yes rfl (ro_move rfl) ?_
    refine wlg_yes rfl (ro_nilCheck rfl) ?_
    refine wlg_yes rfl (ro_fieldAddr (k := 4) rfl fo_89_4) ?_
    refine wlg_yes rfl (ro_loadB rfl sc_83 ((hF.blkN hM0)) (rfl)) ?_
    refine wlg_yes rfl (ro_lenL rfl se_83) ?_
    refine wlg_yes rfl (ro_cmp (r := false) rfl rfl (congrArg some (by simp))) ?_
    refine wl (ro_pick rfl rfl rfl) ?_
    refine wl (ro_move rfl) ?_
    refine wlg_yes rfl (ro_move rfl) ?_
    refine wlg_yes rfl (ro_move rfl) ?_
    refine wlg_yes rfl (ro_nilCheck rfl) ?_
    refine wlg_yes rfl (ro_fieldAddr (k := 5) rfl fo_89_5) ?_
    refine wlg_yes rfl (ro_loadB rfl sc_84 ((hF.blkN hM0)) (rfl)) ?_
    refine wlg_yes rfl (ro_lenL rfl se_84) ?_
    refine wlg_yes rfl (ro_cmp (r := false) rfl rfl (congrArg some (by simp))) ?_
    refine wl (ro_pick rfl rfl rfl) ?_
    refine wl_nil (x_then (hK25 _ _ ?_))
    clear hK25 K25
    refine wc_condF rfl ?_
    refine c_skip (x_then (hK24 _ _ ?_))
    clear hK24 K24
    refine forget [(0, _), (1, _), (2, _)] ⟨rfl, rfl, rfl, trivial⟩ (fun e => ?_)
    refine c_seq (fun K26 hK26 => ?_)
    refine c_reg ?_ -- region 25 check.go:139
    refine wl (ro_assign rfl) ?_
    refine wl_nil (x_then (hK26 _ _ ?_))
    clear hK26 K26
    refine c_seq (fun K27 hK27 => ?_)
    refine c_seq (fun K28 hK28 => ?_)
    refine c_reg ?_ -- region 26 check.go:140
    refine wl (ro_move rfl) ?_
    refine wl (ro_nilCheck rfl) ?_
    refine wl (ro_fieldAddr (k := 6) rfl fo_89_6) ?_
    refine wl (ro_loadB rfl sc_85 ((hF.blkN hM0)) (rfl)) ?_
    refine wl (ro_lenL rfl se_85) ?_
    refine wl (ro_move rfl) ?_
    refine wl_nil (x_then (hK28 _ _ ?_))
    clear hK28 K28
    refine c_block ?_
    -- loop@r27: live slots [0, 1, 2, 9, 269, 270, 271]
    refine c_loopG (fun n a' w' => ∃ i, n = V.clos.length - i ∧ i ≤ V.clos.length ∧ Fram none' w w' ∧ ∃ e, a' = Fr 401 (upds e [(0, ptr mb), (1, .int .i64 (-1)), (2, i64c 0), (9, i64c (clsN V.clos i)), (269, .slice (some ⟨cg, 0, none⟩) x.cl.length (d.c 6)), (270, i64c x.cl.length), (271, i64c i)]) []) V.clos.length ⟨0, rfl, Nat.zero_le _, hF, kp _ ⟨rfl, rfl, rfl, rfl, rfl, rfl, rfl, trivial⟩⟩ ?_
    clear hF
    rintro n a' u1 ⟨i, rfl, hi, hF, e, rfl⟩
    refine c_seq (fun K29 hK29 => ?_)
    refine c_reg ?_ -- region 27 check.go:140
    refine wl (ro_cmp rfl rfl rfl) ?_
    refine wl_nil (x_then (hK29 _ _ ?_))
    clear hK29 K29
    refine forget [(0, _), (1, _), (2, _), (9, _), (269, _), (270, _), (271, _), (272, _)] ⟨rfl, rfl, rfl, rfl, rfl, rfl, rfl, rfl, trivial⟩ (fun e => ?_)
    refine c_seq (fun K30 hK30 => ?_)
    refine wc_cond rfl (fun hc272 => ?_) (fun hc272 => ?_)
    · try simp only [decide_eq_true_eq, decide_eq_false_iff_not, Bool.not_eq_true', Bool.not_eq_false', Bool.not_eq_eq_eq_not, Bool.not_true, Bool.not_false, beq_iff_eq, bne_iff_ne, ne_eq, beq_eq_false_iff_ne, bne_eq_false_iff_eq, gt_iff_lt, ge_iff_le, Int.not_lt, Int.not_le] at hc272
      have hlt : i < V.clos.length := by omega
      obtain ⟨⟨p, cs⟩, hpc⟩ : ∃ c, V.clos[i]? = some c := ⟨_, List.getElem?_eq_getElem hlt⟩
      obtain ⟨hp, hcsl, -⟩ := h8.co i p cs hpc
      have hli : x.cl[i]? = some (p, 0 + clsN V.clos i, cs.length) := by rw [h.cr.2.2.1]; exact clT_row V.clos i 0 _ hpc
      rw [Nat.zero_add] at hli
      have hk5 := k5c i _ hli
      have hrp : x.rows[p]? = some (fsAt F p, 0 + upT F p, 0 + kT F p, 0 + cT F p) := by rw [pe1]; exact tilT_row F p 0 0 0 hp
      have q3 : rl[0 + p * 8 + 3]? = some (i64c (fsAt F p).ups.length) := row_cell3 (k5r p _ hrp) rfl
      rw [← hcsl] at q3
      have hsu := clsN_succ hpc
      have hsl : clsN V.clos (i + 1) ≤ x.ux.length := by rw [hux, ← clsN_all]; unfold clsN; rw [List.take_length, fCl, List.map_take]; exact take_le _ _
      refine c_skip (x_then (hK30 _ _ ?_))
      clear hK30 K30
      refine forget [(0, _), (1, _), (2, _), (9, _), (269, _), (270, _), (271, _)] ⟨rfl, rfl, rfl, rfl, rfl, rfl, rfl, trivial⟩ (fun e => ?_)
      refine c_seq (fun K31 hK31 => ?_)
      refine c_block ?_
      refine c_seq (fun K32 hK32 => ?_)
      refine c_reg ?_ -- region 28 check.go:140
      refine wl (ro_indexAddr (et := 209) (k := 3) rfl rfl se_85 (rfl) ((by omega))) ?_
      refine wl (ro_loadAggB rfl ag_209 ((hF.blkN hCg)) ((vcc_len _)) (hk5)) ?_
      refine wl_new (ze_209) (fun b15 w3 hbb15 h15 F3 => ?_)
      have hbsb15 := Nat.le_trans hF.size hbb15
      replace hF := hF.thenDrew.thenN F3
      refine wl_puta rfl rfl ((vcc_one _)) sz_209 (rfl) h15 ((by simp)) (rfl) (fun w4 h15 F4 => ?_)
      replace hF := hF.thenDrew.thenO F4 (by first | exact .inr (by omega) | exact .inl rfl | exact .inl (by assumption) | assumption)
      refine wl_nil (x_then (hK32 _ _ ?_))
      clear hK32 K32
      refine c_seq (fun K33 hK33 => ?_)
      refine c_seq (fun K34 hK34 => ?_)
      refine c_pi [(0, false), (1, false), (2, false), (3, false), (4, false), (5, false), (6, false), (7, false), (8, false), (9, false), (10, false), (11, false), (12, false), (13, false), (14, false), (15, false), (16, false), (17, false), (18, false), (19, false), (20, false), (21, false), (22, false), (23, false), (24, false), (25, false), (26, false), (27, false), (28, false), (29, false), (30, false), (31, false), (32, false)] (SameH _) mixed (by kernel_rfl) rfl (by kernel_rfl) (po_then (po_then (po_blk (po_then (po_then (po_blk (po_then (po_bp)))))))) (sameH_now _ _) ?_ -- region 29 check.go:141
      refine pi_ro rfl (fun w hS => ro_fieldAddr (k := 0) rfl fo_209_0) ?_
      refine pi_ro rfl (fun w hS => ro_loadB rfl sc_3 (Blk.of_heap h15 hS) (rfl)) ?_
      refine pi_ro rfl (fun w hS => ro_cmp (r := false) rfl rfl (congrArg some (decide_eq_false (by omega)))) ?_
      refine pi_ro rfl (fun w hS => ro_move rfl) ?_
      refine pi_gyes rfl rfl (fun w hS => ro_fieldAddr (k := 0) rfl fo_209_0) ?_
      refine pi_gyes rfl rfl (fun w hS => ro_loadB rfl sc_3 (Blk.of_heap h15 hS) (rfl)) ?_
      refine pi_gyes rfl rfl (fun w hS => ro_move rfl) ?_
      refine pi_gyes rfl rfl (fun w hS => ro_nilCheck rfl) ?_
      refine pi_gyes rfl rfl (fun w hS => ro_fieldAddr (k := 2) rfl fo_89_2) ?_
      refine pi_gyes rfl rfl (fun w hS => ro_loadB rfl sc_81 (Blk.of_heap (hF.blkN hM0) hS) (rfl)) ?_
      refine pi_gyes rfl rfl (fun w hS => ro_lenL rfl se_81) ?_
      refine pi_gyes rfl rfl (fun w hS => ro_cmp (r := false) rfl rfl (congrArg some (decide_eq_false (by omega)))) ?_
      refine pi_ro rfl (fun w hS => ro_pick rfl rfl rfl) ?_
      refine pi_ro rfl (fun w hS => ro_move rfl) ?_
      refine pi_gyes rfl rfl (fun w hS => ro_fieldAddr (k := 1) rfl fo_209_1) ?_
      refine pi_gyes rfl rfl (fun w hS => ro_loadB rfl sc_3 (Blk.of_heap h15 hS) (rfl)) ?_
      refine pi_gyes rfl rfl (fun w hS => ro_move rfl) ?_
      refine pi_gyes rfl rfl (fun w hS => ro_cmp (r := false) rfl rfl (congrArg some (by simp))) ?_
      refine pi_ro rfl (fun w hS => ro_pick rfl rfl rfl) ?_
      refine pi_ro rfl (fun w hS => ro_move rfl) ?_
      refine pi_gyes rfl rfl (fun w hS => ro_fieldAddr (k := 2) rfl fo_209_2) ?_
      refine pi_gyes rfl rfl (fun w hS => ro_loadB rfl sc_3 (Blk.of_heap h15 hS) (rfl)) ?_
      refine pi_gyes rfl rfl (fun w hS => ro_move rfl) ?_
      refine pi_gyes rfl rfl (fun w hS => ro_nilCheck rfl) ?_
      refine pi_gyes rfl rfl (fun w hS => ro_fieldAddr (k := 2) rfl fo_89_2) ?_
      refine pi_gyes rfl rfl (fun w hS => ro_loadB rfl sc_81 (Blk.of_heap (hF.blkN hM0) hS) (rfl)) ?_
      refine pi_gyes rfl rfl (fun w hS => ro_fieldAddr (k := 0) rfl fo_209_0) ?_
      refine pi_gyes rfl rfl (fun w hS => ro_loadB rfl sc_3 (Blk.of_heap h15 hS) (rfl)) ?_
      refine pi_gyes rfl rfl (fun w hS => ro_indexAddr (et := 258) (k := 8) rfl rfl se_81 (rfl) ((by omega))) ?_
      refine pi_gyes rfl rfl (fun w hS => ro_fieldAddr (k := 3) rfl fo_258_3) ?_
      refine pi_gyes rfl rfl (fun w hS => ro_loadB rfl sc_3 (Blk.of_heap (hF.blkN hRg) hS) (q3)) ?_
      refine pi_gyes rfl rfl (fun w hS => ro_cmp (r := false) rfl rfl (congrArg some (by simp))) ?_
      refine pi_ro rfl (fun w hS => ro_pick rfl rfl rfl) ?_
      refine pi_nil (x_then (hK34 _ _ ?_))
      clear hK34 K34
      refine wc_condF rfl ?_
      refine c_skip (x_then (hK33 _ _ ?_))
      clear hK33 K33
      refine c_reg ?_ -- region 31 check.go:144
      refine wl (ro_move rfl) ?_
      refine wl (ro_fieldAddr (k := 2) rfl fo_209_2) ?_
      refine wl (ro_loadB rfl sc_3 (h15) (rfl)) ?_
      refine wl (ro_adT (m := clsN V.clos i) (k := cs.length) rfl rfl (by dsimp only at *; omega)) ?_
      refine wl (ro_assign rfl) ?_
      refine wl_nil (x_blk (x_then (hK31 _ _ ?_)))
      clear hK31 K31
      refine c_reg ?_ -- region 32 check.go:140
      refine wl (ro_adT (m := i) (k := 1) rfl rfl (by omega)) ?_
      refine wl (ro_move rfl) ?_
      refine wl_nil (x_then ?_)
      exact ⟨V.clos.length - (i + 1), by omega, i + 1, rfl, by omega, hF.thenDrew, kp _ ⟨rfl, rfl, rfl, congrArg (fun z : Nat => some (i64c z)) hsu.symm, rfl, rfl, rfl, trivial⟩⟩
    · try simp only [decide_eq_true_eq, decide_eq_false_iff_not, Bool.not_eq_true', Bool.not_eq_false', Bool.not_eq_eq_eq_not, Bool.not_true, Bool.not_false, beq_iff_eq, bne_iff_ne, ne_eq, beq_eq_false_iff_ne, bne_eq_false_iff_eq, gt_iff_lt, ge_iff_le, Int.not_lt, Int.not_le] at hc272
      obtain rfl : i = V.clos.length := by omega
      rw [clsN_all, ← hux]
      refine c_exit (x_thenX (x_thenX (x_blkX (x_then (hK27 _ _ ?_)))))
      clear hK30 K30 hK27 K27
      refine c_seq (fun K35 hK35 => ?_)
      refine c_seq (fun K36 hK36 => ?_)
      refine c_reg ?_ -- region 33 check.go:146
      refine wl (ro_move rfl) ?_
      refine wl (ro_move rfl) ?_
      refine wl (ro_nilCheck rfl) ?_
      refine wl (ro_fieldAddr (k := 7) rfl fo_89_7) ?_
      refine wl (ro_loadB rfl sc_86 ((hF.blkN hM0)) (rfl)) ?_
      refine wl (ro_lenL rfl se_86) ?_
      refine wl (ro_cmp (r := false) rfl rfl (congrArg some (by simp))) ?_
      refine wl_nil (x_then (hK36 _ _ ?_))
      clear hK36 K36
      refine wc_condF rfl ?_
      refine c_skip (x_then (hK35 _ _ ?_))
      clear hK35 K35
      refine c_seq (fun K37 hK37 => ?_)
      refine c_seq (fun K38 hK38 => ?_)
      refine c_reg ?_ -- region 35 check.go:149
      refine wl (ro_move rfl) ?_
      refine wl (ro_nilCheck rfl) ?_
      refine wl (ro_fieldAddr (k := 7) rfl fo_89_7) ?_
      refine wl (ro_loadB rfl sc_86 ((hF.blkN hM0)) (rfl)) ?_
      refine wl (ro_lenL rfl se_86) ?_
      refine wl (ro_move rfl) ?_
      refine wl_nil (x_then (hK38 _ _ ?_))
      clear hK38 K38
      refine c_block ?_
      -- loop@r36: live slots [0, 1, 2, 323, 324, 325]
      refine c_loopG (fun n a' w' => ∃ i, n = x.ux.length - i ∧ i ≤ x.ux.length ∧ Fram none' w w' ∧ ∃ e, a' = Fr 401 (upds e [(0, ptr mb), (1, .int .i64 (-1)), (2, i64c 0), (323, .slice da7 x.ux.length (d.c 7)), (324, i64c x.ux.length), (325, i64c i)]) []) x.ux.length ⟨0, rfl, Nat.zero_le _, hF, kp _ ⟨rfl, rfl, rfl, rfl, rfl, rfl, trivial⟩⟩ ?_
      clear hF
      rintro n a' u1 ⟨i, rfl, hi, hF, e, rfl⟩
      refine c_seq (fun K39 hK39 => ?_)
      refine c_reg ?_ -- region 36 check.go:149
      refine wl (ro_cmp rfl rfl rfl) ?_
      refine wl_nil (x_then (hK39 _ _ ?_))
      clear hK39 K39
      refine forget [(0, _), (1, _), (2, _), (323, _), (324, _), (325, _), (326, _)] ⟨rfl, rfl, rfl, rfl, rfl, rfl, rfl, trivial⟩ (fun e => ?_)
      refine c_seq (fun K40 hK40 => ?_)
      refine wc_cond rfl (fun hc326 => ?_) (fun hc326 => ?_)
      · try simp only [decide_eq_true_eq, decide_eq_false_iff_not, Bool.not_eq_true', Bool.not_eq_false', Bool.not_eq_eq_eq_not, Bool.not_true, Bool.not_false, beq_iff_eq, bne_iff_ne, ne_eq, beq_eq_false_iff_ne, bne_eq_false_iff_eq, gt_iff_lt, ge_iff_le, Int.not_lt, Int.not_le] at hc326
        have hlt : i < x.ux.length := by omega
        obtain ⟨c, hc⟩ : ∃ c, x.ux[i]? = some c := ⟨_, List.getElem?_eq_getElem hlt⟩
        have hcl : c < V.cells.length := by
          have hm := List.mem_of_getElem? hc
          rw [hux] at hm
          obtain ⟨l, hl, hcm⟩ := List.mem_flatten.1 hm
          obtain ⟨⟨p, cs⟩, hm2, rfl⟩ := List.mem_map.1 hl
          obtain ⟨k, hk⟩ := List.mem_iff_getElem?.1 hm2
          exact (h8.co k p cs hk).2.2 c hcm
        obtain ⟨ug, ucap, ul, eu, hUg, -, k5u⟩ := OwT.one1 o7 (i := i) (u := i64c c) (by rw [List.getElem?_map, hc]; rfl) (by rw [List.length_map])
        obtain rfl : da7 = some ⟨ug, 0, none⟩ := by injection eu
        have q9 := k5u i (i64c c) (by rw [List.getElem?_map, hc]; rfl)
        refine c_skip (x_then (hK40 _ _ ?_))
        clear hK40 K40
        refine forget [(0, _), (1, _), (2, _), (323, _), (324, _), (325, _)] ⟨rfl, rfl, rfl, rfl, rfl, rfl, trivial⟩ (fun e => ?_)
        refine c_seq (fun K41 hK41 => ?_)
        refine c_block ?_
        refine c_seq (fun K42 hK42 => ?_)
        refine c_reg ?_ -- region 37 check.go:149
        refine wl (ro_indexAddr (et := 3) (k := 1) rfl rfl se_86 (rfl) (hlt)) ?_
        refine wl (ro_loadB rfl sc_3 ((hF.blkN hUg)) (q9)) ?_
        refine wl (ro_assign rfl) ?_
        refine wl_nil (x_then (hK42 _ _ ?_))
        clear hK42 K42
        refine forget [(0, _), (1, _), (2, _), (17, _), (323, _), (324, _), (325, _)] ⟨rfl, rfl, rfl, rfl, rfl, rfl, rfl, trivial⟩ (fun e => ?_)
        refine c_seq (fun K43 hK43 => ?_)
        refine c_reg ?_ -- region 38 check.go:150
        refine wl (ro_move rfl) ?_
        refine wl (ro_cmp (r := false) rfl rfl (congrArg some (decide_eq_false (by omega)))) ?_
        refine wl (ro_move rfl) ?_
        refine wlg_yes rfl (ro_move rfl) ?_
        refine wlg_yes rfl (ro_move rfl) ?_
        refine wlg_yes rfl (ro_nilCheck rfl) ?_
        refine wlg_yes rfl (ro_fieldAddr (k := 8) rfl fo_89_8) ?_
        refine wlg_yes rfl (ro_loadB rfl sc_87 ((hF.blkN hM0)) (rfl)) ?_
        refine wlg_yes rfl (ro_lenL rfl se_87) ?_
        refine wlg_yes rfl (ro_cmp (r := false) rfl rfl (congrArg some (decide_eq_false (by omega)))) ?_
        refine wl (ro_pick rfl rfl rfl) ?_
        refine wl_nil (x_then (hK43 _ _ ?_))
        clear hK43 K43
        refine wc_condF rfl ?_
        refine c_skip (x_blk (x_then (hK41 _ _ ?_)))
        clear hK41 K41
        refine c_reg ?_ -- region 40 check.go:149
        refine wl (ro_adT (m := i) (k := 1) rfl rfl (by omega)) ?_
        refine wl (ro_move rfl) ?_
        refine wl_nil (x_then ?_)
        exact ⟨x.ux.length - (i + 1), by omega, i + 1, rfl, by omega, hF, kp _ ⟨rfl, rfl, rfl, rfl, rfl, rfl, trivial⟩⟩
      · try simp only [decide_eq_true_eq, decide_eq_false_iff_not, Bool.not_eq_true', Bool.not_eq_false', Bool.not_eq_eq_eq_not, Bool.not_true, Bool.not_false, beq_iff_eq, bne_iff_ne, ne_eq, beq_eq_false_iff_ne, bne_eq_false_iff_eq, gt_iff_lt, ge_iff_le, Int.not_lt, Int.not_le] at hc326
        refine c_exit (x_thenX (x_thenX (x_blkX (x_then (hK37 _ _ ?_)))))
        clear hK40 K40 hK37 K37
        refine forget [(0, _), (1, _), (2, _)] ⟨rfl, rfl, rfl, trivial⟩ (fun e => ?_)
        refine c_seq (fun K44 hK44 => ?_)
        refine c_reg ?_ -- region 41 check.go:154
        refine wl (ro_assign rfl) ?_
        refine wl_nil (x_then (hK44 _ _ ?_))
        clear hK44 K44
        refine c_seq (fun K45 hK45 => ?_)
        refine c_seq (fun K46 hK46 => ?_)
        refine c_reg ?_ -- region 42 check.go:155
        refine wl (ro_move rfl) ?_
        refine wl (ro_nilCheck rfl) ?_
        refine wl (ro_fieldAddr (k := 9) rfl fo_89_9) ?_
        refine wl (ro_loadB rfl sc_80 ((hF.blkN hM0)) (rfl)) ?_
        refine wl (ro_lenL rfl se_80) ?_
        refine wl (ro_move rfl) ?_
        refine wl_nil (x_then (hK46 _ _ ?_))
        clear hK46 K46
        refine c_block ?_
        -- loop@r43: live slots [0, 1, 2, 18, 345, 346]
        refine c_loopG (fun n a' w' => ∃ i, n = V.ths.length - i ∧ i ≤ V.ths.length ∧ Fram none' w w' ∧ ∃ e, a' = Fr 401 (upds e [(0, ptr mb), (1, .int .i64 (-1)), (2, i64c 0), (18, i64c (opS V i)), (345, i64c V.ths.length), (346, i64c i)]) []) V.ths.length ⟨0, rfl, Nat.zero_le _, hF, kp _ ⟨rfl, rfl, rfl, rfl, rfl, rfl, trivial⟩⟩ ?_
        clear hF
        rintro n a' u1 ⟨i, rfl, hi, hF, e, rfl⟩
        refine c_seq (fun K47 hK47 => ?_)
        refine c_reg ?_ -- region 43 check.go:155
        refine wl (ro_cmp rfl rfl rfl) ?_
        refine wl_nil (x_then (hK47 _ _ ?_))
        clear hK47 K47
        refine forget [(0, _), (1, _), (2, _), (18, _), (345, _), (346, _), (347, _)] ⟨rfl, rfl, rfl, rfl, rfl, rfl, rfl, trivial⟩ (fun e => ?_)
        refine c_seq (fun K48 hK48 => ?_)
        refine wc_cond rfl (fun hc347 => ?_) (fun hc347 => ?_)
        · try simp only [decide_eq_true_eq, decide_eq_false_iff_not, Bool.not_eq_true', Bool.not_eq_false', Bool.not_eq_eq_eq_not, Bool.not_true, Bool.not_false, beq_iff_eq, bne_iff_ne, ne_eq, beq_eq_false_iff_ne, bne_eq_false_iff_eq, gt_iff_lt, ge_iff_le, Int.not_lt, Int.not_le] at hc347
          have hlt : i < V.ths.length := by omega
          obtain ⟨y, hy⟩ : ∃ y, V.ths[i]? = some y := ⟨_, List.getElem?_eq_getElem hlt⟩
          obtain ⟨lT, hT0, hrow⟩ := h.row hy
          have r4 := hrow 4 _ rfl
          have hos := opS_succ hy
          have hob := htake (i + 1)
          refine c_skip (x_then (hK48 _ _ ?_))
          clear hK48 K48
          refine forget [(0, _), (1, _), (2, _), (18, _), (345, _), (346, _)] ⟨rfl, rfl, rfl, rfl, rfl, rfl, trivial⟩ (fun e => ?_)
          refine c_seq (fun K49 hK49 => ?_)
          refine c_block ?_
          refine c_seq (fun K50 hK50 => ?_)
          refine c_reg ?_ -- region 44 check.go:155
          refine wl (ro_move rfl) ?_
          refine wl (ro_assign rfl) ?_
          refine wl_nil (x_then (hK50 _ _ ?_))
          clear hK50 K50
          refine forget [(0, _), (1, _), (2, _), (18, _), (19, _), (345, _), (346, _)] ⟨rfl, rfl, rfl, rfl, rfl, rfl, rfl, trivial⟩ (fun e => ?_)
          refine c_seq (fun K51 hK51 => ?_)
          refine c_reg ?_ -- region 45 check.go:156
          refine wl (ro_assign rfl) ?_
          refine wl_nil (x_then (hK51 _ _ ?_))
          clear hK51 K51
          refine c_seq (fun K52 hK52 => ?_)
          refine c_seq (fun K53 hK53 => ?_)
          refine c_reg ?_ -- region 46 check.go:157
          refine wl (ro_move rfl) ?_
          refine wl (ro_move rfl) ?_
          refine wl (ro_cmp (r := false) rfl rfl (congrArg some (decide_eq_false (by omega)))) ?_
          refine wl_nil (x_then (hK53 _ _ ?_))
          clear hK53 K53
          refine wc_condF rfl ?_
          refine c_skip (x_then (hK52 _ _ ?_))
          clear hK52 K52
          refine forget [(0, _), (1, _), (2, _), (18, _), (19, _), (20, _), (345, _), (346, _)] ⟨rfl, rfl, rfl, rfl, rfl, rfl, rfl, rfl, trivial⟩ (fun e => ?_)
          refine c_seq (fun K54 hK54 => ?_)
          refine c_reg ?_ -- region 48 check.go:160
          refine wl (ro_move rfl) ?_
          refine wl (ro_move rfl) ?_
          refine wl (ro_move rfl) ?_
          refine wl (ro_move rfl) ?_
          refine wl (ro_cmp (r := false) rfl rfl (congrArg some (decide_eq_false (by omega)))) ?_
          refine wl (ro_move rfl) ?_
          refine wl_call rfl en_250 (thread250 (h.farN hF) hy) ?_
          rintro _ w5 ⟨rfl, F5⟩
          replace hF := hF.thenDrew.thenN F5
          refine wl (ro_assign rfl) ?_
          refine wl_nil (x_then (hK54 _ _ ?_))
          clear hK54 K54
          refine c_seq (fun K55 hK55 => ?_)
          refine c_seq (fun K56 hK56 => ?_)
          refine c_reg ?_ -- region 49 check.go:161
          refine wl (ro_move rfl) ?_
          refine wl (ro_not rfl) ?_
          refine wl_nil (x_then (hK56 _ _ ?_))
          clear hK56 K56
          refine wc_condF rfl ?_
          refine c_skip (x_then (hK55 _ _ ?_))
          clear hK55 K55
          refine c_reg ?_ -- region 51 check.go:164
          refine wl (ro_move rfl) ?_
          refine wl (ro_move rfl) ?_
          refine wl (ro_nilCheck rfl) ?_
          refine wl (ro_fieldAddr (k := 9) rfl fo_89_9) ?_
          refine wl (ro_loadB rfl sc_80 ((hF.blkN hM0)) (rfl)) ?_
          refine wl (ro_move rfl) ?_
          refine wl (ro_indexAddr (et := 269) (k := 5) rfl rfl se_80 (rfl) (hlt)) ?_
          refine wl (ro_fieldAddr (k := 4) rfl fo_269_4) ?_
          refine wl (ro_loadB rfl sc_86 ((hF.blkN hT0)) (r4)) ?_
          refine wl (ro_lenL rfl se_86) ?_
          refine wl (ro_adT (m := opS V i) (k := y.opn.length) rfl rfl (by omega)) ?_
          refine wl (ro_assign rfl) ?_
          refine wl_nil (x_blk (x_then (hK49 _ _ ?_)))
          clear hK49 K49
          refine c_reg ?_ -- region 52 check.go:155
          refine wl (ro_adT (m := i) (k := 1) rfl rfl (by omega)) ?_
          refine wl (ro_move rfl) ?_
          refine wl_nil (x_then ?_)
          exact ⟨V.ths.length - (i + 1), by omega, i + 1, rfl, by omega, hF, kp _ ⟨rfl, rfl, rfl, congrArg (fun z : Nat => some (i64c z)) hos.symm, rfl, rfl, trivial⟩⟩
        · try simp only [decide_eq_true_eq, decide_eq_false_iff_not, Bool.not_eq_true', Bool.not_eq_false', Bool.not_eq_eq_eq_not, Bool.not_true, Bool.not_false, beq_iff_eq, bne_iff_ne, ne_eq, beq_eq_false_iff_ne, bne_eq_false_iff_eq, gt_iff_lt, ge_iff_le, Int.not_lt, Int.not_le] at hc347
          obtain rfl : i = V.ths.length := by omega
          rw [hopS]
          refine c_exit (x_thenX (x_thenX (x_blkX (x_then (hK45 _ _ ?_)))))
          clear hK48 K48 hK45 K45
          refine c_seq (fun K57 hK57 => ?_)
          refine c_seq (fun K58 hK58 => ?_)
          refine c_reg ?_ -- region 53 check.go:166
          refine wl (ro_move rfl) ?_
          refine wl (ro_nilCheck rfl) ?_
          refine wl (ro_fieldAddr (k := 8) rfl fo_89_8) ?_
          refine wl (ro_loadB rfl sc_87 ((hF.blkN hM0)) (rfl)) ?_
          refine wl (ro_lenL rfl se_87) ?_
          refine wl (ro_move rfl) ?_
          refine wl_nil (x_then (hK58 _ _ ?_))
          clear hK58 K58
          refine c_block ?_
          -- loop@r54: live slots [0, 18, 377, 378, 379]
          refine c_loopG (fun n a' w' => ∃ i, n = V.cells.length - i ∧ i ≤ V.cells.length ∧ Fram none' w w' ∧ ∃ e, a' = Fr 401 (upds e [(0, ptr mb), (18, i64c (ceS V V.cells.length - ceS V i)), (377, .slice da8 V.cells.length (d.c 8)), (378, i64c V.cells.length), (379, i64c i)]) []) V.cells.length ⟨0, rfl, Nat.zero_le _, hF, kp _ ⟨rfl, rfl, rfl, rfl, rfl, trivial⟩⟩ ?_
          clear hF
          rintro n a' u1 ⟨i, rfl, hi, hF, e, rfl⟩
          refine c_seq (fun K59 hK59 => ?_)
          refine c_reg ?_ -- region 54 check.go:166
          refine wl (ro_cmp rfl rfl rfl) ?_
          refine wl_nil (x_then (hK59 _ _ ?_))
          clear hK59 K59
          refine forget [(0, _), (18, _), (377, _), (378, _), (379, _), (380, _)] ⟨rfl, rfl, rfl, rfl, rfl, rfl, trivial⟩ (fun e => ?_)
          refine c_seq (fun K60 hK60 => ?_)
          refine wc_cond rfl (fun hc380 => ?_) (fun hc380 => ?_)
          · try simp only [decide_eq_true_eq, decide_eq_false_iff_not, Bool.not_eq_true', Bool.not_eq_false', Bool.not_eq_eq_eq_not, Bool.not_true, Bool.not_false, beq_iff_eq, bne_iff_ne, ne_eq, beq_eq_false_iff_ne, bne_eq_false_iff_eq, gt_iff_lt, ge_iff_le, Int.not_lt, Int.not_le] at hc380
            have hlt : i < V.cells.length := by omega
            obtain ⟨c, hc⟩ : ∃ c, V.cells[i]? = some c := ⟨_, List.getElem?_eq_getElem hlt⟩
            obtain ⟨eg, ecap, el, ee, hEg, -, -, -, -, k5e⟩ := OwT.at cec_len o8 hc
            obtain rfl : da8 = some ⟨eg, 0, none⟩ := by injection ee
            have hk5 := k5e i c hc
            have hcs := ceS_succ hc
            have hcz := h.z.d.c c (List.mem_of_getElem? hc)
            have hcle : ceS V (i + 1) ≤ ceS V V.cells.length := by
              unfold ceS
              rw [List.take_length]
              conv => rhs; rw [← List.take_append_drop (i + 1) V.cells]
              rw [List.countP_append]
              omega
            refine c_skip (x_then (hK60 _ _ ?_))
            clear hK60 K60
            refine forget [(0, _), (18, _), (377, _), (378, _), (379, _)] ⟨rfl, rfl, rfl, rfl, rfl, trivial⟩ (fun e => ?_)
            refine c_seq (fun K61 hK61 => ?_)
            refine c_block ?_
            refine c_seq (fun K62 hK62 => ?_)
            refine c_reg ?_ -- region 55 check.go:166
            refine wl (ro_indexAddr (et := 413) (k := 5) rfl rfl se_87 (rfl) (hlt)) ?_
            refine wl (ro_loadAggB rfl ag_413 ((hF.blkN hEg)) ((cec_len _)) (hk5)) ?_
            refine wl_new (ze_413) (fun b23 w6 hbb23 h23 F6 => ?_)
            have hbsb23 := Nat.le_trans hF.size hbb23
            replace hF := hF.thenDrew.thenN F6
            refine wl_puta rfl rfl ((cec_one _)) sz_413 (rfl) h23 ((by simp)) (rfl) (fun w7 h23 F7 => ?_)
            replace hF := hF.thenDrew.thenO F7 (by first | exact .inr (by omega) | exact .inl rfl | exact .inl (by assumption) | assumption)
            refine wl_nil (x_then (hK62 _ _ ?_))
            clear hK62 K62
            refine forget [(0, _), (18, _), (23, _), (377, _), (378, _), (379, _)] ⟨rfl, rfl, rfl, rfl, rfl, rfl, trivial⟩ (fun e => ?_)
            refine c_seq (fun K63 hK63 => ?_)
            rcases hct : c.th with _ | tt
            · skip
              rw [hct] at hcs
              have hcs : ceS V (i + 1) = ceS V i := hcs
              have hpl := hcz.1 hct
              unfold cec at h23
              rw [hct] at h23
              refine c_reg ?_ -- region 56 check.go:167
              refine wl (ro_fieldAddr (k := 0) rfl fo_413_0) ?_
              refine wl (ro_loadB rfl sc_3 (h23) (rfl)) ?_
              refine wl (ro_cmp (r := false) rfl rfl rfl) ?_
              refine wl_nil (x_then (hK63 _ _ ?_))
              clear hK63 K63
              refine wc_condF rfl ?_
              refine c_seq (fun K64 hK64 => ?_)
              refine c_reg ?_ -- region 58 check.go:169
              refine wl (ro_fieldAddr (k := 0) rfl fo_413_0) ?_
              refine wl (ro_loadB rfl sc_3 (h23) (rfl)) ?_
              refine wl (ro_cmp (r := false) rfl rfl rfl) ?_
              refine wl (ro_move rfl) ?_
              refine wlg_yes rfl (ro_fieldAddr (k := 1) rfl fo_413_1) ?_
              refine wlg_yes rfl (ro_loadB rfl sc_3 (h23) (rfl)) ?_
              refine wlg_yes rfl (ro_cmp (r := false) rfl rfl (congrArg some (by simp; omega))) ?_
              refine wl (ro_pick rfl rfl rfl) ?_
              refine wl_nil (x_then (hK64 _ _ ?_))
              clear hK64 K64
              refine wc_condF rfl ?_
              refine c_skip (x_blk (x_then (hK61 _ _ ?_)))
              clear hK61 K61
              refine c_reg ?_ -- region 60 check.go:166
              refine wl (ro_adT (m := i) (k := 1) rfl rfl (by omega)) ?_
              refine wl (ro_move rfl) ?_
              refine wl_nil (x_then ?_)
              exact ⟨V.cells.length - (i + 1), by omega, i + 1, rfl, by omega, hF, kp _ ⟨rfl, congrArg (fun z : Nat => some (i64c z)) (by omega), rfl, rfl, rfl, trivial⟩⟩
            · skip
              rw [hct] at hcs
              have hcs : ceS V (i + 1) = ceS V i + 1 := hcs
              unfold cec at h23
              rw [hct] at h23
              refine c_reg ?_ -- region 56 check.go:167
              refine wl (ro_fieldAddr (k := 0) rfl fo_413_0) ?_
              refine wl (ro_loadB rfl sc_3 (h23) (rfl)) ?_
              refine wl (ro_cmp (r := true) rfl rfl (congrArg some (decide_eq_true (by omega)))) ?_
              refine wl_nil (x_then (hK63 _ _ ?_))
              clear hK63 K63
              refine wc_condT rfl ?_
              refine c_reg ?_ -- region 57 check.go:168
              refine wl (ro_move rfl) ?_
              refine wl (ro_arith (r := ((ceS V V.cells.length - ceS V (i + 1) : Nat) : Int)) rfl rfl (congrArg some (by omega)) (Go.IntWalk.i64_in _ (by omega))) ?_
              refine wl (ro_assign rfl) ?_
              refine wl_nil (x_blk (x_then (hK61 _ _ ?_)))
              clear hK61 K61
              refine c_reg ?_ -- region 60 check.go:166
              refine wl (ro_adT (m := i) (k := 1) rfl rfl (by omega)) ?_
              refine wl (ro_move rfl) ?_
              refine wl_nil (x_then ?_)
              exact ⟨V.cells.length - (i + 1), by omega, i + 1, rfl, by omega, hF, kp _ ⟨rfl, rfl, rfl, rfl, rfl, trivial⟩⟩
          · try simp only [decide_eq_true_eq, decide_eq_false_iff_not, Bool.not_eq_true', Bool.not_eq_false', Bool.not_eq_eq_eq_not, Bool.not_true, Bool.not_false, beq_iff_eq, bne_iff_ne, ne_eq, beq_eq_false_iff_ne, bne_eq_false_iff_eq, gt_iff_lt, ge_iff_le, Int.not_lt, Int.not_le] at hc380
            obtain rfl : i = V.cells.length := by omega
            rw [Nat.sub_self]
            refine c_exit (x_thenX (x_thenX (x_blkX (x_then (hK57 _ _ ?_)))))
            clear hK60 K60 hK57 K57
            refine c_seq (fun K65 hK65 => ?_)
            refine c_seq (fun K66 hK66 => ?_)
            refine c_reg ?_ -- region 61 check.go:173
            refine wl (ro_move rfl) ?_
            refine wl (ro_cmp (r := false) rfl rfl (congrArg some (by simp))) ?_
            refine wl_nil (x_then (hK66 _ _ ?_))
            clear hK66 K66
            refine wc_condF rfl ?_
            refine c_skip (x_then (hK65 _ _ ?_))
            clear hK65 K65
            refine forget [(0, _)] ⟨rfl, trivial⟩ (fun e => ?_)
            refine c_seq (fun K67 hK67 => ?_)
            refine c_reg ?_ -- region 63 check.go:176
            refine wl (ro_move rfl) ?_
            refine wl_call rfl en_251 (vals251 (E := ⟨mb, tb, ptr nb, ptr xb⟩) (h.farN hF.thenDrew) rfl) ?_
            rintro _ w8 ⟨rfl, F8⟩
            replace hF := hF.thenDrew.thenN F8
            refine wl (ro_assign rfl) ?_
            refine wl_nil (x_then (hK67 _ _ ?_))
            clear hK67 K67
            refine c_ret ?_
            refine bp_ret Tryz.results208 rfl ?_
            exact ⟨rfl, hF⟩
theorem check208 (h : VT ⟨mb, tb, ptr nb, ptr xb⟩ nb xb w ow L T) (hc : Ck L T) : Ret Tryz.prog 208 [ptr mb, .int .i64 (-1), i64c 0] w (fun r w' => r = .bool true ∧ Fram none' w w') := by
  obtain ⟨⟨fuel, out, c1, c2, c3⟩, ⟨e, hz⟩ | ⟨F, V, s, κ, c4, c5, c6, c7⟩⟩ := hc
  · exact check208z h c1 c2 c3 hz
  · subst c6
    obtain ⟨d, x, hk⟩ := VSL.mkk h.m h.t c4 c5 c7
    exact check208l hk
theorem vmCheck153 (h : VT ⟨mb, tb, ptr nb, ptr xb⟩ nb xb w ow L T) (hc : Ck L T) (hN : NumB nb w ow) : Ret Tryz.prog 153 [ptr mb] w (fun r w' => r = .bool true ∧ Fram none' w w') := by
  have hF : Fram none' w w := Fram.refl _ _
  obtain ⟨Vv, U, op⟩ := h.m
  have hM : Blk w.heap mb _ 89 := op.m
  unfold mbc at hM
  obtain ⟨bb, l, n1, -⟩ := hN
  have n10 := n1
  refine ret_of Tryz.func153 rfl Tryz.ntmps153 rfl ?_
  refine c_seq (fun K1 hK1 => ?_)
  refine c_reg ?_ -- region 0 check.go:95
  refine wl (ro_assign rfl) ?_
  refine wl_nil (x_then (hK1 _ _ ?_))
  clear hK1 K1
  refine c_seq (fun K2 hK2 => ?_)
  refine c_seq (fun K3 hK3 => ?_)
  refine c_reg ?_ -- region 1 check.go:96
  refine wl (ro_move rfl) ?_
  refine wl (ro_nilCheck rfl) ?_
  refine wl (ro_fieldAddr (k := 0) rfl fo_89_0) ?_
  refine wl (ro_loadB rfl sc_36 (hM) (rfl)) ?_
  refine wl_call rfl en_206 (numCheck206 (hF.blkN n10)) ?_
  rintro _ w1 ⟨rfl, F1⟩
  replace hF := hF.thenDrew.thenN F1
  replace hM := F1.blkN hM
  refine wl (ro_not rfl) ?_
  refine wl_nil (x_then (hK3 _ _ ?_))
  clear hK3 K3
  refine wc_condF rfl ?_
  refine c_skip (x_then (hK2 _ _ ?_))
  clear hK2 K2
  refine c_seq (fun K4 hK4 => ?_)
  refine c_seq (fun K5 hK5 => ?_)
  refine c_reg ?_ -- region 3 check.go:99
  refine wl (ro_move rfl) ?_
  refine wl (ro_nilCheck rfl) ?_
  refine wl (ro_fieldAddr (k := 1) rfl fo_89_1) ?_
  refine wl (ro_loadB rfl sc_38 (hM) (rfl)) ?_
  refine wl_call rfl en_207 (tabCheck207 (h.t.far hF (fun _ _ _ q ↦ q) (Xt.refl _ _))) ?_
  rintro _ w2 ⟨rfl, F2⟩
  replace hF := hF.thenDrew.thenN F2
  replace hM := F2.blkN hM
  refine wl (ro_not rfl) ?_
  refine wl_nil (x_then (hK5 _ _ ?_))
  clear hK5 K5
  refine wc_condF rfl ?_
  refine c_skip (x_then (hK4 _ _ ?_))
  clear hK4 K4
  refine forget [(0, _)] ⟨rfl, trivial⟩ (fun e => ?_)
  refine c_seq (fun K6 hK6 => ?_)
  refine c_reg ?_ -- region 5 check.go:102
  refine wl (ro_move rfl) ?_
  refine wl_call rfl en_208 (check208 (⟨h.m.thruN hF, h.t.far hF (fun _ _ _ q ↦ q) (Xt.refl _ _)⟩) hc) ?_
  rintro _ w3 ⟨rfl, F3⟩
  replace hF := hF.thenDrew.thenN F3
  replace hM := F3.blkN hM
  refine wl (ro_assign rfl) ?_
  refine wl_nil (x_then (hK6 _ _ ?_))
  clear hK6 K6
  refine c_ret ?_
  refine bp_ret Tryz.results153 rfl ?_
  exact ⟨rfl, hF⟩
theorem coCheck95 (h : VT ⟨mb, tb, ptr nb, ptr xb⟩ nb xb w ow L T) (hc : Ck L T) (hN : NumB nb w ow) {f : Nat} (hD : Blk w.heap db [ptr mb, i64c f, .int .i64 0] 91) (h5 : f < 5) : Ret Tryz.prog 95 [ptr db] w (fun r w' => r = .bool true ∧ Fram none' w w') := by
  have hF : Fram none' w w := Fram.refl _ _
  refine ret_of Tryz.func95 rfl Tryz.ntmps95 rfl ?_
  refine c_seq (fun K1 hK1 => ?_)
  refine c_reg ?_ -- region 0 co.go:99
  refine wl (ro_assign rfl) ?_
  refine wl_nil (x_then (hK1 _ _ ?_))
  clear hK1 K1
  refine c_seq (fun K2 hK2 => ?_)
  refine c_seq (fun K3 hK3 => ?_)
  refine c_reg ?_ -- region 1 co.go:100
  refine wl (ro_move rfl) ?_
  refine wl (ro_nilCheck rfl) ?_
  refine wl (ro_fieldAddr (k := 0) rfl fo_91_0) ?_
  refine wl (ro_loadB rfl sc_42 (hD) (rfl)) ?_
  refine wl_call rfl en_153 (vmCheck153 (⟨h.m.thruN hF, h.t.far hF (fun _ _ _ q ↦ q) (Xt.refl _ _)⟩) hc (by obtain ⟨bb, l, n1, n2, n3⟩ := hN; exact ⟨bb, l, hF.blkN n1, hF.blkN n2, n3⟩)) ?_
  rintro _ w1 ⟨rfl, F1⟩
  replace hF := hF.thenDrew.thenN F1
  replace hD := F1.blkN hD
  refine wl (ro_not rfl) ?_
  refine wl_nil (x_then (hK3 _ _ ?_))
  clear hK3 K3
  refine wc_condF rfl ?_
  refine c_skip (x_then (hK2 _ _ ?_))
  clear hK2 K2
  refine forget [(0, _)] ⟨rfl, trivial⟩ (fun e => ?_)
  refine c_seq (fun K4 hK4 => ?_)
  refine c_reg ?_ -- region 3 co.go:103
  refine wl (ro_move rfl) ?_
  refine wl (ro_nilCheck rfl) ?_
  refine wl (ro_fieldAddr (k := 2) rfl fo_91_2) ?_
  refine wl (ro_loadB rfl sc_3 (hD) (rfl)) ?_
  refine wl (ro_cmp (r := true) rfl rfl rfl) ?_
  refine wl (ro_move rfl) ?_
  refine wlg_yes rfl (ro_move rfl) ?_
  refine wlg_yes rfl (ro_nilCheck rfl) ?_
  refine wlg_yes rfl (ro_fieldAddr (k := 1) rfl fo_91_1) ?_
  refine wlg_yes rfl (ro_loadB rfl sc_3 (hD) (rfl)) ?_
  refine wlg_yes rfl (ro_cmp (r := true) rfl rfl (congrArg some (decide_eq_true (by omega)))) ?_
  refine wl (ro_pick rfl rfl rfl) ?_
  refine wl (ro_move rfl) ?_
  refine wlg_yes rfl (ro_move rfl) ?_
  refine wlg_yes rfl (ro_nilCheck rfl) ?_
  refine wlg_yes rfl (ro_fieldAddr (k := 1) rfl fo_91_1) ?_
  refine wlg_yes rfl (ro_loadB rfl sc_3 (hD) (rfl)) ?_
  refine wlg_yes rfl (ro_cmp (r := true) rfl rfl (congrArg some (decide_eq_true (by omega)))) ?_
  refine wl (ro_pick rfl rfl rfl) ?_
  refine wl (ro_assign rfl) ?_
  refine wl_nil (x_then (hK4 _ _ ?_))
  clear hK4 K4
  refine c_ret ?_
  refine bp_ret Tryz.results95 rfl ?_
  exact ⟨rfl, hF⟩
theorem coLeft44 {f : Value} (hD : Blk w.heap db [ptr mb, f, .int .i64 0] 91) : Ret Tryz.prog 44 [ptr db] w (fun r w' => r = i64c 0 ∧ Fram none' w w') := by
  have hF : Fram none' w w := Fram.refl _ _
  refine ret_of Tryz.func44 rfl Tryz.ntmps44 rfl ?_
  refine c_seq (fun K1 hK1 => ?_)
  refine c_reg ?_ -- region 0 co.go:93
  refine wl (ro_assign rfl) ?_
  refine wl_nil (x_then (hK1 _ _ ?_))
  clear hK1 K1
  refine forget [(0, _)] ⟨rfl, trivial⟩ (fun e => ?_)
  refine c_seq (fun K2 hK2 => ?_)
  refine c_reg ?_ -- region 1 co.go:93
  refine wl (ro_move rfl) ?_
  refine wl (ro_nilCheck rfl) ?_
  refine wl (ro_fieldAddr (k := 2) rfl fo_91_2) ?_
  refine wl (ro_loadB rfl sc_3 (hD) (rfl)) ?_
  refine wl (ro_assign rfl) ?_
  refine wl_nil (x_then (hK2 _ _ ?_))
  clear hK2 K2
  refine c_ret ?_
  refine bp_ret Tryz.results44 rfl ?_
  exact ⟨rfl, hF⟩
theorem compLeft45 {f sp a1 a2 a3 a4 : Value} {cb : Nat} (hC : Blk w.heap cb [sp, ptr db, a1, a2, a3, a4] 94) (hD : Blk w.heap db [ptr mb, f, .int .i64 0] 91) : Ret Tryz.prog 45 [ptr cb] w (fun r w' => r = i64c 0 ∧ Fram none' w w') := by
  have hF : Fram none' w w := Fram.refl _ _
  refine ret_of Tryz.func45 rfl Tryz.ntmps45 rfl ?_
  refine c_seq (fun K1 hK1 => ?_)
  refine c_reg ?_ -- region 0 comp.go:52
  refine wl (ro_assign rfl) ?_
  refine wl_nil (x_then (hK1 _ _ ?_))
  clear hK1 K1
  refine forget [(0, _)] ⟨rfl, trivial⟩ (fun e => ?_)
  refine c_seq (fun K2 hK2 => ?_)
  refine c_reg ?_ -- region 1 comp.go:52
  refine wl (ro_move rfl) ?_
  refine wl (ro_nilCheck rfl) ?_
  refine wl (ro_fieldAddr (k := 1) rfl fo_94_1) ?_
  refine wl (ro_loadB rfl sc_29 (hC) (rfl)) ?_
  refine wl_call rfl en_44 (coLeft44 (hF.blkN hD)) ?_
  rintro _ w1 ⟨rfl, F1⟩
  replace hF := hF.thenDrew.thenN F1
  replace hC := F1.blkN hC
  refine wl (ro_assign rfl) ?_
  refine wl_nil (x_then (hK2 _ _ ?_))
  clear hK2 K2
  refine c_ret ?_
  refine bp_ret Tryz.results45 rfl ?_
  exact ⟨rfl, hF⟩
theorem compShow46 {cb : Nat} : Ret Tryz.prog 46 [ptr cb] w (fun r w' => r = S [] ∧ Fram none' w w') := by
  have hF : Fram none' w w := Fram.refl _ _
  refine ret_of Tryz.func46 rfl Tryz.ntmps46 rfl ?_
  refine c_seq (fun K1 hK1 => ?_)
  refine c_reg ?_ -- region 0 comp.go:55
  refine wl (ro_assign rfl) ?_
  refine wl_nil (x_then (hK1 _ _ ?_))
  clear hK1 K1
  refine forget [] trivial (fun e => ?_)
  refine c_seq (fun K2 hK2 => ?_)
  refine c_reg ?_ -- region 1 comp.go:55
  refine wl (ro_assign rfl) ?_
  refine wl_nil (x_then (hK2 _ _ ?_))
  clear hK2 K2
  refine c_ret ?_
  refine bp_ret Tryz.results46 rfl ?_
  exact ⟨rfl, hF⟩
end
end Go.Proofs.Qxb6500568aGreatDoor
