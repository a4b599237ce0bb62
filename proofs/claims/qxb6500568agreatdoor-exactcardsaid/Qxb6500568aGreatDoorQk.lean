import Derived.Test.Qxb6500568aGreatDoorQj
/- The machine: its loop. -/
namespace Go.Proofs.Qxb6500568aGreatDoor
open Ieee
set_option linter.unusedVariables false
set_option linter.unusedSimpArgs false
set_option linter.unusedSectionVars false

section
variable {C : VC} {w : World} {ow : Nat → Nat} {s b : AS} {n cu : Nat}
/-- the thread that waits for this one is in the state of waiting. -/
def HS (s : AS) : Prop := ∀ c r, s.stack = c :: r → (thA s.ths c).st = 3
theorem TS.hs {s : AS} (h : TS s.cur s.stack s.ths) : hs s = 3 := by
  unfold Go.Proofs.Qxb6500568aGreatDoor.hs
  cases e : s.stack with
  | nil => rfl
  | cons c r =>
    dsimp only
    split
    · rfl
    · exact (h.sk c (by rw [e]; exact List.mem_cons_self)).2.1
theorem HS.of {s s' : AS} (h : TS s.cur s.stack s.ths) (hk : kN s' = kN s) (h3 : hs s' = 3) : HS s' := by
  intro c r e
  have h1 : s'.cur = s.cur := congrArg Prod.fst hk
  have h2 : s'.stack = s.stack := congrArg (fun q => q.2.1) hk
  unfold hs at h3
  rw [e] at h3
  dsimp only at h3
  rw [if_neg] at h3
  · exact h3
  · intro q
    have := h.nd
    rw [← h1, ← h2, e, q] at this
    exact (List.nodup_cons.1 this).1 List.mem_cons_self
/-- the loop's answer. -/
def LoR (C : VC) (b : AS) (n0 : Nat) (c : Nat × List Nat × Nat × Bool) (w : World) (ow : Nat → Nat) (r : Value) (w' : World) : Prop := ∃ n z ow' s1, n < n0 ∧ LI C b n z ∧ Xt w ow ow' ∧ Fram (tg ow vtT) w w' ∧ AMq C w' ow' s1 ∧ kN s1 = c ∧
  ((∃ v u, r = vevv 1 0 0 v u ∧ HS s1 ∧ (wfV v = true ∧ W64 v.N) ∧ aback true v s1 = z) ∨ (∃ k v, r = vevv 4 k 0 v vNil ∧ rsm (Psf C.F) k v s1 = z ∧ k < s1.ths.length ∧ ((thA s1.ths k).st = 1 ∧ (thA s1.ths k).frs = [] ∨ (thA s1.ths k).st = 2) ∧ VV s1.clos.length s1.ths.length s1.tabs.length v) ∨ (∃ v, r = vevv 3 0 0 v vNil ∧ s1.cur ≠ 0 ∧ HS s1 ∧ yld v s1 = z))
def LoE (C : VC) (b : AS) (n0 : Nat) (c : Nat × List Nat × Nat × Bool) (w : World) (ow : Nat → Nat) (pv : Value) (w' : World) : Prop := ∃ n z, n < n0 ∧ LI C b n z ∧ AE C (c, 3) w ow z pv w'
theorem PE.far {u : World} {ow' : Nat → Nat} {fg fc p op z : Nat} {ids : List Nat} {a : AS} {y : ATh} {gs : List AFr} {g : AFr} {vars : List PV} (E : PE C fg fc w ow a y gs g vars p ids op z) (hR : AM C fg fc u ow' (mkA a y gs g vars)) : PE C fg fc u ow' a y gs g vars p ids op z := { E with r := hR }
theorem AO.stF {u : World} {fg fc : Nat} {a : AS} {y : ATh} {gs : List AFr} {g : AFr} {vars : List PV} {V : VS} {κ : List Nat} {Vv : Nat → Value} {U : Nat → Nat → Value} {x : VTh} {f : VFr} {fs : List VFr} (o : AO C fg fc u ow a y gs g vars V κ Vv U x f fs) : ∃ va vc, U a.cur 2 = .slice va x.stack.length vc := by
  obtain ⟨L, op, vl⟩ := o.v.ex
  exact (op.sk vl o.t.hx o.lt).form
theorem PE.ast {op x p : Nat} {ids : List Nat} {fg fc : Nat} {a : AS} {y : ATh} {gs : List AFr} {g : AFr} {vars : List PV} (E : PE C fg fc w ow a y gs g vars p ids op x) : astep (Psf C.F) (mkA a y gs g vars) = if op = 21 then ajump x (mkA a y gs g vars)
    else if op = 22 then (if trV (g.ops.headD vNil) then mkA a y gs { g with ops := g.ops.tail, pc := g.pc + 1 } vars else ajump x (mkA a y gs { g with ops := g.ops.tail } vars))
    else if op = 23 ∨ op = 24 then (if trV (g.ops.headD vNil) = decide (op = 24) then ajump x (mkA a y gs g vars) else mkA a y gs { g with ops := g.ops.tail, pc := g.pc + 1 } vars)
    else if op = 26 then acall (Psf C.F) x (mkA a y gs g vars)
    else if op = 27 then aret (g.ops.getD 1 vNil) (g.ops.getD 0 vNil) (mkA a y gs g vars)
    else aplain (Psf C.F) op x (mkA a y gs g vars) := by
  have h := E.sn.c
  unfold cod AS.pro Go.Proofs.Qxb6500568aGreatDoor.pr at h
  unfold astep
  dsimp only
  rw [h]
  dsimp only
  rw [mk_fr E.hc, mk_ops E.hc, mk_pc E.hc]
theorem effN_b {op x l : Nat} (h26 : op ≠ 26) (hn : needO op x ≤ l) : 0 ≤ effN op ∧ effN op ≤ 3 ∧ effN op ≤ l := by
  unfold effN
  rw [if_neg h26]
  unfold needO at hn ⊢
  rw [if_neg h26] at hn
  rw [if_neg h26]
  split at hn
  · rename_i h; rw [if_pos h]; omega
  · rename_i h; rw [if_neg h]
    split at hn
    · rename_i h; rw [if_pos h]; omega
    · rename_i h; rw [if_neg h]
      split at hn
      · rename_i h; rw [if_pos h]; omega
      · rename_i h; rw [if_neg h]; omega
theorem effG_b {op l : Nat} (hg : l ≤ 128 ∧ (growsO op = true → l < 128)) : -3 ≤ effG op ∧ effG op ≤ 1 ∧ (l : Int) + effG op ≤ 128 := by
  unfold effG
  split
  · rename_i h
    have := hg.2 (by unfold growsO; simp only [Bool.or_eq_true, decide_eq_true_eq]; omega)
    omega
  · have := hg.1
    repeat' split
    all_goals omega
theorem i8w {a : Int} (h : -128 ≤ a ∧ a ≤ 127) : IntKind.i8.wrap a = a := by
  simp [IntKind.wrap, IntKind.bits, IntKind.signed]
  split <;> omega
theorem aret_q {a : AS} {y : ATh} {gs : List AFr} {g : AFr} {vars : List PV} {u v : PV} (hc : a.cur < a.ths.length) (hg : gs ≠ []) : (aret u v (mkA a y gs g vars)).cur = a.cur ∧ (aret u v (mkA a y gs g vars)).done = a.done := by
  unfold aret
  rw [mk_th hc]
  dsimp only
  rw [if_neg hg]
  split <;> exact ⟨rfl, rfl⟩
theorem aret_0 {a : AS} {y : ATh} {g : AFr} {vars : List PV} {u v : PV} (hc : a.cur < a.ths.length) : aret u v (mkA a y [] g vars) = aback true u ((mkA a y [] g vars).setT { y with frs := [], st := 5 }) := by
  unfold aret
  rw [mk_th hc]
  dsimp only
  rw [if_pos rfl]
theorem vt_old {ow' : Nat → Nat} (hX : Xt w ow ow') {x : Nat} (h : vtT (ow' x)) : tg ow vtT x ∨ w.heap.size ≤ x := by
  by_cases q : x < w.heap.size
  · left; show vtT (ow x); rw [← hX x q]; exact h
  · right; omega
theorem kN_of {a z : AS} (h1 : z.cur = a.cur) (h2 : z.stack = a.stack ∧ z.first = a.first) (h3 : z.done = a.done) : kN z = kN a := by unfold kN; rw [h1, h2.1, h2.2, h3]
theorem ajump_k {a : AS} {y : ATh} {gs : List AFr} {g : AFr} {vars : List PV} {x : Nat} (hc : a.cur < a.ths.length) : (ajump x (mkA a y gs g vars)).stack = a.stack ∧ (ajump x (mkA a y gs g vars)).first = a.first := by
  unfold ajump
  split
  · split <;> exact ⟨rfl, rfl⟩
  · exact ⟨rfl, rfl⟩
theorem aret_k {a : AS} {y : ATh} {gs : List AFr} {g : AFr} {vars : List PV} {u v : PV} (hc : a.cur < a.ths.length) (hg : gs ≠ []) : (aret u v (mkA a y gs g vars)).stack = a.stack ∧ (aret u v (mkA a y gs g vars)).first = a.first := by
  unfold aret
  rw [mk_th hc]
  dsimp only
  rw [if_neg hg]
  split <;> exact ⟨rfl, rfl⟩
theorem vevv_c {k t e k' t' e' : Nat} {v u v' u' : PV} (h : vevv k t e v u = vevv k' t' e' v' u') : vevc k t e v u = vevc k' t' e' v' u' := by
  unfold vevv at h
  injection h with h
  exact List.toArray_inj h
theorem vevv_k {k t e k' t' e' : Nat} {v u v' u' : PV} (h : vevv k t e v u = vevv k' t' e' v' u') : k = k' := by
  have := vevv_c h
  unfold vevc at this
  injection this with h1 _
  unfold i64c at h1
  injection h1 with _ h1
  omega
theorem retT {a : AS} {y : ATh} {gs : List AFr} {g : AFr} {vars : List PV} {fg fc : Nat} (hR : AM C fg fc w ow (mkA a y gs g vars)) (hc : a.cur < a.ths.length) {v u : PV} {l : List PV} (ho : g.ops = u :: v :: l) (hol : g.ops.length ≤ 131) (hg : gs = []) :
    Ret Tryz.prog 246 [ptr C.E.mb, tptr C a.cur, fpt fg gs.length] w (fun r w' => r = vevv 1 0 0 v u ∧ ∃ ow', Xt w ow ow' ∧ Fram (tg ow vtT) w w' ∧ AMq C w' ow' ((mkA a y gs g vars).setT { y with frs := [], st := 5 })) :=
  (retA hR hc ho hol).mono fun r w' h => by unfold RtR at h; rw [if_pos hg] at h; exact h
theorem retF {a : AS} {y : ATh} {gs : List AFr} {g : AFr} {vars : List PV} {fg fc : Nat} (hR : AM C fg fc w ow (mkA a y gs g vars)) (hc : a.cur < a.ths.length) {v u : PV} {l : List PV} (ho : g.ops = u :: v :: l) (hol : g.ops.length ≤ 131) (hg : gs ≠ []) :
    Ret Tryz.prog 246 [ptr C.E.mb, tptr C a.cur, fpt fg gs.length] w (fun r w' => r = vevv 0 0 0 vNil vNil ∧ ∃ ow', Xt w ow ow' ∧ Fram (tg ow vtT) w w' ∧ AMq C w' ow' (aret v u (mkA a y gs g vars))) :=
  (retA hR hc ho hol).mono fun r w' h => by unfold RtR at h; rw [if_neg hg] at h; exact h
theorem ajump_cur {a : AS} {y : ATh} {gs : List AFr} {g : AFr} {vars : List PV} {x : Nat} (hc : a.cur < a.ths.length) : (ajump x (mkA a y gs g vars)).cur = a.cur := by
  unfold ajump
  split
  · split <;> rfl
  · rfl
set_option maxHeartbeats 8000000 in
theorem loopA {c : Nat × List Nat × Nat × Bool} (hL : LI C b n s) (hb : b.done = true) (hd : s.done = false) (hcu : s.cur = cu) (hk : kN s = c) (hq : AMq C w ow s) : RetP Tryz.prog 205 [ptr C.E.mb, i64c cu, tptr C cu] w (LoR C b n c w ow) (LoE C b n c w ow) := by
  have hX : Xt w ow ow := Xt.refl _ _
  have hF : Fram (tg ow vtT) w w := Fram.refl _ _
  have hR := hq
  refine retp_of Tryz.func205 rfl Tryz.ntmps205 rfl ?_
  refine c_seq (fun K1 hK1 => ?_)
  refine c_reg ?_ -- region 0 exec.go:207
  refine wl_new (ze_211) (fun b6 w1 hbb6 h6 F1 => ?_)
  have hbsb6 := Nat.le_trans hF.size hbb6
  have kh6 := hR.df b6 hbb6
  replace hF := hF.thenDrew.thenN F1
  replace hR := hR.thruN ((Fram.refl none' _).thenDrew.thenN F1)
  refine wl_nil (x_then (hK1 _ _ ?_))
  clear hK1 K1
  -- scope@r1 label 0: live slots [0, 1, 2, 6, 7, 119, 120, 121, 122, 123]
  refine c_scope (fun _ _ _ _ => False) ?_ ?_
  · skip
    refine c_seq (fun K2 hK2 => ?_)
    refine c_reg ?_ -- region 1 exec.go:208
    refine wl_new (ze_211) (fun b7 w2 hbb7 h7 F2 => ?_)
    have hbsb7 := Nat.le_trans hF.size hbb7
    have hneb6b7 : b6 < b7 := Nat.lt_of_lt_of_le h6.lt hbb7
    have kh7 := hR.df b7 hbb7
    replace hF := hF.thenDrew.thenN F2
    replace hR := hR.thruN ((Fram.refl none' _).thenDrew.thenN F2)
    replace h6 := F2.blkN h6
    refine wl_nil (x_then (hK2 _ _ ?_))
    clear hK2 K2
    refine forget [(0, _), (1, _), (2, _), (6, _), (7, _)] ⟨rfl, rfl, rfl, rfl, rfl, trivial⟩ (fun e => ?_)
    refine c_seq (fun K3 hK3 => ?_)
    refine c_label (x_then (hK3 _ _ ?_))
    clear hK3 K3
    refine forget [(0, _), (1, _), (2, _), (6, _), (7, _)] ⟨rfl, rfl, rfl, rfl, rfl, trivial⟩ (fun e => ?_)
    refine c_seq (fun K4 hK4 => ?_)
    refine c_block ?_
    -- loop@r2: live slots [0, 1, 2, 6, 7]
    refine c_loopG (fun m bb u => ∃ s1 ow1, m ≤ n ∧ LI C b m s1 ∧ s1.done = false ∧ s1.cur = cu ∧ kN s1 = c ∧ AMq C u ow1 s1 ∧ Xt w ow ow1 ∧ Fram (tg ow vtT) w u ∧ Blk u.heap b6 (vevc 0 0 0 vNil vNil) 211 ∧ ow1 b6 = 66 ∧ Blk u.heap b7 (vevc 0 0 0 vNil vNil) 211 ∧ ow1 b7 = 66 ∧ ∃ e', bb = Fr 222 (upds e' [(0, ptr C.E.mb), (1, i64c cu), (2, tptr C cu), (6, ptr b6), (7, ptr b7)]) []) n ⟨s, ow, Nat.le_refl n, hL, hd, hcu, hk, hR, hX, hF, h6, kh6, h7, kh7, kp _ ⟨rfl, rfl, rfl, rfl, rfl, trivial⟩⟩ ?_
    clear hL hd hcu hk hq hR hX hF h6 kh6 h7 kh7
    rintro m bb u ⟨s1, ow1, hmn, hL, hd, hcu, hk, hq, hX, hF, h6, kh6, h7, kh7, e', rfl⟩
    obtain ⟨k, rfl⟩ : ∃ k, m = k + 1 := ⟨m - 1, by
      rcases m with _ | m
      · have h9 : s1 = b := hL.go
        rw [h9, hb] at hd
        cases hd
      · rfl⟩
    have hTS := hL.sh.tr hd
    have hk3 : kH s1 = (c, 3) := by unfold kH; rw [hk, hTS.hs]
    obtain ⟨y, gs, g, fg, fc, p, ids, op, x, hmk, E, hL2⟩ := hL.pe hq
    have hR := E.r
    have hc := E.hc
    subst hcu
    obtain ⟨V, κ, Vv, U, xt, f, fs, o⟩ := hR.open hc
    obtain ⟨lT, hT, -, -, -, hTr, -⟩ := o.v.thA o.t.hx
    have hT3 : lT[s1.cur * 5 + 3]? = some (.slice (some ⟨fg, 0, none⟩) (gs.length + 1) fc) := by rw [← o.hf]; exact hTr 3 (.inr (.inl rfl))
    have hT2 := hTr 2 (.inl rfl)
    obtain ⟨va, vc, eU⟩ := o.stF
    rw [eU] at hT2
    have hln := o.t.ln
    have hsl := o.sl
    have hol := E.ol
    have hnd := E.nd
    obtain ⟨p0, ids0, n1, n2, n3⟩ := o.ns
    obtain ⟨rfl, rfl⟩ : p = p0 ∧ ids = ids0 := by have := E.hk.symm.trans n1; simpa using this
    obtain ⟨lB, hB1, k1, q1, q2, hpcS⟩ := o.pcS
    obtain ⟨lM, hM, m0, m1, m2, m3, m4, m5, m6, -⟩ := o.v.mbA
    obtain ⟨cs, hcs, hcl⟩ := o.clos E.hk
    obtain ⟨cg, cc, lC, up, e6, hC, tC, rC⟩ := o.v.clo hcs
    rw [e6] at m6
    have hclt := (List.getElem?_eq_some_iff.1 hcs).1
    obtain ⟨lP, pa, pb, pc, hP, tP, rp, -, -, ⟨Cd, oC, wC, bC⟩⟩ := o.v.pro E.hp
    rw [Nat.zero_add] at rp
    obtain ⟨hpb, hpl, hcode⟩ := E.pcb
    have hpF := E.hp
    have hwl := wC.1
    have hzz := E.hz
    have hop := E.sn.r.2.1
    have hdp := o.dp
    have hpe := o.t.pc
    obtain ⟨dg, dcap, lD, eD, hD, -, -, -, tD, rD⟩ := oC.at inc_len (wC.2 _ _ hcode)
    rw [eD] at m5
    have rD := rD _ _ (wC.2 _ _ hcode)
    rw [← o.t.pc] at rD
    refine c_block ?_
    refine c_seq (fun K5 hK5 => ?_)
    refine c_pi [(0, false), (1, false), (2, false), (3, false), (4, false), (5, false), (6, false), (7, false), (8, false), (9, false), (10, false), (11, false)] (SameH _) mixed (by kernel_rfl) rfl (by kernel_rfl) (po_then (po_blk (po_then (po_blk (po_then (po_sc (po_bpp))))))) (sameH_now _ _) ?_ -- region 2 exec.go:211
    refine pi_ro rfl (fun w hS => ro_move rfl) ?_
    refine pi_ro rfl (fun w hS => ro_nilCheck rfl) ?_
    refine pi_ro rfl (fun w hS => ro_fieldAddr (k := 3) rfl fo_269_3) ?_
    refine pi_ro rfl (fun w hS => ro_loadB rfl sc_267 (Blk.of_heap hT hS) (hT3)) ?_
    refine pi_ro rfl (fun w hS => ro_move rfl) ?_
    refine pi_ro rfl (fun w hS => ro_nilCheck rfl) ?_
    refine pi_ro rfl (fun w hS => ro_fieldAddr (k := 3) rfl fo_269_3) ?_
    refine pi_ro rfl (fun w hS => ro_loadB rfl sc_267 (Blk.of_heap hT hS) (hT3)) ?_
    refine pi_ro rfl (fun w hS => ro_lenL rfl se_267) ?_
    refine pi_ro rfl (fun w hS => ro_subN (r := gs.length) (k := 1) rfl rfl rfl (by omega)) ?_
    refine pi_ro rfl (fun w hS => ro_indexAddr (et := 331) (k := 5) rfl rfl se_267 (rfl) ((by omega))) ?_
    refine pi_ro rfl (fun w hS => ro_assign rfl) ?_
    refine pi_nil (x_then (hK5 _ _ ?_))
    clear hK5 K5
    refine forget [(0, _), (1, _), (2, _), (6, _), (7, _), (8, _)] ⟨rfl, rfl, rfl, rfl, rfl, rfl, trivial⟩ (fun e => ?_)
    refine c_seq (fun K6 hK6 => ?_)
    rw [show 0 + gs.length * 5 = gs.length * 5 from Nat.zero_add _]
    refine c_pi [(0, false), (1, false), (2, false), (3, false), (4, false), (5, false), (6, false), (7, false), (8, false), (9, false), (10, false), (11, false), (12, false), (13, false), (14, false), (15, false), (16, false)] (SameH _) mixed (by kernel_rfl) rfl (by kernel_rfl) (po_then (po_blk (po_then (po_blk (po_then (po_sc (po_bpp))))))) (sameH_now _ _) ?_ -- region 3 exec.go:212
    refine pi_ro rfl (fun w hS => ro_move rfl) ?_
    refine pi_ro rfl (fun w hS => ro_nilCheck rfl) ?_
    refine pi_ro rfl (fun w hS => ro_fieldAddr (k := 2) rfl fo_89_2) ?_
    refine pi_ro rfl (fun w hS => ro_loadB rfl sc_81 (Blk.of_heap hM hS) (m2)) ?_
    refine pi_ro rfl (fun w hS => ro_move rfl) ?_
    refine pi_ro rfl (fun w hS => ro_nilCheck rfl) ?_
    refine pi_ro rfl (fun w hS => ro_fieldAddr (k := 6) rfl fo_89_6) ?_
    refine pi_ro rfl (fun w hS => ro_loadB rfl sc_85 (Blk.of_heap hM hS) (m6)) ?_
    refine pi_ro rfl (fun w hS => ro_move rfl) ?_
    refine pi_ro rfl (fun w hS => ro_nilCheck rfl) ?_
    refine pi_ro rfl (fun w hS => ro_fieldAddr (k := 0) rfl fo_331_0) ?_
    refine pi_ro rfl (fun w hS => ro_loadB rfl sc_3 (Blk.of_heap hB1 hS) (frow_at q1 (by decide))) ?_
    refine pi_ro rfl (fun w hS => ro_indexAddr (et := 209) (k := 3) rfl rfl se_85 (rfl) ((by omega))) ?_
    refine pi_ro rfl (fun w hS => ro_fieldAddr (k := 0) rfl fo_209_0) ?_
    refine pi_ro rfl (fun w hS => ro_loadB rfl sc_3 (Blk.of_heap hC hS) (row_get rC (by decide))) ?_
    refine pi_ro rfl (fun w hS => ro_indexAddr (et := 258) (k := 8) rfl rfl se_81 (rfl) (hpF)) ?_
    refine pi_ro rfl (fun w hS => ro_assign rfl) ?_
    refine pi_nil (x_then (hK6 _ _ ?_))
    clear hK6 K6
    refine c_seq (fun K7 hK7 => ?_)
    refine c_seq (fun K8 hK8 => ?_)
    rw [show 0 + p * 8 = p * 8 from Nat.zero_add _]
    refine c_pi [(0, false), (1, false), (2, false), (3, false), (4, false), (5, false), (6, false), (7, false), (8, false)] (SameH _) mixed (by kernel_rfl) rfl (by kernel_rfl) (po_then (po_then (po_blk (po_then (po_blk (po_then (po_sc (po_bpp)))))))) (sameH_now _ _) ?_ -- region 4 exec.go:213
    refine pi_ro rfl (fun w hS => ro_move rfl) ?_
    refine pi_ro rfl (fun w hS => ro_nilCheck rfl) ?_
    refine pi_ro rfl (fun w hS => ro_fieldAddr (k := 1) rfl fo_331_1) ?_
    refine pi_ro rfl (fun w hS => ro_loadB rfl sc_3 (Blk.of_heap hB1 hS) (frow_at q1 (by decide))) ?_
    refine pi_ro rfl (fun w hS => ro_move rfl) ?_
    refine pi_ro rfl (fun w hS => ro_nilCheck rfl) ?_
    refine pi_ro rfl (fun w hS => ro_fieldAddr (k := 7) rfl fo_258_7) ?_
    refine pi_ro rfl (fun w hS => ro_loadB rfl sc_3 (Blk.of_heap hP hS) (row_get rp (by decide))) ?_
    refine pi_ro rfl (fun w hS => ro_cmp (r := false) rfl rfl (congrArg some (decide_eq_false (by omega)))) ?_
    refine pi_nil (x_then (hK8 _ _ ?_))
    clear hK8 K8
    refine wc_condF rfl ?_
    refine c_skip (x_then (hK7 _ _ ?_))
    clear hK7 K7
    refine forget [(0, _), (1, _), (2, _), (6, _), (7, _), (8, _), (9, _)] ⟨rfl, rfl, rfl, rfl, rfl, rfl, rfl, trivial⟩ (fun e => ?_)
    refine c_seq (fun K9 hK9 => ?_)
    refine c_piL 16 [(0, false), (1, false), (2, false), (3, false), (4, false), (5, false), (6, false), (7, false), (8, false), (9, false), (10, false), (11, false), (12, false), (13, false), (14, false), (15, true)] (La b6 _ _ (La b7 _ _ (La C.E.tb _ _ (La fg _ _ (La C.E.mb _ _ (La cg _ _ (La C.pg _ _ (La dg _ _ (Mz C))))))))) mixed (by kernel_rfl) rfl (by kernel_rfl) (po_then (po_blk (po_then (po_blk (po_then (po_sc (po_bpp))))))) (⟨h6, h7, hT, hB1, hM, hC, hP, hD, hR.rz⟩) ?_ -- region 6 exec.go:216
    refine ql_ro rfl (fun w hS => ro_move rfl) ?_
    refine ql_ro rfl (fun w hS => ro_nilCheck rfl) ?_
    refine ql_ro rfl (fun w hS => ro_fieldAddr (k := 5) rfl fo_89_5) ?_
    refine ql_ro rfl (fun w hS => ro_loadB rfl sc_84 (hS.2.2.2.2.1) (m5)) ?_
    refine ql_ro rfl (fun w hS => ro_move rfl) ?_
    refine ql_ro rfl (fun w hS => ro_nilCheck rfl) ?_
    refine ql_ro rfl (fun w hS => ro_fieldAddr (k := 6) rfl fo_258_6) ?_
    refine ql_ro rfl (fun w hS => ro_loadB rfl sc_3 (hS.2.2.2.2.2.2.1) (row_get rp (by decide))) ?_
    refine ql_ro rfl (fun w hS => ro_move rfl) ?_
    refine ql_ro rfl (fun w hS => ro_nilCheck rfl) ?_
    refine ql_ro rfl (fun w hS => ro_fieldAddr (k := 1) rfl fo_331_1) ?_
    refine ql_ro rfl (fun w hS => ro_loadB rfl sc_3 (hS.2.2.2.1) (frow_at q1 (by decide))) ?_
    refine ql_ro rfl (fun w hS => ro_addN rfl rfl (by omega)) ?_
    refine ql_ro rfl (fun w hS => ro_indexAddr (et := 322) (k := 2) rfl rfl se_84 (rfl) ((by omega))) ?_
    refine ql_ro rfl (fun w hS => ro_loadAggB rfl ag_322 (hS.2.2.2.2.2.2.2.1) (inc_len _) (rD)) ?_
    refine ql_new rfl ze_322 (fun w1 F ↦ ⟨F.blkN h6, F.blkN h7, F.blkN hT, F.blkN hB1, F.blkN hM, F.blkN hC, F.blkN hP, F.blkN hD, (hR.dr.thruN F).rz⟩) ?_
    intro b10 w3 hbb10 h10 F3
    have hbsb10 := Nat.le_trans hF.size hbb10
    have hneb6b10 : b6 < b10 := Nat.lt_of_lt_of_le h6.lt hbb10
    have hneb7b10 : b7 < b10 := Nat.lt_of_lt_of_le h7.lt hbb10
    have hneC.E.tbb10 : C.E.tb < b10 := Nat.lt_of_lt_of_le hT.lt hbb10
    have hnefgb10 : fg < b10 := Nat.lt_of_lt_of_le hB1.lt hbb10
    have hneC.E.mbb10 : C.E.mb < b10 := Nat.lt_of_lt_of_le hM.lt hbb10
    have hnecgb10 : cg < b10 := Nat.lt_of_lt_of_le hC.lt hbb10
    have hneC.pgb10 : C.pg < b10 := Nat.lt_of_lt_of_le hP.lt hbb10
    have hnedgb10 : dg < b10 := Nat.lt_of_lt_of_le hD.lt hbb10
    have kh10 := hR.df b10 hbb10
    replace hF := hF.thenDrew.thenN F3
    replace hR := hR.thruN ((Fram.refl none' _).thenDrew.thenN F3)
    replace h6 := F3.blkN h6
    replace h7 := F3.blkN h7
    replace hT := F3.blkN hT
    replace hB1 := F3.blkN hB1
    replace hM := F3.blkN hM
    replace hC := F3.blkN hC
    replace hP := F3.blkN hP
    replace hD := F3.blkN hD
    refine ql_puta rfl rfl rfl ((inc_one _)) sz_322 (rfl) h10 ((by simp)) (rfl) (fun w4 h10 F4 => ?_)
    replace hF := hF.thenDrew.thenO F4 (by first | exact .inr (by omega) | exact .inl rfl | exact .inl (by assumption) | assumption)
    replace hR := hR.hbput ((Fram.refl (one b10) _).thenDrew.thenO F4 (.inl rfl))
    replace h6 := F4.blkO h6 (by first | omega | exact ow_ne (by assumption) (by assumption) (by omega))
    replace h7 := F4.blkO h7 (by first | omega | exact ow_ne (by assumption) (by assumption) (by omega))
    replace hT := F4.blkO hT (by first | omega | exact ow_ne (by assumption) (by assumption) (by omega))
    replace hB1 := F4.blkO hB1 (by first | omega | exact ow_ne (by assumption) (by assumption) (by omega))
    replace hM := F4.blkO hM (by first | omega | exact ow_ne (by assumption) (by assumption) (by omega))
    replace hC := F4.blkO hC (by first | omega | exact ow_ne (by assumption) (by assumption) (by omega))
    replace hP := F4.blkO hP (by first | omega | exact ow_ne (by assumption) (by assumption) (by omega))
    replace hD := F4.blkO hD (by first | omega | exact ow_ne (by assumption) (by assumption) (by omega))
    refine x_then (hK9 _ _ ?_)
    clear hK9 K9
    refine forget [(0, _), (1, _), (2, _), (6, _), (7, _), (8, _), (9, _), (10, _)] ⟨rfl, rfl, rfl, rfl, rfl, rfl, rfl, rfl, trivial⟩ (fun e => ?_)
    refine c_seq (fun K10 hK10 => ?_)
    refine c_reg ?_ -- region 7 exec.go:217
    refine wl (ro_fieldAddr (k := 1) rfl fo_322_1) ?_
    refine wl (ro_loadB rfl sc_201 (h10) rfl) ?_
    refine wl (ro_conv (a := (x : Int)) rfl sc_201 in_3 (Go.IntWalk.i64_in _ (by omega))) ?_
    refine wl (ro_assign rfl) ?_
    refine wl_nil (x_then (hK10 _ _ ?_))
    clear hK10 K10
    refine forget [(0, _), (1, _), (2, _), (6, _), (7, _), (8, _), (9, _), (10, _), (11, _)] ⟨rfl, rfl, rfl, rfl, rfl, rfl, rfl, rfl, rfl, trivial⟩ (fun e => ?_)
    refine c_seq (fun K11 hK11 => ?_)
    refine c_reg ?_ -- region 8 exec.go:218
    refine wl (ro_move rfl) ?_
    refine wl (ro_move rfl) ?_
    refine wl (ro_move rfl) ?_
    refine wl (ro_move rfl) ?_
    refine wl (ro_fieldAddr (k := 0) rfl fo_322_0) ?_
    refine wl (ro_loadB rfl sc_5 (h10) rfl) ?_
    refine wl (ro_move rfl) ?_
    refine wl_call rfl en_241 (soundA (E.far hR)) ?_
    rintro _ w5 ⟨rfl, F5⟩
    replace hF := hF.thenDrew.thenN F5
    replace hR := hR.thruN ((Fram.refl none' _).thenDrew.thenN F5)
    replace h6 := F5.blkN h6
    replace h7 := F5.blkN h7
    replace hT := F5.blkN hT
    replace hB1 := F5.blkN hB1
    replace hM := F5.blkN hM
    replace hC := F5.blkN hC
    replace hP := F5.blkN hP
    replace hD := F5.blkN hD
    replace h10 := F5.blkN h10
    refine wl (ro_assign rfl) ?_
    refine wl_nil (x_then (hK11 _ _ ?_))
    clear hK11 K11
    refine c_seq (fun K12 hK12 => ?_)
    refine c_seq (fun K13 hK13 => ?_)
    refine c_reg ?_ -- region 9 exec.go:219
    refine wl (ro_move rfl) ?_
    refine wl (ro_not rfl) ?_
    refine wl_nil (x_then (hK13 _ _ ?_))
    clear hK13 K13
    refine wc_condF rfl ?_
    refine c_skip (x_then (hK12 _ _ ?_))
    clear hK12 K12
    refine forget [(0, _), (1, _), (2, _), (6, _), (7, _), (8, _), (9, _), (10, _), (11, _)] ⟨rfl, rfl, rfl, rfl, rfl, rfl, rfl, rfl, rfl, trivial⟩ (fun e => ?_)
    refine c_seq (fun K14 hK14 => ?_)
    refine c_reg ?_ -- region 11 exec.go:222
    refine wl (ro_fieldAddr (k := 0) rfl fo_322_0) ?_
    refine wl (ro_loadB rfl sc_5 (h10) rfl) ?_
    refine wl_call rfl en_242 (effA ⟨E.sn.r.1, E.sn.r.2.1⟩) ?_
    rintro _ w6 ⟨rfl, F6⟩
    replace hF := hF.thenDrew.thenN F6
    replace hR := hR.thruN ((Fram.refl none' _).thenDrew.thenN F6)
    replace h6 := F6.blkN h6
    replace h7 := F6.blkN h7
    replace hT := F6.blkN hT
    replace hB1 := F6.blkN hB1
    replace hM := F6.blkN hM
    replace hC := F6.blkN hC
    replace hP := F6.blkN hP
    replace hD := F6.blkN hD
    replace h10 := F6.blkN h10
    refine wl (ro_move rfl) ?_
    refine wl (ro_extract rfl rfl) ?_
    refine wl (ro_extract rfl rfl) ?_
    refine wl (ro_assign rfl) ?_
    refine wl (ro_assign rfl) ?_
    refine wl_nil (x_then (hK14 _ _ ?_))
    clear hK14 K14
    refine c_mid (fun aa ww => ww = w6 ∧ ∃ nd gr : Int, (0 ≤ nd ∧ nd ≤ g.ops.length ∧ -3 ≤ gr ∧ gr ≤ 1 ∧ g.ops.length + gr ≤ 128) ∧ ∃ e', aa = Fr 222 (upds e' [(0, ptr C.E.mb), (1, i64c s1.cur), (2, tptr C s1.cur), (6, ptr b6), (7, ptr b7), (8, fpt fg gs.length), (9, prt C p), (10, ptr b10), (11, i64c x), (13, .int .i8 nd), (14, .int .i8 gr)]) []) ?_ ?_
    · skip
      refine c_seq (fun K15 hK15 => ?_)
      refine c_reg ?_ -- region 12 exec.go:223
      refine wl (ro_fieldAddr (k := 0) rfl fo_322_0) ?_
      refine wl (ro_loadB rfl sc_5 (h10) rfl) ?_
      refine wl (ro_cmp rfl rfl rfl) ?_
      refine wl_nil (x_then (hK15 _ _ ?_))
      clear hK15 K15
      refine wc_cond rfl (fun hc92 => ?_) (fun hc92 => ?_)
      · try simp only [decide_eq_true_eq, decide_eq_false_iff_not, Bool.not_eq_true', Bool.not_eq_false', Bool.not_eq_eq_eq_not, Bool.not_true, Bool.not_false, beq_iff_eq, bne_iff_ne, ne_eq, beq_eq_false_iff_ne, bne_eq_false_iff_eq, gt_iff_lt, ge_iff_le, Int.not_lt, Int.not_le] at hc92
        have h26 : op = 26 := by omega
        subst h26
        have hx3 : x ≤ 3 := E.sn.r.2.2.2.2.2.2.2.2.1 rfl
        have hgr := E.sn.g.2.2 rfl
        rw [mk_fr hc] at hgr
        have hnd' : x + 1 ≤ g.ops.length := hnd
        refine c_reg ?_ -- region 13 exec.go:224
        refine wl (ro_move rfl) ?_
        refine wl (ro_conv (a := (x : Int)) rfl sc_3 in_404 (i8w (by omega))) ?_
        refine wl (ro_arith (r := (x : Int) + 1) rfl rfl rfl (i8w (by omega))) ?_
        refine wl (ro_move rfl) ?_
        refine wl (ro_conv (a := (x : Int)) rfl sc_3 in_404 (i8w (by omega))) ?_
        refine wl (ro_arith (r := 1 - (x : Int)) rfl rfl rfl (i8w (by omega))) ?_
        refine wl (ro_assign rfl) ?_
        refine wl (ro_assign rfl) ?_
        refine wl_nil (x_then ?_)
        exact ⟨rfl, (x : Int) + 1, 1 - (x : Int), by omega, kp _ ⟨rfl, rfl, rfl, rfl, rfl, rfl, rfl, rfl, rfl, rfl, rfl, trivial⟩⟩
      · try simp only [decide_eq_true_eq, decide_eq_false_iff_not, Bool.not_eq_true', Bool.not_eq_false', Bool.not_eq_eq_eq_not, Bool.not_true, Bool.not_false, beq_iff_eq, bne_iff_ne, ne_eq, beq_eq_false_iff_ne, bne_eq_false_iff_eq, gt_iff_lt, ge_iff_le, Int.not_lt, Int.not_le] at hc92
        have h26 : op ≠ 26 := by omega
        have hgr := E.sn.g
        rw [mk_fr hc] at hgr
        have hb1 := effN_b h26 hnd
        have hb2 := effG_b ⟨hgr.1, hgr.2.1⟩
        refine c_skip (x_then ?_)
        exact ⟨rfl, effN op, effG op, ⟨hb1.1, hb1.2.2, hb2⟩, kp _ ⟨rfl, rfl, rfl, rfl, rfl, rfl, rfl, rfl, rfl, rfl, rfl, trivial⟩⟩
    rintro _ w8 ⟨rfl, nd, gr, hng, e', rfl⟩
    refine c_seq (fun K16 hK16 => ?_)
    refine c_pi [(0, false), (1, false), (2, false), (3, false), (4, false), (5, false), (6, false), (7, false), (8, false), (9, false), (10, false), (11, false), (12, false), (13, false), (14, false), (15, false)] (SameH _) mixed (by kernel_rfl) rfl (by kernel_rfl) (po_then (po_blk (po_then (po_blk (po_then (po_sc (po_bpp))))))) (sameH_now _ _) ?_ -- region 14 exec.go:226
    refine pi_ro rfl (fun w hS => ro_move rfl) ?_
    refine pi_ro rfl (fun w hS => ro_nilCheck rfl) ?_
    refine pi_ro rfl (fun w hS => ro_fieldAddr (k := 2) rfl fo_269_2) ?_
    refine pi_ro rfl (fun w hS => ro_loadB rfl sc_83 (Blk.of_heap hT hS) (hT2)) ?_
    refine pi_ro rfl (fun w hS => ro_lenL rfl se_83) ?_
    refine pi_ro rfl (fun w hS => ro_move rfl) ?_
    refine pi_ro rfl (fun w hS => ro_nilCheck rfl) ?_
    refine pi_ro rfl (fun w hS => ro_fieldAddr (k := 2) rfl fo_331_2) ?_
    refine pi_ro rfl (fun w hS => ro_loadB rfl sc_3 (Blk.of_heap hB1 hS) (frow_at q1 (by decide))) ?_
    refine pi_ro rfl (fun w hS => ro_subN (r := g.slots.length + g.ops.length) rfl rfl (by omega) (by omega)) ?_
    refine pi_ro rfl (fun w hS => ro_move rfl) ?_
    refine pi_ro rfl (fun w hS => ro_nilCheck rfl) ?_
    refine pi_ro rfl (fun w hS => ro_fieldAddr (k := 1) rfl fo_258_1) ?_
    refine pi_ro rfl (fun w hS => ro_loadB rfl sc_3 (Blk.of_heap hP hS) (row_get rp (by decide))) ?_
    refine pi_ro rfl (fun w hS => ro_subN (r := g.ops.length) rfl rfl (by omega) (by omega)) ?_
    refine pi_ro rfl (fun w hS => ro_assign rfl) ?_
    refine pi_nil (x_then (hK16 _ _ ?_))
    clear hK16 K16
    refine c_seq (fun K17 hK17 => ?_)
    refine c_seq (fun K18 hK18 => ?_)
    refine c_reg ?_ -- region 15 exec.go:227
    refine wl (ro_move rfl) ?_
    refine wl (ro_move rfl) ?_
    refine wl (ro_conv (a := nd) rfl sc_404 in_3 (Go.IntWalk.i64_in _ (by omega))) ?_
    refine wl (ro_cmp (r := false) rfl rfl (congrArg some (decide_eq_false (by omega)))) ?_
    refine wl (ro_move rfl) ?_
    refine wlg_yes rfl (ro_move rfl) ?_
    refine wlg_yes rfl (ro_move rfl) ?_
    refine wlg_yes rfl (ro_conv (a := gr) rfl sc_404 in_3 (Go.IntWalk.i64_in _ (by omega))) ?_
    refine wlg_yes rfl (ro_arith (r := (g.ops.length : Int) + gr) rfl rfl rfl (Go.IntWalk.i64_in _ (by omega))) ?_
    refine wlg_yes rfl (ro_cmp (r := false) rfl rfl (congrArg some (decide_eq_false (by omega)))) ?_
    refine wl (ro_pick rfl rfl rfl) ?_
    refine wl_nil (x_then (hK18 _ _ ?_))
    clear hK18 K18
    refine wc_condF rfl ?_
    refine c_skip (x_then (hK17 _ _ ?_))
    clear hK17 K17
    refine forget [(0, _), (1, _), (2, _), (6, _), (7, _), (8, _), (9, _), (10, _), (11, _), (119, _), (120, _), (121, _), (122, _), (123, _)] ⟨rfl, rfl, rfl, rfl, rfl, rfl, rfl, rfl, rfl, rfl, rfl, rfl, rfl, rfl, trivial⟩ (fun e => ?_)
    refine c_seq (fun K19 hK19 => ?_)
    refine c_reg ?_ -- region 17 exec.go:230
    refine wl (ro_fieldAddr (k := 0) rfl fo_322_0) ?_
    refine wl (ro_loadB rfl sc_5 (h10) rfl) ?_
    have hL2 : LI C b k (astep (Psf C.F) (mkA s1 y gs g s1.vars)) := by rw [hmk]; exact hL2
    rw [E.ast] at hL2
    refine wl_nil (x_then (hK19 _ _ ?_))
    clear hK19 K19
    refine c_block ?_
    refine forget [(0, _), (1, _), (2, _), (6, _), (7, _), (8, _), (9, _), (10, _), (11, _), (119, _), (120, _), (121, _), (122, _), (123, _), (127, _)] ⟨rfl, rfl, rfl, rfl, rfl, rfl, rfl, rfl, rfl, rfl, rfl, rfl, rfl, rfl, rfl, trivial⟩ (fun e => ?_)
    refine c_seq (fun K20 hK20 => ?_)
    refine c_reg ?_ -- region 20 exec.go:231
    refine wl (ro_cmp rfl rfl rfl) ?_
    refine wl (ro_assign rfl) ?_
    refine wl_nil (x_then (hK20 _ _ ?_))
    clear hK20 K20
    refine wc_cond rfl (fun hc144 => ?_) (fun hc144 => ?_)
    · try simp only [decide_eq_true_eq, decide_eq_false_iff_not, Bool.not_eq_true', Bool.not_eq_false', Bool.not_eq_eq_eq_not, Bool.not_true, Bool.not_false, beq_iff_eq, bne_iff_ne, ne_eq, beq_eq_false_iff_ne, bne_eq_false_iff_eq, gt_iff_lt, ge_iff_le, Int.not_lt, Int.not_le] at hc144
      obtain rfl : op = 21 := by omega
      rw [if_pos rfl] at hL2
      refine c_reg ?_ -- region 21 exec.go:232
      refine wl (ro_move rfl) ?_
      refine wl (ro_move rfl) ?_
      refine wl (ro_move rfl) ?_
      refine wl_callP rfl en_243 (jumpA hR.dr hc) (fun pv w9 hE => bpp_pan (P := Tryz.prog) (fn := Tryz.f205) (⟨_, _, hmn, hL2, hk3 ▸ AE.go hX hF hE⟩)) ?_
      rintro _ u50 ⟨⟨rfl, ow50, x50, f50, r50⟩, d50⟩
      obtain ⟨h6, kh6⟩ := vm_loc x50 f50 h6 kh6
      obtain ⟨h7, kh7⟩ := vm_loc x50 f50 h7 kh7
      obtain ⟨h10, kh10⟩ := vm_loc x50 f50 h10 kh10
      have hs50 := hF.size
      replace hF := vm_trans hX hF f50
      replace hX := hX.trans hs50 x50
      replace hR := r50
      refine wl_nil (x_blk (x_blk (x_then ?_)))
      exact ⟨k, Nat.lt_succ_self k, _, _, Nat.le_of_succ_le hmn, hL2, d50.trans hd, ajump_cur hc, (kN_of (ajump_cur hc) (ajump_k hc) d50).trans hk, hR.q, hX, hF, h6, kh6, h7, kh7, kp _ ⟨rfl, rfl, rfl, rfl, rfl, trivial⟩⟩
    · try simp only [decide_eq_true_eq, decide_eq_false_iff_not, Bool.not_eq_true', Bool.not_eq_false', Bool.not_eq_eq_eq_not, Bool.not_true, Bool.not_false, beq_iff_eq, bne_iff_ne, ne_eq, beq_eq_false_iff_ne, bne_eq_false_iff_eq, gt_iff_lt, ge_iff_le, Int.not_lt, Int.not_le] at hc144
      rw [if_neg (by omega)] at hL2
      refine c_seq (fun K21 hK21 => ?_)
      refine c_reg ?_ -- region 22 exec.go:233
      refine wl (ro_cmp rfl rfl rfl) ?_
      refine wl (ro_assign rfl) ?_
      refine wl_nil (x_then (hK21 _ _ ?_))
      clear hK21 K21
      refine wc_cond rfl (fun hc150 => ?_) (fun hc150 => ?_)
      · try simp only [decide_eq_true_eq, decide_eq_false_iff_not, Bool.not_eq_true', Bool.not_eq_false', Bool.not_eq_eq_eq_not, Bool.not_true, Bool.not_false, beq_iff_eq, bne_iff_ne, ne_eq, beq_eq_false_iff_ne, bne_eq_false_iff_eq, gt_iff_lt, ge_iff_le, Int.not_lt, Int.not_le] at hc150
        obtain rfl : op = 22 := by omega
        rw [if_pos rfl] at hL2
        obtain ⟨v, l, ho⟩ := ops_1 (l := g.ops) hnd
        have hvv := E.vo (v := v) (by rw [ho]; simp)
        simp only [ho, List.headD_cons, List.tail_cons] at hL2
        refine c_seq (fun K22 hK22 => ?_)
        refine c_reg ?_ -- region 23 exec.go:234
        refine wl (ro_move rfl) ?_
        refine wl_call rfl en_244 (popA hR.dr hc ho (by omega)) ?_
        rintro _ u7 ⟨rfl, ow7, x7, f7, r7⟩
        obtain ⟨h6, kh6⟩ := vm_loc x7 f7 h6 kh6
        obtain ⟨h7, kh7⟩ := vm_loc x7 f7 h7 kh7
        obtain ⟨h10, kh10⟩ := vm_loc x7 f7 h10 kh10
        have hs7 := hF.size
        replace hF := vm_trans hX hF f7
        replace hX := hX.trans hs7 x7
        replace hR := r7
        refine wl_new (ze_119) (fun b16 w8 hbb16 h16 F8 => ?_)
        have hbsb16 := Nat.le_trans hF.size hbb16
        have hneb6b16 : b6 < b16 := Nat.lt_of_lt_of_le h6.lt hbb16
        have hneb7b16 : b7 < b16 := Nat.lt_of_lt_of_le h7.lt hbb16
        have hneb10b16 : b10 < b16 := Nat.lt_of_lt_of_le h10.lt hbb16
        have kh16 := hR.df b16 hbb16
        replace hF := hF.thenDrew.thenN F8
        replace hR := hR.thruN ((Fram.refl none' _).thenDrew.thenN F8)
        replace h6 := F8.blkN h6
        replace h7 := F8.blkN h7
        replace h10 := F8.blkN h10
        refine wl_puta rfl rfl ((pvc_one _)) sz_119 (rfl) h16 ((by simp)) (rfl) (fun w9 h16 F9 => ?_)
        replace hF := hF.thenDrew.thenO F9 (by first | exact .inr (by omega) | exact .inl rfl | exact .inl (by assumption) | assumption)
        replace hR := hR.hbput ((Fram.refl (one b16) _).thenDrew.thenO F9 (.inl rfl))
        replace h6 := F9.blkO h6 (by first | omega | exact ow_ne (by assumption) (by assumption) (by omega))
        replace h7 := F9.blkO h7 (by first | omega | exact ow_ne (by assumption) (by assumption) (by omega))
        replace h10 := F9.blkO h10 (by first | omega | exact ow_ne (by assumption) (by assumption) (by omega))
        refine wl_nil (x_then (hK22 _ _ ?_))
        clear hK22 K22
        refine forget [(0, _), (1, _), (2, _), (6, _), (7, _), (8, _), (11, _), (16, _), (119, _), (120, _), (121, _), (122, _), (123, _)] ⟨rfl, rfl, rfl, rfl, rfl, rfl, rfl, rfl, rfl, rfl, rfl, rfl, rfl, trivial⟩ (fun e => ?_)
        refine c_seq (fun K23 hK23 => ?_)
        refine c_reg ?_ -- region 24 exec.go:235
        refine wl (ro_loadAggB rfl ag_119 (h16) rfl rfl) ?_
        refine wl_call rfl en_62 (Truthy62 (wf_f hvv.wf hvv.w)) ?_
        rintro _ w10 ⟨rfl, F10⟩
        replace hF := hF.thenDrew.thenN F10
        replace hR := hR.thruN ((Fram.refl none' _).thenDrew.thenN F10)
        replace h6 := F10.blkN h6
        replace h7 := F10.blkN h7
        replace h10 := F10.blkN h10
        replace h16 := F10.blkN h16
        refine wl_nil (x_then (hK23 _ _ ?_))
        clear hK23 K23
        refine wc_cond rfl (fun hc155 => ?_) (fun hc155 => ?_)
        · try simp only [decide_eq_true_eq, decide_eq_false_iff_not, Bool.not_eq_true', Bool.not_eq_false', Bool.not_eq_eq_eq_not, Bool.not_true, Bool.not_false, beq_iff_eq, bne_iff_ne, ne_eq, beq_eq_false_iff_ne, bne_eq_false_iff_eq, gt_iff_lt, ge_iff_le, Int.not_lt, Int.not_le] at hc155
          rw [if_pos hc155] at hL2
          obtain ⟨V1, κ1, Vv1, U1, x1, f1, fs1, o1⟩ := hR.open hc
          have hpe1 : f1.pc = g.pc := o1.t.pc
          obtain ⟨lB1, hB1, kb1, qb1, qb2, hpc1⟩ := o1.pcS
          have hvf1 : tg ow vtT fg ∨ w.heap.size ≤ fg := vt_old hX (by rw [kb1]; left; have := o1.lt; unfold vmT; omega)
          refine c_reg ?_ -- region 25 exec.go:236
          refine wl (ro_move rfl) ?_
          refine wl (ro_nilCheck rfl) ?_
          refine wl (ro_fieldAddr (k := 1) rfl fo_331_1) ?_
          refine wl (ro_loadB rfl sc_3 (hB1) (frow_at qb1 (by decide))) ?_
          refine wl (ro_addN (k := 1) rfl rfl (by omega)) ?_
          refine wl (ro_nilCheck rfl) ?_
          refine wl (ro_fieldAddr (k := 1) rfl fo_331_1) ?_
          refine wl_put rfl rfl rfl sz_3 hB1 ((by omega)) (rfl) (fun w11 hB1 F11 => ?_)
          replace hF := hF.thenDrew.thenO F11 (by first | exact .inr (by omega) | exact .inl rfl | exact .inl (by assumption) | assumption)
          replace h6 := F11.blkO h6 (by first | omega | exact ow_ne (by assumption) (by assumption) (by omega))
          replace h7 := F11.blkO h7 (by first | omega | exact ow_ne (by assumption) (by assumption) (by omega))
          replace h10 := F11.blkO h10 (by first | omega | exact ow_ne (by assumption) (by assumption) (by omega))
          replace h16 := F11.blkO h16 (by first | omega | exact ow_ne (by assumption) (by assumption) (by omega))
          have o6 := hpc1 w11 (g.pc + 1) F11 (by rw [← hpe1]; exact hB1)
          have hR := o6.am
          refine wl_nil (x_blk (x_blk (x_then ?_)))
          exact ⟨k, Nat.lt_succ_self k, _, _, Nat.le_of_succ_le hmn, hL2, hd, rfl, hk, hR.q, hX, hF, h6, kh6, h7, kh7, kp _ ⟨rfl, rfl, rfl, rfl, rfl, trivial⟩⟩
        · try simp only [decide_eq_true_eq, decide_eq_false_iff_not, Bool.not_eq_true', Bool.not_eq_false', Bool.not_eq_eq_eq_not, Bool.not_true, Bool.not_false, beq_iff_eq, bne_iff_ne, ne_eq, beq_eq_false_iff_ne, bne_eq_false_iff_eq, gt_iff_lt, ge_iff_le, Int.not_lt, Int.not_le] at hc155
          rw [if_neg (by rw [hc155]; decide)] at hL2
          refine c_reg ?_ -- region 26 exec.go:238
          refine wl (ro_move rfl) ?_
          refine wl (ro_move rfl) ?_
          refine wl (ro_move rfl) ?_
          refine wl_callP rfl en_243 (jumpA hR.dr hc) (fun pv w9 hE => bpp_pan (P := Tryz.prog) (fn := Tryz.f205) (⟨_, _, hmn, hL2, hk3 ▸ AE.go hX hF hE⟩)) ?_
          rintro _ u51 ⟨⟨rfl, ow51, x51, f51, r51⟩, d51⟩
          obtain ⟨h6, kh6⟩ := vm_loc x51 f51 h6 kh6
          obtain ⟨h7, kh7⟩ := vm_loc x51 f51 h7 kh7
          obtain ⟨h10, kh10⟩ := vm_loc x51 f51 h10 kh10
          obtain ⟨h16, kh16⟩ := vm_loc x51 f51 h16 kh16
          have hs51 := hF.size
          replace hF := vm_trans hX hF f51
          replace hX := hX.trans hs51 x51
          replace hR := r51
          refine wl_nil (x_blk (x_blk (x_then ?_)))
          exact ⟨k, Nat.lt_succ_self k, _, _, Nat.le_of_succ_le hmn, hL2, d51.trans hd, ajump_cur hc, (kN_of (ajump_cur hc) (ajump_k hc) d51).trans hk, hR.q, hX, hF, h6, kh6, h7, kh7, kp _ ⟨rfl, rfl, rfl, rfl, rfl, trivial⟩⟩
      · try simp only [decide_eq_true_eq, decide_eq_false_iff_not, Bool.not_eq_true', Bool.not_eq_false', Bool.not_eq_eq_eq_not, Bool.not_true, Bool.not_false, beq_iff_eq, bne_iff_ne, ne_eq, beq_eq_false_iff_ne, bne_eq_false_iff_eq, gt_iff_lt, ge_iff_le, Int.not_lt, Int.not_le] at hc150
        rw [if_neg (by omega)] at hL2
        refine c_mid (fun aa ww => ww = { w8 with drawn := w8.drawn + 1 } ∧ ∃ bb : Bool, (bb = true ↔ (op = 23 ∨ op = 24)) ∧ ∃ e', aa = Fr 222 (upds e' [(0, ptr C.E.mb), (1, i64c s1.cur), (2, tptr C s1.cur), (6, ptr b6), (7, ptr b7), (8, fpt fg gs.length), (9, prt C p), (10, ptr b10), (11, i64c x), (127, u8n op), (167, .bool bb)]) []) ?_ ?_
        · skip
          refine c_seq (fun K24 hK24 => ?_)
          refine c_reg ?_ -- region 27 exec.go:240
          refine wl (ro_cmp rfl rfl rfl) ?_
          refine wl (ro_assign rfl) ?_
          refine wl_nil (x_then (hK24 _ _ ?_))
          clear hK24 K24
          refine wc_cond rfl (fun hc167 => ?_) (fun hc167 => ?_)
          · try simp only [decide_eq_true_eq, decide_eq_false_iff_not, Bool.not_eq_true', Bool.not_eq_false', Bool.not_eq_eq_eq_not, Bool.not_true, Bool.not_false, beq_iff_eq, bne_iff_ne, ne_eq, beq_eq_false_iff_ne, bne_eq_false_iff_eq, gt_iff_lt, ge_iff_le, Int.not_lt, Int.not_le] at hc167
            refine c_skip (x_then ?_)
            exact ⟨rfl, _, by simp; omega, kp _ ⟨rfl, rfl, rfl, rfl, rfl, rfl, rfl, rfl, rfl, rfl, rfl, trivial⟩⟩
          · try simp only [decide_eq_true_eq, decide_eq_false_iff_not, Bool.not_eq_true', Bool.not_eq_false', Bool.not_eq_eq_eq_not, Bool.not_true, Bool.not_false, beq_iff_eq, bne_iff_ne, ne_eq, beq_eq_false_iff_ne, bne_eq_false_iff_eq, gt_iff_lt, ge_iff_le, Int.not_lt, Int.not_le] at hc167
            refine c_reg ?_ -- region 28 exec.go:240
            refine wl (ro_cmp rfl rfl rfl) ?_
            refine wl (ro_assign rfl) ?_
            refine wl_nil (x_then ?_)
            exact ⟨rfl, _, by simp; omega, kp _ ⟨rfl, rfl, rfl, rfl, rfl, rfl, rfl, rfl, rfl, rfl, rfl, trivial⟩⟩
        rintro _ _ ⟨rfl, bb, hbb, e', rfl⟩
        refine wc_cond rfl (fun hc167 => ?_) (fun hc167 => ?_)
        · try simp only [decide_eq_true_eq, decide_eq_false_iff_not, Bool.not_eq_true', Bool.not_eq_false', Bool.not_eq_eq_eq_not, Bool.not_true, Bool.not_false, beq_iff_eq, bne_iff_ne, ne_eq, beq_eq_false_iff_ne, bne_eq_false_iff_eq, gt_iff_lt, ge_iff_le, Int.not_lt, Int.not_le] at hc167
          have h34 := hbb.1 hc167
          rw [if_pos h34] at hL2
          have hn1 : 1 ≤ g.ops.length := by rcases h34 with rfl | rfl <;> exact hnd
          obtain ⟨v, l, ho⟩ := ops_1 (l := g.ops) hn1
          have hvv := E.vo (v := v) (by rw [ho]; simp)
          simp only [ho, List.headD_cons, List.tail_cons] at hL2
          obtain ⟨V1, κ1, Vv1, U1, x1, f1, fs1, o1⟩ := hR.open hc
          obtain ⟨lT1, hT, -, -, -, hT2', -⟩ := o1.v.thA o1.t.hx
          have hT2' := hT2' 2 (.inl rfl)
          have hsl1 := o1.sl
          obtain ⟨m9, hl9, hv9⟩ := o1.topv ho
          obtain ⟨sg, sc, hU⟩ := o1.sg (by omega)
          rw [hU, hl9] at hT2'
          rw [hl9] at hU hsl1
          obtain ⟨lS, hB5, ts, hls, hcs5, hrw, -⟩ := o1.v.stkR o1.t.hx (by rw [hl9]; exact hU)
          have rS := hrw _ _ hv9
          have hsl1 : m9 + 1 ≤ 2500 := by omega
          refine c_seq (fun K25 hK25 => ?_)
          refine c_pi [(0, false), (1, false), (2, false), (3, false), (4, false), (5, false), (6, false), (7, false), (8, false), (9, false), (10, false), (11, false), (12, true), (13, false)] (La b6 _ _ (La b7 _ _ (La b10 _ _ (La C.E.tb _ _ (La sg _ _ (Mz C)))))) mixed (by kernel_rfl) rfl (by kernel_rfl) (po_then (po_blk (po_blk (po_then (po_blk (po_then (po_sc (po_bpp)))))))) (⟨h6, h7, h10, hT, hB5, hR.rz⟩) ?_ -- region 29 exec.go:241
          refine pi_ro rfl (fun w hS => ro_move rfl) ?_
          refine pi_ro rfl (fun w hS => ro_nilCheck rfl) ?_
          refine pi_ro rfl (fun w hS => ro_fieldAddr (k := 2) rfl fo_269_2) ?_
          refine pi_ro rfl (fun w hS => ro_loadB rfl sc_83 (hS.2.2.2.1) (hT2')) ?_
          refine pi_ro rfl (fun w hS => ro_move rfl) ?_
          refine pi_ro rfl (fun w hS => ro_nilCheck rfl) ?_
          refine pi_ro rfl (fun w hS => ro_fieldAddr (k := 2) rfl fo_269_2) ?_
          refine pi_ro rfl (fun w hS => ro_loadB rfl sc_83 (hS.2.2.2.1) (hT2')) ?_
          refine pi_ro rfl (fun w hS => ro_lenL rfl se_83) ?_
          refine pi_ro rfl (fun w hS => ro_arith rfl rfl rfl (Go.IntWalk.i64_in _ (by omega))) ?_
          refine pi_ro rfl (fun w hS => ro_indexAddr (et := 119) (k := 3) rfl rfl se_83 ((show (((m9 + 1 : Nat) : Int) - 1) = ((m9 : Nat) : Int) by omega)) ((by omega))) ?_
          refine pi_ro rfl (fun w hS => ro_loadAggB rfl ag_119 (hS.2.2.2.2.1) (pvc_len _) ((by rw [Nat.zero_add]; exact rS))) ?_
          refine pi_call rfl rfl en_62 (Truthy62 (wf_f hvv.wf hvv.w)) ?_
          rintro _ w12 ⟨rfl, F12⟩
          replace hF := hF.thenDrew.thenN F12
          replace hR := hR.thruN ((Fram.refl none' _).thenDrew.thenN F12)
          replace h6 := F12.blkN h6
          replace h7 := F12.blkN h7
          replace h10 := F12.blkN h10
          replace hT := F12.blkN hT
          replace hB5 := F12.blkN hB5
          refine ⟨⟨h6, h7, h10, hT, hB5, hR.rz⟩, ?_⟩
          refine pi_ro rfl (fun w hS => ro_assign rfl) ?_
          refine pi_nil (x_then (hK25 _ _ ?_))
          clear hK25 K25
          refine forget [(0, _), (1, _), (2, _), (6, _), (7, _), (8, _), (10, _), (11, _), (17, _)] ⟨rfl, rfl, rfl, rfl, rfl, rfl, rfl, rfl, rfl, trivial⟩ (fun e => ?_)
          refine c_seq (fun K26 hK26 => ?_)
          refine c_reg ?_ -- region 30 exec.go:242
          refine wl (ro_move rfl) ?_
          refine wl (ro_fieldAddr (k := 0) rfl fo_322_0) ?_
          refine wl (ro_loadB rfl sc_5 (h10) rfl) ?_
          refine wl (ro_cmp (r := decide (op = 24)) rfl rfl (congrArg some (beqc op 24))) ?_
          refine wl (ro_eqBool (r := trV v == decide (op = 24)) rfl rfl Tryz.underlying4 rfl) ?_
          refine wl_nil (x_then (hK26 _ _ ?_))
          clear hK26 K26
          refine wc_cond rfl (fun hc187 => ?_) (fun hc187 => ?_)
          · try simp only [decide_eq_true_eq, decide_eq_false_iff_not, Bool.not_eq_true', Bool.not_eq_false', Bool.not_eq_eq_eq_not, Bool.not_true, Bool.not_false, beq_iff_eq, bne_iff_ne, ne_eq, beq_eq_false_iff_ne, bne_eq_false_iff_eq, gt_iff_lt, ge_iff_le, Int.not_lt, Int.not_le] at hc187
            rw [if_pos hc187] at hL2
            refine c_reg ?_ -- region 31 exec.go:243
            refine wl (ro_move rfl) ?_
            refine wl (ro_move rfl) ?_
            refine wl (ro_move rfl) ?_
            refine wl_callP rfl en_243 (jumpA hR.dr hc) (fun pv w9 hE => bpp_pan (P := Tryz.prog) (fn := Tryz.f205) (⟨_, _, hmn, hL2, hk3 ▸ AE.go hX hF hE⟩)) ?_
            rintro _ u52 ⟨⟨rfl, ow52, x52, f52, r52⟩, d52⟩
            obtain ⟨h6, kh6⟩ := vm_loc x52 f52 h6 kh6
            obtain ⟨h7, kh7⟩ := vm_loc x52 f52 h7 kh7
            obtain ⟨h10, kh10⟩ := vm_loc x52 f52 h10 kh10
            have hs52 := hF.size
            replace hF := vm_trans hX hF f52
            replace hX := hX.trans hs52 x52
            replace hR := r52
            refine wl_nil (x_blk (x_blk (x_then ?_)))
            exact ⟨k, Nat.lt_succ_self k, _, _, Nat.le_of_succ_le hmn, hL2, d52.trans hd, ajump_cur hc, (kN_of (ajump_cur hc) (ajump_k hc) d52).trans hk, hR.q, hX, hF, h6, kh6, h7, kh7, kp _ ⟨rfl, rfl, rfl, rfl, rfl, trivial⟩⟩
          · try simp only [decide_eq_true_eq, decide_eq_false_iff_not, Bool.not_eq_true', Bool.not_eq_false', Bool.not_eq_eq_eq_not, Bool.not_true, Bool.not_false, beq_iff_eq, bne_iff_ne, ne_eq, beq_eq_false_iff_ne, bne_eq_false_iff_eq, gt_iff_lt, ge_iff_le, Int.not_lt, Int.not_le] at hc187
            rw [if_neg hc187] at hL2
            refine c_seq (fun K27 hK27 => ?_)
            refine c_reg ?_ -- region 32 exec.go:245
            refine wl (ro_move rfl) ?_
            refine wl_call rfl en_244 (popA hR.dr hc ho (by omega)) ?_
            rintro _ u13 ⟨rfl, ow13, x13, f13, r13⟩
            obtain ⟨h6, kh6⟩ := vm_loc x13 f13 h6 kh6
            obtain ⟨h7, kh7⟩ := vm_loc x13 f13 h7 kh7
            obtain ⟨h10, kh10⟩ := vm_loc x13 f13 h10 kh10
            have hs13 := hF.size
            replace hF := vm_trans hX hF f13
            replace hX := hX.trans hs13 x13
            replace hR := r13
            refine wl_nil (x_then (hK27 _ _ ?_))
            clear hK27 K27
            obtain ⟨V33, κ33, Vv33, U33, x33, f33, fs33, o33⟩ := hR.open hc
            have hpe33 : f33.pc = g.pc := o33.t.pc
            obtain ⟨lB33, hB1, kb33, qb33, qc33, hpc33⟩ := o33.pcS
            have hvf33 : tg ow vtT fg ∨ w.heap.size ≤ fg := vt_old hX (by rw [kb33]; left; have := o33.lt; unfold vmT; omega)
            refine c_reg ?_ -- region 33 exec.go:246
            refine wl (ro_move rfl) ?_
            refine wl (ro_nilCheck rfl) ?_
            refine wl (ro_fieldAddr (k := 1) rfl fo_331_1) ?_
            refine wl (ro_loadB rfl sc_3 (hB1) (frow_at qb33 (by decide))) ?_
            refine wl (ro_addN (k := 1) rfl rfl (by omega)) ?_
            refine wl (ro_nilCheck rfl) ?_
            refine wl (ro_fieldAddr (k := 1) rfl fo_331_1) ?_
            refine wl_put rfl rfl rfl sz_3 hB1 ((by omega)) (rfl) (fun w14 hB1 F14 => ?_)
            replace hF := hF.thenDrew.thenO F14 (by first | exact .inr (by omega) | exact .inl rfl | exact .inl (by assumption) | assumption)
            replace h6 := F14.blkO h6 (by first | omega | exact ow_ne (by assumption) (by assumption) (by omega))
            replace h7 := F14.blkO h7 (by first | omega | exact ow_ne (by assumption) (by assumption) (by omega))
            replace h10 := F14.blkO h10 (by first | omega | exact ow_ne (by assumption) (by assumption) (by omega))
            have o6 := hpc33 w14 (g.pc + 1) F14 (by rw [← hpe33]; exact hB1)
            have hR := o6.am
            refine wl_nil (x_blk (x_blk (x_then ?_)))
            exact ⟨k, Nat.lt_succ_self k, _, _, Nat.le_of_succ_le hmn, hL2, hd, rfl, hk, hR.q, hX, hF, h6, kh6, h7, kh7, kp _ ⟨rfl, rfl, rfl, rfl, rfl, trivial⟩⟩
        · try simp only [decide_eq_true_eq, decide_eq_false_iff_not, Bool.not_eq_true', Bool.not_eq_false', Bool.not_eq_eq_eq_not, Bool.not_true, Bool.not_false, beq_iff_eq, bne_iff_ne, ne_eq, beq_eq_false_iff_ne, bne_eq_false_iff_eq, gt_iff_lt, ge_iff_le, Int.not_lt, Int.not_le] at hc167
          have h34 : ¬ (op = 23 ∨ op = 24) := fun q ↦ by have := hbb.2 q; rw [hc167] at this; cases this
          rw [if_neg h34] at hL2
          refine c_seq (fun K28 hK28 => ?_)
          refine c_reg ?_ -- region 34 exec.go:248
          refine wl (ro_cmp rfl rfl rfl) ?_
          refine wl (ro_assign rfl) ?_
          refine wl_nil (x_then (hK28 _ _ ?_))
          clear hK28 K28
          refine wc_cond rfl (fun hc201 => ?_) (fun hc201 => ?_)
          · try simp only [decide_eq_true_eq, decide_eq_false_iff_not, Bool.not_eq_true', Bool.not_eq_false', Bool.not_eq_eq_eq_not, Bool.not_true, Bool.not_false, beq_iff_eq, bne_iff_ne, ne_eq, beq_eq_false_iff_ne, bne_eq_false_iff_eq, gt_iff_lt, ge_iff_le, Int.not_lt, Int.not_le] at hc201
            obtain rfl : op = 26 := by omega
            rw [if_pos rfl] at hL2
            have hAT : AT (Psf C.F) (mkA s1 y gs g s1.vars) := by rw [hmk]; exact hL.sh
            refine c_seq (fun K29 hK29 => ?_)
            refine c_reg ?_ -- region 35 exec.go:249
            refine wl (ro_move rfl) ?_
            refine wl (ro_move rfl) ?_
            refine wl (ro_move rfl) ?_
            refine wl (ro_move rfl) ?_
            refine wl (ro_move rfl) ?_
            refine wl_callP rfl en_245 (callA (E.far hR.dr) hAT hL.n1) (fun pv w9 hE => bpp_pan (P := Tryz.prog) (fn := Tryz.f205) (⟨_, _, hmn, hL2, hk3 ▸ AE.go hX hF hE⟩)) ?_
            rintro r53 u53 ⟨ow53, s53, x53, f53, q53, k53, d53, hE53⟩
            obtain ⟨k0, t0, v0, u0, rfl⟩ : ∃ k t v u, r53 = vevv k t 0 v u := by rcases hE53 with ⟨h, -⟩ | ⟨k, v, h, -⟩ | ⟨v, h, -⟩ <;> exact ⟨_, _, _, _, h⟩
            obtain ⟨h6, kh6⟩ := vm_loc x53 f53 h6 kh6
            obtain ⟨h7, kh7⟩ := vm_loc x53 f53 h7 kh7
            obtain ⟨h10, kh10⟩ := vm_loc x53 f53 h10 kh10
            have hs53 := hF.size
            replace hF := vm_trans hX hF f53
            replace hX := hX.trans hs53 x53
            have hR := q53
            refine wl_puta rfl rfl ((vevc_one _ _ _ _ _)) sz_211 (rfl) h7 ((Nat.le_refl 9)) (rfl) (fun w15 h7 F15 => ?_)
            replace hF := hF.thenDrew.thenO F15 (by first | exact .inr (by omega) | exact .inl rfl | exact .inl (by assumption) | assumption)
            replace h6 := F15.blkO h6 (by first | omega | exact ow_ne (by assumption) (by assumption) (by omega))
            replace h10 := F15.blkO h10 (by first | omega | exact ow_ne (by assumption) (by assumption) (by omega))
            replace hR := hR.hbput ((Fram.refl (one b7) _).thenDrew.thenO F15 (.inl rfl))
            refine wl_nil (x_then (hK29 _ _ ?_))
            clear hK29 K29
            refine forget [(0, _), (1, _), (2, _), (6, _), (7, _)] ⟨rfl, rfl, rfl, rfl, rfl, trivial⟩ (fun e => ?_)
            refine c_seq (fun K30 hK30 => ?_)
            refine c_reg ?_ -- region 36 exec.go:250
            refine wl (ro_fieldAddr (k := 0) rfl fo_211_0) ?_
            refine wl (ro_loadB rfl sc_3 (h7) rfl) ?_
            refine wl (ro_cmp rfl rfl rfl) ?_
            refine wl_nil (x_then (hK30 _ _ ?_))
            clear hK30 K30
            refine wc_cond rfl (fun hc211 => ?_) (fun hc211 => ?_)
            · try simp only [decide_eq_true_eq, decide_eq_false_iff_not, Bool.not_eq_true', Bool.not_eq_false', Bool.not_eq_eq_eq_not, Bool.not_true, Bool.not_false, beq_iff_eq, bne_iff_ne, ne_eq, beq_eq_false_iff_ne, bne_eq_false_iff_eq, gt_iff_lt, ge_iff_le, Int.not_lt, Int.not_le] at hc211
              have hk0 : k0 ≠ 0 := by omega
              refine c_exit (x_blkY rfl (x_blkY rfl (x_thenX (x_blkX (x_then (hK4 _ _ ?_))))))
              clear hK4 K4
              refine forget [(6, _), (7, _)] ⟨rfl, rfl, trivial⟩ (fun e => ?_)
              refine c_seq (fun K31 hK31 => ?_)
              refine c_reg ?_ -- region 40 exec.go:263
              refine wl (ro_loadAggB rfl ag_211 (h7) rfl rfl) ?_
              refine wl_puta rfl rfl ((vevc_one _ _ _ _ _)) sz_211 (rfl) h6 ((Nat.le_refl 9)) (rfl) (fun w16 h6 F16 => ?_)
              replace hF := hF.thenDrew.thenO F16 (by first | exact .inr (by omega) | exact .inl rfl | exact .inl (by assumption) | assumption)
              replace h7 := F16.blkO h7 (by first | omega | exact ow_ne (by assumption) (by assumption) (by omega))
              replace h10 := F16.blkO h10 (by first | omega | exact ow_ne (by assumption) (by assumption) (by omega))
              replace hR := hR.hbput ((Fram.refl (one b6) _).thenDrew.thenO F16 (.inl rfl))
              refine wl_nil (x_then (hK31 _ _ ?_))
              clear hK31 K31
              refine c_ret (x_scR ?_)
              refine bqp_ret (res1 Tryz.results205 (rv_c rfl ag_211 (h6) (rfl))) ?_
              refine ⟨k, _, ow53, s53, hmn, hL2, hX, hF, hR, k53.trans hk, ?_⟩
              rcases hE53 with ⟨h, -⟩ | ⟨k1, v1, h, hz⟩ | ⟨v1, h, h0, hs9, hz⟩
              · exact absurd (vevv_k h) hk0
              · exact .inr (.inl ⟨k1, v1, h, hz⟩)
              · exact .inr (.inr ⟨v1, h, h0, HS.of hTS k53 (hs9.trans (congrArg Prod.snd hk3)), hz⟩)
            · try simp only [decide_eq_true_eq, decide_eq_false_iff_not, Bool.not_eq_true', Bool.not_eq_false', Bool.not_eq_eq_eq_not, Bool.not_true, Bool.not_false, beq_iff_eq, bne_iff_ne, ne_eq, beq_eq_false_iff_ne, bne_eq_false_iff_eq, gt_iff_lt, ge_iff_le, Int.not_lt, Int.not_le] at hc211
              have hk0 : k0 = 0 := by omega
              have hev : vevc k0 t0 0 v0 u0 = vevc 0 0 0 vNil vNil ∧ s53 = acall (Psf C.F) x (mkA s1 y gs g s1.vars) := by
                rcases hE53 with ⟨h, hz⟩ | ⟨k1, v1, h, -⟩ | ⟨v1, h, -⟩
                · exact ⟨vevv_c h, hz⟩
                · have := vevv_k h; omega
                · have := vevv_k h; omega
              refine c_skip (x_blk (x_blk (x_then ?_)))
              rw [hev.1] at h7
              rw [← hev.2] at hL2
              exact ⟨k, Nat.lt_succ_self k, _, _, Nat.le_of_succ_le hmn, hL2, d53, congrArg Prod.fst k53, k53.trans hk, hR, hX, hF, h6, kh6, h7, kh7, kp _ ⟨rfl, rfl, rfl, rfl, rfl, trivial⟩⟩
          · try simp only [decide_eq_true_eq, decide_eq_false_iff_not, Bool.not_eq_true', Bool.not_eq_false', Bool.not_eq_eq_eq_not, Bool.not_true, Bool.not_false, beq_iff_eq, bne_iff_ne, ne_eq, beq_eq_false_iff_ne, bne_eq_false_iff_eq, gt_iff_lt, ge_iff_le, Int.not_lt, Int.not_le] at hc201
            rw [if_neg (by omega)] at hL2
            refine c_seq (fun K32 hK32 => ?_)
            refine c_reg ?_ -- region 37 exec.go:253
            refine wl (ro_cmp rfl rfl rfl) ?_
            refine wl (ro_assign rfl) ?_
            refine wl_nil (x_then (hK32 _ _ ?_))
            clear hK32 K32
            refine wc_cond rfl (fun hc212 => ?_) (fun hc212 => ?_)
            · try simp only [decide_eq_true_eq, decide_eq_false_iff_not, Bool.not_eq_true', Bool.not_eq_false', Bool.not_eq_eq_eq_not, Bool.not_true, Bool.not_false, beq_iff_eq, bne_iff_ne, ne_eq, beq_eq_false_iff_ne, bne_eq_false_iff_eq, gt_iff_lt, ge_iff_le, Int.not_lt, Int.not_le] at hc212
              obtain rfl : op = 27 := by omega
              rw [if_pos rfl] at hL2
              obtain ⟨u, v, l, ho⟩ := ops_2 (l := g.ops) hnd
              simp only [ho, List.getD_cons_zero, List.getD_cons_succ] at hL2
              refine c_seq (fun K33 hK33 => ?_)
              by_cases hg : gs = []
              · skip
                refine c_reg ?_ -- region 38 exec.go:254
                refine wl (ro_move rfl) ?_
                refine wl (ro_move rfl) ?_
                refine wl (ro_move rfl) ?_
                refine wl_call rfl en_246 (retT hR.dr hc ho (by omega) hg) ?_
                rintro _ u17 ⟨rfl, ow17, x17, f17, r17⟩
                obtain ⟨h6, kh6⟩ := vm_loc x17 f17 h6 kh6
                obtain ⟨h7, kh7⟩ := vm_loc x17 f17 h7 kh7
                obtain ⟨h10, kh10⟩ := vm_loc x17 f17 h10 kh10
                have hs17 := hF.size
                replace hF := vm_trans hX hF f17
                replace hX := hX.trans hs17 x17
                replace hR := r17
                refine wl_puta rfl rfl ((vevc_one _ _ _ _ _)) sz_211 (rfl) h7 ((Nat.le_refl 9)) (rfl) (fun w18 h7 F18 => ?_)
                replace hF := hF.thenDrew.thenO F18 (by first | exact .inr (by omega) | exact .inl rfl | exact .inl (by assumption) | assumption)
                replace hR := hR.hbput ((Fram.refl (one b7) _).thenDrew.thenO F18 (.inl rfl))
                replace h6 := F18.blkO h6 (by first | omega | exact ow_ne (by assumption) (by assumption) (by omega))
                replace h10 := F18.blkO h10 (by first | omega | exact ow_ne (by assumption) (by assumption) (by omega))
                refine wl_nil (x_then (hK33 _ _ ?_))
                clear hK33 K33
                refine forget [(0, _), (1, _), (2, _), (6, _), (7, _)] ⟨rfl, rfl, rfl, rfl, rfl, trivial⟩ (fun e => ?_)
                refine c_seq (fun K34 hK34 => ?_)
                refine c_reg ?_ -- region 39 exec.go:255
                refine wl (ro_fieldAddr (k := 0) rfl fo_211_0) ?_
                refine wl (ro_loadB rfl sc_3 (h7) rfl) ?_
                refine wl (ro_cmp rfl rfl rfl) ?_
                refine wl_nil (x_then (hK34 _ _ ?_))
                clear hK34 K34
                refine wc_condT rfl ?_
                refine c_exit (x_blkY rfl (x_blkY rfl (x_thenX (x_blkX (x_then (hK4 _ _ ?_))))))
                clear hK4 K4
                refine forget [(6, _), (7, _)] ⟨rfl, rfl, trivial⟩ (fun e => ?_)
                refine c_seq (fun K35 hK35 => ?_)
                refine c_reg ?_ -- region 40 exec.go:263
                refine wl (ro_loadAggB rfl ag_211 (h7) rfl rfl) ?_
                refine wl_puta rfl rfl ((vevc_one _ _ _ _ _)) sz_211 (rfl) h6 ((Nat.le_refl 9)) (rfl) (fun w19 h6 F19 => ?_)
                replace hF := hF.thenDrew.thenO F19 (by first | exact .inr (by omega) | exact .inl rfl | exact .inl (by assumption) | assumption)
                replace hR := hR.hbput ((Fram.refl (one b6) _).thenDrew.thenO F19 (.inl rfl))
                replace h7 := F19.blkO h7 (by first | omega | exact ow_ne (by assumption) (by assumption) (by omega))
                replace h10 := F19.blkO h10 (by first | omega | exact ow_ne (by assumption) (by assumption) (by omega))
                refine wl_nil (x_then (hK35 _ _ ?_))
                clear hK35 K35
                refine c_ret (x_scR ?_)
                refine bqp_ret (res1 Tryz.results205 (rv_c rfl ag_211 (h6) (rfl))) ?_
                subst hg
                exact ⟨k, _, _, _, hmn, hL2, hX, hF, hR, hk, .inl ⟨_, _, rfl, HS.of hTS rfl (hs_setT.trans (hs_mk.trans (congrArg Prod.snd hk3))), ⟨(E.vo (v := v) (by rw [ho]; simp)).wf, (E.vo (v := v) (by rw [ho]; simp)).w⟩, (aret_0 hc).symm⟩⟩
              · skip
                refine c_reg ?_ -- region 38 exec.go:254
                refine wl (ro_move rfl) ?_
                refine wl (ro_move rfl) ?_
                refine wl (ro_move rfl) ?_
                refine wl_call rfl en_246 (retF hR.dr hc ho (by omega) hg) ?_
                rintro _ u20 ⟨rfl, ow20, x20, f20, r20⟩
                obtain ⟨h6, kh6⟩ := vm_loc x20 f20 h6 kh6
                obtain ⟨h7, kh7⟩ := vm_loc x20 f20 h7 kh7
                obtain ⟨h10, kh10⟩ := vm_loc x20 f20 h10 kh10
                have hs20 := hF.size
                replace hF := vm_trans hX hF f20
                replace hX := hX.trans hs20 x20
                replace hR := r20
                refine wl_puta rfl rfl ((vevc_one _ _ _ _ _)) sz_211 (rfl) h7 ((Nat.le_refl 9)) (rfl) (fun w21 h7 F21 => ?_)
                replace hF := hF.thenDrew.thenO F21 (by first | exact .inr (by omega) | exact .inl rfl | exact .inl (by assumption) | assumption)
                replace hR := hR.hbput ((Fram.refl (one b7) _).thenDrew.thenO F21 (.inl rfl))
                replace h6 := F21.blkO h6 (by first | omega | exact ow_ne (by assumption) (by assumption) (by omega))
                replace h10 := F21.blkO h10 (by first | omega | exact ow_ne (by assumption) (by assumption) (by omega))
                refine wl_nil (x_then (hK33 _ _ ?_))
                clear hK33 K33
                refine forget [(0, _), (1, _), (2, _), (6, _), (7, _)] ⟨rfl, rfl, rfl, rfl, rfl, trivial⟩ (fun e => ?_)
                refine c_seq (fun K36 hK36 => ?_)
                refine c_reg ?_ -- region 39 exec.go:255
                refine wl (ro_fieldAddr (k := 0) rfl fo_211_0) ?_
                refine wl (ro_loadB rfl sc_3 (h7) rfl) ?_
                refine wl (ro_cmp rfl rfl rfl) ?_
                refine wl_nil (x_then (hK36 _ _ ?_))
                clear hK36 K36
                refine wc_condF rfl ?_
                refine c_skip (x_blk (x_blk (x_then ?_)))
                exact ⟨k, Nat.lt_succ_self k, _, _, Nat.le_of_succ_le hmn, hL2, (aret_q hc hg).2.trans hd, (aret_q hc hg).1, (kN_of (aret_q hc hg).1 (aret_k hc hg) (aret_q hc hg).2).trans hk, hR, hX, hF, h6, kh6, h7, kh7, kp _ ⟨rfl, rfl, rfl, rfl, rfl, trivial⟩⟩
            · try simp only [decide_eq_true_eq, decide_eq_false_iff_not, Bool.not_eq_true', Bool.not_eq_false', Bool.not_eq_eq_eq_not, Bool.not_true, Bool.not_false, beq_iff_eq, bne_iff_ne, ne_eq, beq_eq_false_iff_ne, bne_eq_false_iff_eq, gt_iff_lt, ge_iff_le, Int.not_lt, Int.not_le] at hc212
              rw [if_neg (by omega)] at hL2
              refine c_seq (fun K37 hK37 => ?_)
              refine c_reg ?_ -- region 18 exec.go:259
              refine wl (ro_move rfl) ?_
              refine wl (ro_move rfl) ?_
              refine wl (ro_move rfl) ?_
              refine wl (ro_move rfl) ?_
              refine wl (ro_move rfl) ?_
              refine wl (ro_fieldAddr (k := 0) rfl fo_322_0) ?_
              refine wl (ro_loadB rfl sc_5 (h10) rfl) ?_
              refine wl (ro_move rfl) ?_
              refine wl_callP rfl en_247 (plainA (E.far hR.dr) ⟨by omega, by omega, by omega⟩) (fun pv w9 hE => bpp_pan (P := Tryz.prog) (fn := Tryz.f205) (⟨_, _, hmn, hL2, hk3 ▸ AE.go hX hF hE⟩)) ?_
              rintro _ u54 ⟨a5, g5, vars5, ka5, ta5, hz5, rfl, ow54, x54, f54, r54⟩
              obtain ⟨h6, kh6⟩ := vm_loc x54 f54 h6 kh6
              obtain ⟨h7, kh7⟩ := vm_loc x54 f54 h7 kh7
              obtain ⟨h10, kh10⟩ := vm_loc x54 f54 h10 kh10
              have hs54 := hF.size
              replace hF := vm_trans hX hF f54
              replace hX := hX.trans hs54 x54
              replace hR := r54
              have kb5 : kN a5 = kN s1 := congrArg Prod.fst ka5
              have pc5 : g5.pc = g.pc := congrArg Prod.snd ka5
              have cu5 : a5.cur = s1.cur := congrArg Prod.fst kb5
              have hc5 : a5.cur < a5.ths.length := by rw [cu5, ta5]; exact hc
              rw [← hz5] at hL2
              refine wl_nil (x_then (hK37 _ _ ?_))
              clear hK37 K37
              obtain ⟨V19, κ19, Vv19, U19, x19, f19, fs19, o19⟩ := AM.open (a := a5) hR hc5
              have hpe19 : f19.pc = g5.pc := o19.t.pc
              obtain ⟨lB19, hB1, kb19, qb19, qc19, hpc19⟩ := o19.pcS
              have hvf19 : tg ow vtT fg ∨ w.heap.size ≤ fg := vt_old hX (by rw [kb19]; left; have := o19.lt; unfold vmT; omega)
              refine c_reg ?_ -- region 19 exec.go:260
              refine wl (ro_move rfl) ?_
              refine wl (ro_nilCheck rfl) ?_
              refine wl (ro_fieldAddr (k := 1) rfl fo_331_1) ?_
              refine wl (ro_loadB rfl sc_3 (hB1) (frow_at qb19 (by decide))) ?_
              refine wl (ro_addN (k := 1) rfl rfl (by omega)) ?_
              refine wl (ro_nilCheck rfl) ?_
              refine wl (ro_fieldAddr (k := 1) rfl fo_331_1) ?_
              refine wl_put rfl rfl rfl sz_3 hB1 ((by omega)) (rfl) (fun w22 hB1 F22 => ?_)
              replace hF := hF.thenDrew.thenO F22 (by first | exact .inr (by omega) | exact .inl rfl | exact .inl (by assumption) | assumption)
              replace h6 := F22.blkO h6 (by first | omega | exact ow_ne (by assumption) (by assumption) (by omega))
              replace h7 := F22.blkO h7 (by first | omega | exact ow_ne (by assumption) (by assumption) (by omega))
              replace h10 := F22.blkO h10 (by first | omega | exact ow_ne (by assumption) (by assumption) (by omega))
              have o6 := hpc19 w22 (g5.pc + 1) F22 (by rw [← hpe19]; exact hB1)
              have hR := o6.am
              refine wl_nil (x_blk (x_blk (x_then ?_)))
              exact ⟨k, Nat.lt_succ_self k, _, _, Nat.le_of_succ_le hmn, hL2, (congrArg (fun q ↦ q.2.2.2) kb5).trans hd, cu5, kb5.trans hk, hR.q, hX, hF, h6, kh6, h7, kh7, kp _ ⟨rfl, rfl, rfl, rfl, rfl, trivial⟩⟩
  intro l m a' w' hJ rest hr
  · skip
    exact hJ.elim
end
end Go.Proofs.Qxb6500568aGreatDoor
