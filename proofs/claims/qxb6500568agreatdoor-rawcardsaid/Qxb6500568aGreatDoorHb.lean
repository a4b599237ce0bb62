import Derived.Test.Qxb6500568aGreatDoorKz
/- The machine: a new closure. -/
namespace Go.Proofs.Qxb6500568aGreatDoor
open Ieee
set_option linter.unusedVariables false
set_option linter.unusedSimpArgs false
set_option linter.unusedSectionVars false

theorem capAll_snoc {t base : Nat} {ups : List Nat} {d : Nat × Nat} : ∀ (ds : List (Nat × Nat)) (V : VS), capAll t base ups (ds ++ [d]) V =
    ((capAll t base ups ds V).1 ++ [(if d.1 = 1 then capV (capAll t base ups ds V).2 t (base + d.2) else (ups.getD d.2 0, (capAll t base ups ds V).2)).1], (if d.1 = 1 then capV (capAll t base ups ds V).2 t (base + d.2) else (ups.getD d.2 0, (capAll t base ups ds V).2)).2)
  | [], V => rfl
  | q :: r, V => by
    have ih := capAll_snoc (t := t) (base := base) (ups := ups) (d := d) r (if q.1 = 1 then capV V t (base + q.2) else (ups.getD q.2 0, V)).2
    show ((if q.1 = 1 then capV V t (base + q.2) else (ups.getD q.2 0, V)).1 :: (capAll t base ups (r ++ [d]) (if q.1 = 1 then capV V t (base + q.2) else (ups.getD q.2 0, V)).2).1, (capAll t base ups (r ++ [d]) (if q.1 = 1 then capV V t (base + q.2) else (ups.getD q.2 0, V)).2).2) = _
    rw [ih]
    rfl
theorem capAll_len {t base : Nat} {ups : List Nat} : ∀ (ds : List (Nat × Nat)) (V : VS), (capAll t base ups ds V).1.length = ds.length
  | [], V => rfl
  | d :: r, V => by
    show ((capAll t base ups r (if d.1 = 1 then capV V t (base + d.2) else (ups.getD d.2 0, V)).2).1).length + 1 = _
    rw [capAll_len r]; rfl
theorem Own.same {H : Array Obj} {v : Value} {e k n n' : Nat} {xs xs' : List Value} (h : Own H v e k n xs) (h' : Own H v e k n' xs') : n = n' ∧ xs = xs' := by
  obtain ⟨a, c, e1⟩ := h.form
  obtain ⟨a', c', e2⟩ := h'.form
  rw [e1] at e2
  injection e2 with _ e3
  subst e3
  refine ⟨rfl, ?_⟩
  rcases h.2 with ⟨p1, p2⟩ | ⟨g, cap, l, p1, p2, p3, p4, p5, p6⟩
  · have q1 := h.1
    have q2 := h'.1
    rw [p2, Nat.zero_mul] at q1 q2
    rw [List.length_eq_zero_iff.1 q1, List.length_eq_zero_iff.1 q2]
  · rcases h'.2 with ⟨r1, r2⟩ | ⟨g', cap', l', r1, r2, r3, r4, r5, r6⟩
    · rw [p1] at r1; cases r1
    · rw [p1] at r1
      cases r1
      rw [← p6, ← r6, (p2.uniq r2).1]
theorem i64_inj : ∀ {l l' : List Nat}, l.map i64c = l'.map i64c → l = l'
  | [], [], _ => rfl
  | [], _ :: _, h => by cases h
  | _ :: _, [], h => by cases h
  | a :: l, b :: l', h => by
    rw [List.map_cons, List.map_cons] at h
    injection h with h1 h2
    have h1 : Value.int .i64 (a : Int) = .int .i64 (b : Int) := h1
    injection h1 with _ h1
    rw [i64_inj h2, show a = b by omega]
theorem vcc_inj : ∀ {l l' : List (Nat × Nat × Nat)}, rws vcc l = rws vcc l' → l = l'
  | [], [], _ => rfl
  | [], _ :: _, h => by simp [rws, vcc] at h
  | _ :: _, [], h => by simp [rws, vcc] at h
  | (a, b, c) :: l, (a', b', c') :: l', h => by
    have h : i64c a :: i64c b :: i64c c :: rws vcc l = i64c a' :: i64c b' :: i64c c' :: rws vcc l' := h
    injection h with h1 h
    injection h with h2 h
    injection h with h3 h4
    have h1 : Value.int .i64 (a : Int) = .int .i64 (a' : Int) := h1
    have h2 : Value.int .i64 (b : Int) = .int .i64 (b' : Int) := h2
    have h3 : Value.int .i64 (c : Int) = .int .i64 (c' : Int) := h3
    injection h1 with _ h1
    injection h2 with _ h2
    injection h3 with _ h3
    rw [vcc_inj h4, show a = a' by omega, show b = b' by omega, show c = c' by omega]
section
variable {F : Fns} {L L' : VL} {V : VS} {fuel e t : Nat} {out : Str} {x x' : VTh}
theorem VSL.upx (h : VSL F L V fuel out e) {ux : List Nat} (hu : L.A 7 = (ux.length, ux.map i64c)) (c : Nat) (hb : ux.length + 1 ≤ 300 * V.clos.length + e) (hb2 : ux.length + 1 ≤ (fCl V.clos).length + e) : VSL F { L with A := up1 L.A 7 ((ux ++ [c]).length, (ux ++ [c]).map i64c) } V fuel out e := by
  obtain ⟨cl, ux', c1, c2, c3, c4⟩ := h.c
  have he : ux' = ux := by
    rw [hu] at c2
    injection c2 with _ c2
    exact (i64_inj c2).symm
  subst he
  have hne : ∀ i, i ≠ 7 → up1 L.A 7 ((ux' ++ [c]).length, (ux' ++ [c]).map i64c) i = L.A i := fun i q => up1_ne q
  exact ⟨h.p.up (by decide), (fun i h1 h2 => by show (up1 L.A 7 _ i).1 ≤ _; rw [hne i (by omega)]; exact h.pb i h1 h2), ⟨cl, ux' ++ [c], (hne 6 (by decide)).trans c1, up1_self L.A 7 _, ⟨c3.1, (fun k p cs hk => by
    obtain ⟨up, k1, k2⟩ := c3.2.1 k p cs hk
    exact ⟨up, k1, k2.app _⟩), c3.2.2.1, by
    obtain ⟨r, r1, r2⟩ := c3.2.2.2
    refine ⟨r ++ [c], by rw [r1, List.append_assoc], ?_⟩
    rw [r1, List.length_append] at hb2
    rw [List.length_append, List.length_singleton]; omega⟩, by rw [List.length_append, List.length_singleton]; exact hb⟩, (hne 8 (by decide)).trans h.e, h.eb, (hne 11 (by decide)).trans h.o, h.t, h.sb, h.n, h.f, h.z, h.ec⟩
theorem VSL.clo (h : VSL F L V fuel out e) {cl : List (Nat × Nat × Nat)} (hcl : L.A 6 = (cl.length, rws vcc cl)) {ux : List Nat} (hu : L.A 7 = (ux.length, ux.map i64c)) {p up : Nat} {cs : List Nat} (hw : Win ux up cs) (he : e ≤ 300) (hfx : ux = fCl V.clos ++ cs) (hfu : up = (fCl V.clos).length) (he2 : e ≤ cs.length) :
    VSL F { L with A := up1 L.A 6 ((cl ++ [(p, up, cs.length)]).length, rws vcc (cl ++ [(p, up, cs.length)])) } { V with clos := V.clos ++ [(p, cs)] } fuel out 0 ∧ cl.length = V.clos.length := by
  obtain ⟨cl', ux', c1, c2, c3, c4⟩ := h.c
  have hux : ux' = ux := by
    rw [hu] at c2
    injection c2 with _ c2
    exact (i64_inj c2).symm
  subst hux
  have hcc : cl' = cl := by
    rw [hcl] at c1
    injection c1 with c0 c1
    exact (vcc_inj c1).symm
  subst hcc
  have hne : ∀ i, i ≠ 6 → up1 L.A 6 ((cl' ++ [(p, up, cs.length)]).length, rws vcc (cl' ++ [(p, up, cs.length)])) i = L.A i := fun i q => up1_ne q
  have hlen := c3.1
  refine ⟨⟨h.p.up (by decide), (fun i h1 h2 => by show (up1 L.A 6 _ i).1 ≤ _; rw [hne i (by omega)]; exact h.pb i h1 h2), ⟨cl' ++ [(p, up, cs.length)], ux', up1_self L.A 6 _, (hne 7 (by decide)).trans c2, ⟨by show (cl' ++ [_]).length = (V.clos ++ [_]).length; simp [hlen], fun k p' cs' hk => ?_, ?_, [], ?_, Nat.le_refl _⟩, by show _ ≤ 300 * (V.clos ++ [_]).length + 0; rw [List.length_append, List.length_singleton]; omega⟩, (hne 8 (by decide)).trans h.e, by show V.cells.length ≤ 300 * (V.clos ++ [_]).length + 0; have := h.eb; rw [List.length_append, List.length_singleton]; omega, (hne 11 (by decide)).trans h.o, h.t, h.sb, h.n, h.f, h.z, ?_⟩, hlen⟩
  rotate_left
  · show cl' ++ [(p, up, cs.length)] = clT 0 (V.clos ++ [(p, cs)])
    rw [clT_app, Nat.zero_add, ← c3.2.2.1, hfu]
  · show ux' = fCl (V.clos ++ [(p, cs)]) ++ []
    rw [hfx]; simp [fCl]
  · have := h.ec
    show V.cells.length ≤ (fCl (V.clos ++ [(p, cs)])).length + 0
    have e9 : (fCl (V.clos ++ [(p, cs)])).length = (fCl V.clos).length + cs.length := by simp [fCl]
    omega
  have hk : (V.clos ++ [(p, cs)])[k]? = some (p', cs') := hk
  by_cases hl : k < V.clos.length
  · rw [List.getElem?_append_left hl] at hk
    obtain ⟨up', k1, k2⟩ := c3.2.1 k p' cs' hk
    exact ⟨up', by rw [List.getElem?_append_left (by omega)]; exact k1, k2⟩
  · rw [List.getElem?_append_right (by omega)] at hk
    rcases he : k - V.clos.length with _ | j
    · rw [he] at hk
      simp at hk
      obtain ⟨rfl, rfl⟩ := hk
      refine ⟨up, ?_, hw⟩
      rw [List.getElem?_append_right (by omega), show k - cl'.length = 0 by omega]
      rfl
    · rw [he] at hk; simp at hk
end
section
variable {P : Program} {n : Nat} {e : Nat → Option Value} {w : World}
theorem ro_addN {t t' : TypeId} {x y : Operand} {m k : Nat} (hx : evO n e x = some (i64c m)) (hy : evO n e y = some (i64c k)) (hm : m + k < 9223372036854775808) : RO P n e w (.binOp .add t x y t') (i64c (m + k)) := by
  have e : ((m : Int) + (k : Int)) = ((m + k : Nat) : Int) := by omega
  have := ro_arith (P := P) (w := w) (op := .add) (t := t) (t' := t') hx hy rfl (Go.IntWalk.i64_in _ (by omega))
  rw [e] at this
  exact this
theorem ro_sliceLHn {t et k b o len cap l h m : Nat} {q q' : IntKind} {lo hi : Int} {x y z : Operand} (hx : evO n e x = some (.slice (some ⟨b, o, none⟩) len cap)) (hy : evO n e y = some (.int q lo)) (hz : evO n e z = some (.int q' hi)) (ht : selB P t et k = true)
    (hl : lo = (l : Int)) (hh : hi = (h : Int)) (h1 : h = l + m) (h2 : h ≤ cap) : RO P n e w (.slice t x (some y) (some z) none) (.slice (some ⟨b, if cap = l then o else o + l * k, none⟩) m (cap - l)) := by
  have := ro_sliceLH (P := P) (n := n) (e := e) (w := w) hx hy hz ht hl hh (by omega) h2
  rw [show h - l = m by omega] at this
  have e1 : (if cap = l then (⟨b, o, none⟩ : Addr) else ⟨b, o + l * k, none⟩) = ⟨b, if cap = l then o else o + l * k, none⟩ := by split <;> rfl
  rw [e1] at this
  exact this
theorem ro_sliceLH0 {t et k cap : Nat} {q q' : IntKind} {lo hi : Int} {x y z : Operand} (hx : evO n e x = some (.slice none 0 cap)) (hy : evO n e y = some (.int q lo)) (hz : evO n e z = some (.int q' hi)) (ht : selB P t et k = true)
    (hl : lo = 0) (hh : hi = 0) : RO P n e w (.slice t x (some y) (some z) none) (.slice none 0 cap) := by
  intro ds dst ty ps af g
  obtain ⟨t1, t2⟩ := selB_spec ht
  subst hl hh
  simp [execOp, evO_eval hx, evO_eval hy, evO_eval hz, Instr.sliceAt, run_underlying t1, Instr.slice, Instr.sliceBounds, Instr.sliceBound, asIntOf, run_sizeOf t2, addr_add]
end
section
variable {C : VC} {w w' w1 u u1 u2 : World} {ow ow' ow1 : Nat → Nat} {s : AS} {a : AS} {y : ATh} {gs : List AFr} {g : AFr} {vars : List PV} {fg fc : Nat} {V : VS} {κ : List Nat} {Vv : Nat → Value} {U : Nat → Nat → Value} {x : VTh} {f : VFr} {fs : List VFr} {L : VL}
theorem upc_bd {F : Fns} {j : Nat} (h : FOK (fsAt F j)) : (fsAt F j).ups.length ≤ 144 ∧ ∀ d ∈ (fsAt F j).ups, d.1 < 256 ∧ d.2 < 256 := by
  obtain ⟨-, -, -, -, -, d, hd, hu⟩ := h
  refine ⟨by have := hu.len; omega, fun e he => ?_⟩
  rcases hu.2 e he with q | q <;> omega
def clF (C : VC) (ow : Nat → Nat) (t b : Nat) : Prop := cpS C ow t b ∨ ow b = 407
theorem clF_vt {t b : Nat} (ht : t < 5) (htt : ow C.E.tb = 409) (htm : ow C.E.mb = 400) (h : clF C ow t b) : vtT (ow b) := by
  rcases h with (h | h | h | h) | h
  · rw [h]; exact vt_mb htm
  · rw [h]; exact vt_tb htt
  · exact vt_408 h
  · rw [h]; left; unfold vmT; omega
  · rw [h]; left; unfold vmT; omega
theorem clF_no {t b : Nat} (htt : ow C.E.tb = 409) (htm : ow C.E.mb = 400) (h1 : ow b = 402 ∨ ow b = 403 ∨ ow b = 406 ∨ (450 ≤ ow b ∧ ow b < 455) ∨ ow b = 66) (ht : t < 5) : ¬ clF C ow t b := by
  rintro ((h | h | h | h) | h)
  · rw [h, htm] at h1; omega
  · rw [h, htt] at h1; omega
  · omega
  · omega
  · omega
theorem capAll_clos {t base : Nat} {ups : List Nat} : ∀ (ds : List (Nat × Nat)) (V : VS), (capAll t base ups ds V).2.clos = V.clos
  | [], V => rfl
  | d :: r, V => by
    show (capAll t base ups r (if d.1 = 1 then capV V t (base + d.2) else (ups.getD d.2 0, V)).2).2.clos = _
    rw [capAll_clos r]
    split
    · exact (capV_same V t _).1
    · rfl
theorem capV_frs (V : VS) (t pl k : Nat) {x : VTh} (hx : V.ths[k]? = some x) : ∃ o, (capV V t pl).2.ths[k]? = some { x with opn := o } := by
  unfold capV
  dsimp only
  split
  · exact ⟨x.opn, hx⟩
  · show ∃ o, (V.ths.set t _)[k]? = _
    rw [List.getElem?_set]
    have hl := (List.getElem?_eq_some_iff.1 hx).1
    by_cases hk : t = k
    · subst hk
      rw [if_pos rfl, if_pos hl, List.getD_eq_getElem?_getD, hx]
      exact ⟨_, rfl⟩
    · rw [if_neg hk]; exact ⟨x.opn, hx⟩
theorem capAll_frs {t base k : Nat} {ups : List Nat} : ∀ (ds : List (Nat × Nat)) (V : VS) {x : VTh}, V.ths[k]? = some x → ∃ o, (capAll t base ups ds V).2.ths[k]? = some { x with opn := o }
  | [], V, x, hx => ⟨x.opn, hx⟩
  | d :: r, V, x, hx => by
    show ∃ o, (capAll t base ups r (if d.1 = 1 then capV V t (base + d.2) else (ups.getD d.2 0, V)).2).2.ths[k]? = _
    by_cases h1 : d.1 = 1
    · rw [if_pos h1]
      obtain ⟨o1, h2⟩ := capV_frs V t (base + d.2) k hx
      obtain ⟨o2, h3⟩ := capAll_frs (t := t) (base := base) (ups := ups) r _ h2
      exact ⟨o2, h3⟩
    · rw [if_neg h1]
      exact capAll_frs r V hx
/-- a closure's upvalue. -/
theorem VW.upA {e fuel : Nat} {out : Str} {T : List Tb} (h : VW C w ow V e fuel out T Vv U) {c p k q : Nat} {cs : List Nat} (hc : V.clos[c]? = some (p, cs)) (hq : cs[q]? = some k) : ∃ cg cc l up ug uc ul un, Vv 6 = .slice (some ⟨cg, 0, none⟩) V.clos.length cc ∧ Blk w.heap cg l 209 ∧ (l.drop (0 + c * 3)).take 3 = vcc (p, up, cs.length) ∧ Vv 7 = .slice (some ⟨ug, 0, none⟩) un uc ∧ Blk w.heap ug ul 3 ∧ up + q < un ∧ un ≤ 8000 ∧ ul[0 + (up + q) * 1]? = some (i64c k) := by
  obtain ⟨L, op, vl⟩ := h.ex
  obtain ⟨cl, ux, c6, c7, cR, cb⟩ := vl.c
  obtain ⟨up, d1, d2⟩ := cR.lt hc
  have d3 := d2.get hq
  have h1 := h.cb
  have h2 := h.eb
  obtain ⟨cg, ccap, cL, e6, hB2, -, -, -, t6, r6⟩ := (op.clk c6).at vcc_len d1
  obtain ⟨ug, ucap, uL, e7, hB3, -, -, -, t7, r7⟩ := (op.uxk c7).atN d3
  rw [cR.1] at e6
  exact ⟨cg, ccap, cL, up, ug, ucap, uL, ux.length, e6, hB2, r6 _ _ d1, e7, hB3, (List.getElem?_eq_some_iff.1 d3).1, by omega, r7 _ _ d3⟩
/-- some of the cells taken. -/
theorem RZ.capI {Ps : List Proto} (h : RZ Ps V (mkA a y gs g vars) κ) (hc : a.cur < a.ths.length) (T : Tp V a.cur y gs g x f fs) {p : Nat} {ids cs : List Nat} (hk : a.clos[g.clo]? = some (p, ids)) (hcs : V.clos[g.clo]? = some (p, cs)) {ds : List (Nat × Nat)} (hd : ∀ d ∈ ds, (d.1 = 1 ∧ d.2 < g.slots.length) ∨ (d.1 = 0 ∧ d.2 < ids.length)) :
    ∃ κ', RZ Ps (capAll a.cur f.base cs ds V).2 (mkA a y gs g vars) κ' := by
  obtain ⟨q1, q2⟩ := h.r.clo _ _ _ hcs
  have hk' : (mkA a y gs g vars).clos[g.clo]? = some (p, ids) := hk
  rw [hk'] at q1
  injection q1 with q1
  injection q1 with e1 e2
  have hlen : cs.length = ids.length := by rw [e2]; simp
  obtain ⟨κ', k1, k2, k3, k4, k5, k6⟩ := R.capAll (t := a.cur) (base := f.base) (sl := g.slots) (ups := cs) (ids := ids) (ds := ds) h.r (fun d hd' => by
    rcases hd d hd' with ⟨r1, r2⟩ | ⟨r1, r2⟩
    · exact .inl ⟨r1, g.slots[d.2], List.getElem?_eq_getElem r2, T.slot hc (List.getElem?_eq_getElem r2)⟩
    · exact .inr ⟨r1, by omega⟩) e2 q2
  exact ⟨κ', k2, h.z, VZ.capAll ds h.v, VD.capAll ds h.d⟩
/-- a closure under way. -/
structure ClW (C : VC) (w : World) (ow : Nat → Nat) (a : AS) (V : VS) (base : Nat) (cs : List Nat) (ds : List (Nat × Nat)) (ux : List Nat) (Vv : Nat → Value) (U : Nat → Nat → Value) (i : Nat) (u : World) (ow' : Nat → Nat) (Vv' : Nat → Value) (U' : Nat → Nat → Value) : Prop where
  x : Xt w ow ow'
  f : Fram (clF C ow a.cur) w u
  v : VW C u ow' (capAll a.cur base cs (ds.take i) V).2 i a.fuel a.out a.tabs Vv' U'
  u7 : OwT u ow' 407 (Vv' 7) 3 1 (ux ++ (capAll a.cur base cs (ds.take i) V).1).length ((ux ++ (capAll a.cur base cs (ds.take i) V).1).map i64c)
  uu : ∀ j k, ¬ (j = a.cur ∧ k = 4) → U' j k = U j k
  vv : ∀ k, k ≠ 7 → k ≠ 8 → Vv' k = Vv k
set_option maxHeartbeats 8000000 in
theorem closN (hR : AM C fg fc w ow (mkA a y gs g vars)) (hc : a.cur < a.ths.length) (h24 : 24 ≤ a.clos.length) {q : Nat} : RetP Tryz.prog 273 [ptr C.E.mb, i64c a.cur, tptr C a.cur, fpt fg gs.length, i64c q] w (fun _ _ => False) (fun p w' => p = .iface 336 (i64c 8) ∧ w' = w) := by
  obtain ⟨V, κ, Vv, U, hv, hz, hu⟩ := hR
  obtain ⟨L, op, vl⟩ := hv.ex
  obtain ⟨cl, ux, c6, c7, cR, cb⟩ := vl.c
  obtain ⟨ca, cc, e6⟩ := (op.clk c6).form
  have hl : cl.length = a.clos.length := by rw [cR.1, hz.r.clen]; rfl
  have hM := op.m
  unfold mbc at hM
  rw [e6] at hM
  refine retp_of Tryz.func273 rfl Tryz.ntmps273 rfl ?_
  refine c_seq (fun K1 hK1 => ?_)
  refine c_reg ?_ -- region 0 cells.go:57
  refine wl (ro_assign rfl) ?_
  refine wl_nil (x_then (hK1 _ _ ?_))
  clear hK1 K1
  refine c_seq (fun K2 hK2 => ?_)
  refine c_seq (fun K3 hK3 => ?_)
  refine c_reg ?_ -- region 1 cells.go:58
  refine wl (ro_move rfl) ?_
  refine wl (ro_nilCheck rfl) ?_
  refine wl (ro_fieldAddr (k := 6) rfl fo_89_6) ?_
  refine wl (ro_loadB rfl sc_85 (hM) rfl) ?_
  refine wl (ro_lenL rfl se_85) ?_
  refine wl (ro_cmp rfl rfl rfl) ?_
  refine wl_nil (x_then (hK3 _ _ ?_))
  clear hK3 K3
  refine wc_cond rfl (fun hc21 => ?_) (fun hc21 => ?_)
  · try simp only [decide_eq_true_eq, decide_eq_false_iff_not, Bool.not_eq_true', Bool.not_eq_false', Bool.not_eq_eq_eq_not, Bool.not_true, Bool.not_false, beq_iff_eq, bne_iff_ne, ne_eq, beq_eq_false_iff_ne, bne_eq_false_iff_eq, gt_iff_lt, ge_iff_le, Int.not_lt, Int.not_le] at hc21
    refine c_reg ?_ -- region 2 cells.go:59
    refine wl_callP rfl en_240 (stop240 (e := 8)) (fun pv w9 hE => bpp_pan (P := Tryz.prog) (fn := Tryz.f273) (hE)) ?_
    rintro _ _ ⟨⟩
  · try simp only [decide_eq_true_eq, decide_eq_false_iff_not, Bool.not_eq_true', Bool.not_eq_false', Bool.not_eq_eq_eq_not, Bool.not_true, Bool.not_false, beq_iff_eq, bne_iff_ne, ne_eq, beq_eq_false_iff_ne, bne_eq_false_iff_eq, gt_iff_lt, ge_iff_le, Int.not_lt, Int.not_le] at hc21
    exfalso; omega
set_option maxHeartbeats 8000000 in
theorem closA (hR : AM C fg fc w ow (mkA a y gs g vars)) (hc : a.cur < a.ths.length) {p : Nat} {ids : List Nat} (hk : a.clos[g.clo]? = some (p, ids)) (h24 : a.clos.length < 24) {q : Nat} (hq : q < C.F.length) (hd : ∀ d ∈ (fsAt C.F q).ups, (d.1 = 1 ∧ d.2 < g.slots.length) ∨ (d.1 = 0 ∧ d.2 < ids.length)) :
    Ret Tryz.prog 273 [ptr C.E.mb, i64c a.cur, tptr C a.cur, fpt fg gs.length, i64c q] w (AR C fg fc w ow (i64c a.clos.length) { mkA a y gs g vars with clos := a.clos ++ [(q, aups (mkA a y gs g vars) (fsAt C.F q).ups)] }) := by
  obtain ⟨V, κ, Vv, U, x, f, fs, o⟩ := hR.open hc
  obtain ⟨cs, κ', n1, n2, n3, n4⟩ := o.z.newC (j := q) hc o.t hk hd
  obtain ⟨L, op, vl⟩ := o.v.ex
  obtain ⟨cl, ux, c6, c7, cR, cb⟩ := vl.c
  have hux : ux = fCl V.clos := by
    obtain ⟨r, r1, r2⟩ := cR.2.2.2
    rw [r1, List.length_eq_zero_iff.1 (Nat.le_zero.1 r2), List.append_nil]
  obtain ⟨ca, cc, e6⟩ := (op.clk c6).form
  obtain ⟨ua, uc, e7⟩ := (op.uxk c7).form
  have hl : cl.length = a.clos.length := by rw [cR.1, o.z.r.clen]; rfl
  have hM := op.m
  unfold mbc at hM
  rw [o.v.hp, e6, e7] at hM
  obtain ⟨pl, pa, pb, pc, hP, tp, rp, ⟨D, oD, wD, bD⟩, -, -⟩ := o.v.pro hq
  obtain ⟨da, dc, e3⟩ := oD.form
  rw [e3] at hM
  obtain ⟨hu144, hubd⟩ := upc_bd (o.v.co.fok q)
  obtain ⟨ds, hds⟩ : ∃ ds, ds = (fsAt C.F q).ups := ⟨_, rfl⟩
  rw [← hds] at hd n3 n4 hu144 hubd wD ⊢
  have hX : Xt w ow ow := Xt.refl _ _
  have hF : Fram (clF C ow a.cur) w w := Fram.refl _ _
  have htt := o.v.tt.1
  have htm := o.v.tt.2
  have hcb := o.v.cb
  have hlt5 := o.lt
  have hdp := o.dp
  have hwl := wD.1
  have hdc : D.length ≤ dc := by rw [e3] at oD; exact oD.capge
  have hI0 : ClW C w ow a V f.base cs ds ux Vv U 0 w ow Vv U := ⟨hX, hF, o.v, by show OwT w ow 407 (Vv 7) 3 1 (ux ++ []).length ((ux ++ []).map i64c); rw [List.append_nil]; exact op.uxk c7, fun _ _ _ => rfl, fun _ _ _ => rfl⟩
  have rp2 : (pl.drop (0 + q * 8)).take 8 = [i64c (fsAt C.F q).np, i64c (fsAt C.F q).ns, i64c pa, i64c ds.length, i64c pb, i64c (fsAt C.F q).ks.length, i64c pc, i64c (fsAt C.F q).code.length] := by rw [hds]; exact rp
  refine ret_of Tryz.func273 rfl Tryz.ntmps273 rfl ?_
  refine c_seq (fun K1 hK1 => ?_)
  refine c_reg ?_ -- region 0 cells.go:57
  refine wl (ro_assign rfl) ?_
  refine wl_nil (x_then (hK1 _ _ ?_))
  clear hK1 K1
  refine c_seq (fun K2 hK2 => ?_)
  refine c_seq (fun K3 hK3 => ?_)
  refine c_reg ?_ -- region 1 cells.go:58
  refine wl (ro_move rfl) ?_
  refine wl (ro_nilCheck rfl) ?_
  refine wl (ro_fieldAddr (k := 6) rfl fo_89_6) ?_
  refine wl (ro_loadB rfl sc_85 (hM) rfl) ?_
  refine wl (ro_lenL rfl se_85) ?_
  refine wl (ro_cmp rfl rfl rfl) ?_
  refine wl_nil (x_then (hK3 _ _ ?_))
  clear hK3 K3
  refine wc_cond rfl (fun hc21 => ?_) (fun hc21 => ?_)
  · try simp only [decide_eq_true_eq, decide_eq_false_iff_not, Bool.not_eq_true', Bool.not_eq_false', Bool.not_eq_eq_eq_not, Bool.not_true, Bool.not_false, beq_iff_eq, bne_iff_ne, ne_eq, beq_eq_false_iff_ne, bne_eq_false_iff_eq, gt_iff_lt, ge_iff_le, Int.not_lt, Int.not_le] at hc21
    exfalso; omega
  · try simp only [decide_eq_true_eq, decide_eq_false_iff_not, Bool.not_eq_true', Bool.not_eq_false', Bool.not_eq_eq_eq_not, Bool.not_true, Bool.not_false, beq_iff_eq, bne_iff_ne, ne_eq, beq_eq_false_iff_ne, bne_eq_false_iff_eq, gt_iff_lt, ge_iff_le, Int.not_lt, Int.not_le] at hc21
    refine c_skip (x_then (hK2 _ _ ?_))
    clear hK2 K2
    refine forget [(0, _), (1, _), (2, _), (3, _), (4, _)] ⟨rfl, rfl, rfl, rfl, rfl, trivial⟩ (fun e => ?_)
    refine c_seq (fun K4 hK4 => ?_)
    refine c_reg ?_ -- region 3 cells.go:61
    refine wl (ro_move rfl) ?_
    refine wl (ro_nilCheck rfl) ?_
    refine wl (ro_fieldAddr (k := 2) rfl fo_89_2) ?_
    refine wl (ro_loadB rfl sc_81 (hM) rfl) ?_
    refine wl (ro_move rfl) ?_
    refine wl (ro_indexAddr (et := 258) (k := 8) rfl rfl se_81 (rfl) (hq)) ?_
    refine wl (ro_assign rfl) ?_
    refine wl_nil (x_then (hK4 _ _ ?_))
    clear hK4 K4
    refine forget [(0, _), (1, _), (2, _), (3, _), (4, _), (11, _)] ⟨rfl, rfl, rfl, rfl, rfl, rfl, trivial⟩ (fun e => ?_)
    refine c_seq (fun K5 hK5 => ?_)
    refine c_reg ?_ -- region 4 cells.go:62
    refine wl (ro_move rfl) ?_
    refine wl (ro_nilCheck rfl) ?_
    refine wl (ro_fieldAddr (k := 7) rfl fo_89_7) ?_
    refine wl (ro_loadB rfl sc_86 (hM) rfl) ?_
    refine wl (ro_lenL rfl se_86) ?_
    refine wl (ro_assign rfl) ?_
    refine wl_nil (x_then (hK5 _ _ ?_))
    clear hK5 K5
    refine c_seq (fun K6 hK6 => ?_)
    refine c_mid (fun b u => ∃ sa sc, Blk u.heap C.pg pl 258 ∧ ClW C w ow a V f.base cs ds ux Vv U 0 u ow Vv U ∧ (0 < ds.length → ∃ dg dl da, sa = some ⟨dg, da, none⟩ ∧ Blk w.heap dg dl 319 ∧ ow dg = 403 ∧ ∀ i d, ds[i]? = some d → (dl.drop (da + i * 2)).take 2 = upc d) ∧ ∃ e', b = Fr 126 (upds e' [(0, ptr C.E.mb), (1, i64c a.cur), (2, tptr C a.cur), (3, fpt fg gs.length), (4, i64c q), (11, .pointer (some ⟨C.pg, 0 + q * 8, none⟩)), (12, i64c ux.length), (51, .slice sa ds.length sc), (52, i64c ds.length), (53, i64c 0)]) []) ?_ ?_
    · skip
      rcases da with _ | ⟨dg, doff, dz⟩
      · skip
        obtain ⟨hz1, hz2⟩ : D.length = 0 ∧ dc = 0 := by
          rw [e3] at oD
          rcases oD.o.2 with ⟨k1, k2⟩ | ⟨g', cap', l', k1, -⟩
          · injection k1 with _ k3 k4; exact ⟨k3, k4⟩
          · cases k1
        have hd0 : ds.length = 0 := by omega
        have hpa0 : pa = 0 := by omega
        refine c_pi [(0, false), (1, false), (2, false), (3, false), (4, false), (5, false), (6, false), (7, false), (8, false), (9, false), (10, false), (11, false), (12, false), (13, false), (14, false), (15, false), (16, false), (17, false), (18, false), (19, false)] (SameH _) mixed (by kernel_rfl) rfl (by kernel_rfl) (po_then (po_then (po_bp))) (sameH_now _ _) ?_ -- region 5 cells.go:63
        refine pi_ro rfl (fun w hS => ro_move rfl) ?_
        refine pi_ro rfl (fun w hS => ro_nilCheck rfl) ?_
        refine pi_ro rfl (fun w hS => ro_fieldAddr (k := 3) rfl fo_89_3) ?_
        refine pi_ro rfl (fun w hS => ro_loadB rfl sc_82 (Blk.of_heap hM hS) rfl) ?_
        refine pi_ro rfl (fun w hS => ro_move rfl) ?_
        refine pi_ro rfl (fun w hS => ro_nilCheck rfl) ?_
        refine pi_ro rfl (fun w hS => ro_fieldAddr (k := 2) rfl fo_258_2) ?_
        refine pi_ro rfl (fun w hS => ro_loadB rfl sc_3 (Blk.of_heap hP hS) (row_get rp2 (by decide))) ?_
        refine pi_ro rfl (fun w hS => ro_move rfl) ?_
        refine pi_ro rfl (fun w hS => ro_nilCheck rfl) ?_
        refine pi_ro rfl (fun w hS => ro_fieldAddr (k := 2) rfl fo_258_2) ?_
        refine pi_ro rfl (fun w hS => ro_loadB rfl sc_3 (Blk.of_heap hP hS) (row_get rp2 (by decide))) ?_
        refine pi_ro rfl (fun w hS => ro_move rfl) ?_
        refine pi_ro rfl (fun w hS => ro_nilCheck rfl) ?_
        refine pi_ro rfl (fun w hS => ro_fieldAddr (k := 3) rfl fo_258_3) ?_
        refine pi_ro rfl (fun w hS => ro_loadB rfl sc_3 (Blk.of_heap hP hS) (row_get rp2 (by decide))) ?_
        refine pi_ro rfl (fun w hS => ro_arith (a := (pa : Int)) (b := (ds.length : Int)) rfl rfl rfl (Go.IntWalk.i64_in _ (by omega))) ?_
        refine pi_ro rfl (fun w hS => ro_sliceLH0 (cap := 0) (by rw [hz1, hz2]; rfl) rfl rfl se_82 (by omega) (by omega)) ?_
        refine pi_ro rfl (fun w hS => ro_lenL rfl se_82) ?_
        refine pi_ro rfl (fun w hS => ro_move rfl) ?_
        refine pi_nil (x_then ?_)
        exact ⟨none, 0, hP, ⟨hX, hF.thenDrew, hI0.v.thruN ((Fram.refl none' _).thenDrew), hI0.u7.far ((Fram.refl none' _).thenDrew) (fun _ _ _ q ↦ q) (Xt.refl _ _), hI0.uu, hI0.vv⟩, (fun q ↦ absurd q (by omega)), kp _ ⟨rfl, rfl, rfl, rfl, rfl, rfl, rfl, by show some _ = some (Value.slice none ds.length 0); rw [hd0], by show some _ = some (i64c ds.length); rw [hd0]; rfl, rfl, trivial⟩⟩
      · skip
        obtain ⟨dl, dB, dt, dr, dof⟩ : ∃ dl, Blk w.heap dg dl 319 ∧ ow dg = 403 ∧ (∀ (i : Nat) d, D[i]? = some d → (dl.drop (0 + i * 2)).take 2 = upc d) ∧ doff = 0 ∧ dz = none := by
          have oD2 := oD
          rw [e3] at oD2
          rcases oD2.o.2 with ⟨k1, k2⟩ | ⟨g', cap', l', k1, k3, k4, k5, k6, k7⟩
          · cases k1
          · injection k1 with k1
            injection k1 with k1
            injection k1 with k8 k9 k10
            subst k8
            refine ⟨l', k3, oD2.t _ rfl, fun i d hi ↦ ?_, k9, k10⟩
            obtain ⟨g2, cap2, l2, e9, b9, -, -, -, -, r9⟩ := oD.at upc_len hi
            rw [e3] at e9
            injection e9 with e9
            injection e9 with e9
            injection e9 with e9
            subst e9
            rw [(k3.uniq b9).1]
            exact r9 i d hi
        obtain ⟨rfl, rfl⟩ := dof
        refine c_pi [(0, false), (1, false), (2, false), (3, false), (4, false), (5, false), (6, false), (7, false), (8, false), (9, false), (10, false), (11, false), (12, false), (13, false), (14, false), (15, false), (16, false), (17, false), (18, false), (19, false)] (SameH _) mixed (by kernel_rfl) rfl (by kernel_rfl) (po_then (po_then (po_bp))) (sameH_now _ _) ?_ -- region 5 cells.go:63
        refine pi_ro rfl (fun w hS => ro_move rfl) ?_
        refine pi_ro rfl (fun w hS => ro_nilCheck rfl) ?_
        refine pi_ro rfl (fun w hS => ro_fieldAddr (k := 3) rfl fo_89_3) ?_
        refine pi_ro rfl (fun w hS => ro_loadB rfl sc_82 (Blk.of_heap hM hS) rfl) ?_
        refine pi_ro rfl (fun w hS => ro_move rfl) ?_
        refine pi_ro rfl (fun w hS => ro_nilCheck rfl) ?_
        refine pi_ro rfl (fun w hS => ro_fieldAddr (k := 2) rfl fo_258_2) ?_
        refine pi_ro rfl (fun w hS => ro_loadB rfl sc_3 (Blk.of_heap hP hS) (row_get rp2 (by decide))) ?_
        refine pi_ro rfl (fun w hS => ro_move rfl) ?_
        refine pi_ro rfl (fun w hS => ro_nilCheck rfl) ?_
        refine pi_ro rfl (fun w hS => ro_fieldAddr (k := 2) rfl fo_258_2) ?_
        refine pi_ro rfl (fun w hS => ro_loadB rfl sc_3 (Blk.of_heap hP hS) (row_get rp2 (by decide))) ?_
        refine pi_ro rfl (fun w hS => ro_move rfl) ?_
        refine pi_ro rfl (fun w hS => ro_nilCheck rfl) ?_
        refine pi_ro rfl (fun w hS => ro_fieldAddr (k := 3) rfl fo_258_3) ?_
        refine pi_ro rfl (fun w hS => ro_loadB rfl sc_3 (Blk.of_heap hP hS) (row_get rp2 (by decide))) ?_
        refine pi_ro rfl (fun w hS => ro_arith (a := (pa : Int)) (b := (ds.length : Int)) rfl rfl rfl (Go.IntWalk.i64_in _ (by omega))) ?_
        refine pi_ro rfl (fun w hS => ro_sliceLHn (l := pa) (h := pa + ds.length) (m := ds.length) rfl rfl rfl se_82 rfl (by omega) rfl (by omega)) ?_
        refine pi_ro rfl (fun w hS => ro_lenL rfl se_82) ?_
        refine pi_ro rfl (fun w hS => ro_move rfl) ?_
        refine pi_nil (x_then ?_)
        exact ⟨_, _, hP, ⟨hX, hF.thenDrew, hI0.v.thruN ((Fram.refl none' _).thenDrew), hI0.u7.far ((Fram.refl none' _).thenDrew) (fun _ _ _ q ↦ q) (Xt.refl _ _), hI0.uu, hI0.vv⟩, (fun q ↦ ⟨dg, dl, _, rfl, dB, dt, fun i d hi ↦ by
            have h9 := dr (pa + i) d (wD.get hi)
            rw [if_neg (by omega), ← h9]
            congr 2
            omega⟩), kp _ ⟨rfl, rfl, rfl, rfl, rfl, rfl, rfl, rfl, rfl, rfl, trivial⟩⟩
    clear hM hP
    rintro b u ⟨sa, sc, -, I0, hrow, e', rfl⟩
    have hN9 : Fram none' u u := Fram.refl _ _
    refine c_block ?_
    -- loop@r6: live slots [0, 1, 2, 3, 4, 11, 12, 51, 52, 53]
    refine c_loopG (fun m b u => ∃ i ow' Vv' U', m = ds.length - i ∧ i ≤ ds.length ∧ ClW C w ow a V f.base cs ds ux Vv U i u ow' Vv' U' ∧ ∃ e', b = Fr 126 (upds e' [(0, ptr C.E.mb), (1, i64c a.cur), (2, tptr C a.cur), (3, fpt fg gs.length), (4, i64c q), (11, .pointer (some ⟨C.pg, 0 + q * 8, none⟩)), (12, i64c ux.length), (51, .slice sa ds.length sc), (52, i64c ds.length), (53, i64c i)]) []) _ ⟨0, ow, Vv, U, rfl, Nat.zero_le _, I0, kp _ ⟨rfl, rfl, rfl, rfl, rfl, rfl, rfl, rfl, rfl, rfl, trivial⟩⟩ ?_
    clear I0 hI0
    rintro m b u ⟨i, ow', Vv', U', rfl, hi, I, e', rfl⟩
    have hN9 : Fram none' u u := Fram.refl _ _
    have hsz9 := I.f.size
    have keep : ∀ {b l t}, Blk w.heap b l t → ow b = 402 ∨ ow b = 403 ∨ ow b = 406 ∨ (450 ≤ ow b ∧ ow b < 455) ∨ ow b = 66 → Blk u.heap b l t := fun hb ho ↦ hb.fram I.f (clF_no htt htm ho hlt5)
    refine c_seq (fun K7 hK7 => ?_)
    refine c_reg ?_ -- region 6 cells.go:63
    refine wl (ro_cmp rfl rfl rfl) ?_
    refine wl_nil (x_then (hK7 _ _ ?_))
    clear hK7 K7
    refine forget [(0, _), (1, _), (2, _), (3, _), (4, _), (11, _), (12, _), (51, _), (52, _), (53, _), (54, _)] ⟨rfl, rfl, rfl, rfl, rfl, rfl, rfl, rfl, rfl, rfl, rfl, trivial⟩ (fun e => ?_)
    refine c_seq (fun K8 hK8 => ?_)
    refine wc_cond rfl (fun hc54 => ?_) (fun hc54 => ?_)
    · try simp only [decide_eq_true_eq, decide_eq_false_iff_not, Bool.not_eq_true', Bool.not_eq_false', Bool.not_eq_eq_eq_not, Bool.not_true, Bool.not_false, beq_iff_eq, bne_iff_ne, ne_eq, beq_eq_false_iff_ne, bne_eq_false_iff_eq, gt_iff_lt, ge_iff_le, Int.not_lt, Int.not_le] at hc54
      have hilt : i < ds.length := by omega
      obtain ⟨dg, dl, da, rfl, dB, dt, dr⟩ := hrow (by omega)
      have hdi : ds[i]? = some ds[i] := List.getElem?_eq_getElem hilt
      have hdm := List.getElem_mem hilt
      generalize ds[i] = d at *
      have hdB := keep dB (.inr (.inl dt))
      have hrd := dr i d hdi
      obtain ⟨lF, hB1, k1, q1, q2, -⟩ := o.frow
      replace hB1 := keep hB1 (.inr (.inr (.inr (.inl (by omega)))))
      obtain ⟨hb1, hb2⟩ := hubd d hdm
      have hdd := hd d hdm
      obtain ⟨Vi, hVi⟩ : ∃ Vi, Vi = capAll a.cur f.base cs (ds.take i) V := ⟨_, rfl⟩
      have hIv := I.v
      have hI7 := I.u7
      rw [← hVi] at hIv hI7
      have hci : Vi.2.clos = V.clos := by rw [hVi]; exact capAll_clos _ _
      have hli : Vi.1.length = i := by rw [hVi, capAll_len, List.length_take]; omega
      have hdf := hIv.df
      refine c_skip (x_then (hK8 _ _ ?_))
      clear hK8 K8
      refine forget [(0, _), (1, _), (2, _), (3, _), (4, _), (11, _), (12, _), (51, _), (52, _), (53, _)] ⟨rfl, rfl, rfl, rfl, rfl, rfl, rfl, rfl, rfl, rfl, trivial⟩ (fun e => ?_)
      refine c_seq (fun K9 hK9 => ?_)
      refine c_block ?_
      refine c_seq (fun K10 hK10 => ?_)
      refine c_reg ?_ -- region 7 cells.go:63
      refine wl (ro_indexAddr (et := 319) (k := 2) rfl rfl se_82 (rfl) (hilt)) ?_
      refine wl (ro_loadAggB rfl ag_319 (hdB) (rfl) (hrd)) ?_
      refine wl_new (ze_319) (fun b14 w1 hbb14 h14 F1 => ?_)
      have hbsb14 := Nat.le_trans hN9.size hbb14
      have hnedgb14 : dg < b14 := Nat.lt_of_lt_of_le hdB.lt hbb14
      have hnefgb14 : fg < b14 := Nat.lt_of_lt_of_le hB1.lt hbb14
      replace hN9 := hN9.thenDrew.thenN F1
      replace hdB := F1.blkN hdB
      replace hB1 := F1.blkN hB1
      refine wl_puta rfl rfl ((upc_one d)) sz_319 (rfl) h14 ((by simp)) (rfl) (fun w2 h14 F2 => ?_)
      replace hN9 := hN9.thenDrew.thenO F2 (by first | exact .inr (by omega) | exact .inl rfl | exact .inl (by assumption) | assumption)
      replace hdB := F2.blkO hdB (by omega)
      replace hB1 := F2.blkO hB1 (by omega)
      replace h14 : Blk (w2).heap b14 (upc d) 319 := h14
      have kh14 : ow' b14 = 66 := hdf b14 hbsb14
      refine wl_nil (x_then (hK10 _ _ ?_))
      clear hK10 K10
      refine forget [(0, _), (1, _), (2, _), (3, _), (4, _), (11, _), (12, _), (14, _), (51, _), (52, _), (53, _)] ⟨rfl, rfl, rfl, rfl, rfl, rfl, rfl, rfl, rfl, rfl, rfl, trivial⟩ (fun e => ?_)
      refine c_seq (fun K11 hK11 => ?_)
      refine c_reg ?_ -- region 8 cells.go:64
      refine wl (ro_assign rfl) ?_
      refine wl_nil (x_then (hK11 _ _ ?_))
      clear hK11 K11
      refine c_mid (fun b u' => ∃ c ow1 Vv1 U1 V1, (c, V1) = (if d.1 = 1 then capV Vi.2 a.cur (f.base + d.2) else (cs.getD d.2 0, Vi.2)) ∧ Xt w ow ow1 ∧ Fram (clF C ow a.cur) w u' ∧ VW C u' ow1 V1 (i + 1) a.fuel a.out a.tabs Vv1 U1 ∧ OwT u' ow1 407 (Vv1 7) 3 1 (ux ++ Vi.1).length ((ux ++ Vi.1).map i64c) ∧ (∀ j k, ¬ (j = a.cur ∧ k = 4) → U1 j k = U j k) ∧ (∀ k, k ≠ 7 → k ≠ 8 → Vv1 k = Vv k) ∧ ∃ e', b = Fr 126 (upds e' [(0, ptr C.E.mb), (1, i64c a.cur), (2, tptr C a.cur), (3, fpt fg gs.length), (4, i64c q), (11, .pointer (some ⟨C.pg, 0 + q * 8, none⟩)), (12, i64c ux.length), (15, i64c c), (51, .slice (some ⟨dg, da, none⟩) ds.length sc), (52, i64c ds.length), (53, i64c i)]) []) ?_ ?_
      · skip
        refine c_seq (fun K12 hK12 => ?_)
        refine c_reg ?_ -- region 9 cells.go:65
        refine wl (ro_fieldAddr (k := 0) rfl fo_319_0) ?_
        refine wl (ro_loadB rfl sc_5 (h14) rfl) ?_
        refine wl (ro_cmp rfl rfl rfl) ?_
        refine wl_nil (x_then (hK12 _ _ ?_))
        clear hK12 K12
        refine wc_cond rfl (fun hc59 => ?_) (fun hc59 => ?_)
        · try simp only [decide_eq_true_eq, decide_eq_false_iff_not, Bool.not_eq_true', Bool.not_eq_false', Bool.not_eq_eq_eq_not, Bool.not_true, Bool.not_false, beq_iff_eq, bne_iff_ne, ne_eq, beq_eq_false_iff_ne, bne_eq_false_iff_eq, gt_iff_lt, ge_iff_le, Int.not_lt, Int.not_le] at hc59
          have hd1 : d.1 = 1 := by omega
          have hfb := o.t.bb
          have hnl := o.t.nl
          obtain ⟨oo, hxi⟩ := capAll_frs (t := a.cur) (base := f.base) (ups := cs) (ds.take i) V o.t.hx
          rw [← hVi] at hxi
          obtain ⟨κi, hzi⟩ := o.z.capI hc o.t hk n1 (ds := ds.take i) (fun e he ↦ hd e (List.mem_of_mem_take he))
          rw [← hVi] at hzi
          obtain ⟨hbi, hdi2⟩ := hzi.opn hxi
          refine c_pi [(0, false), (1, false), (2, false), (3, false), (4, false), (5, false), (6, false), (7, false), (8, false), (9, false), (10, false), (11, true), (12, false)] (fun u => Blk u.heap fg lF 331 ∧ Blk u.heap b14 (upc d) 319) mixed (by kernel_rfl) rfl (by kernel_rfl) (po_then (po_blk (po_then (po_then (po_blk (po_then (po_bp))))))) (⟨hB1, h14⟩) ?_ -- region 10 cells.go:66
          refine pi_ro rfl (fun w hS => ro_move rfl) ?_
          refine pi_ro rfl (fun w hS => ro_move rfl) ?_
          refine pi_ro rfl (fun w hS => ro_move rfl) ?_
          refine pi_ro rfl (fun w hS => ro_move rfl) ?_
          refine pi_ro rfl (fun w hS => ro_nilCheck rfl) ?_
          refine pi_ro rfl (fun w hS => ro_fieldAddr (k := 2) rfl fo_331_2) ?_
          refine pi_ro rfl (fun w hS => ro_loadB rfl sc_3 (hS.1) (frow_at q1 (by decide))) ?_
          refine pi_ro rfl (fun w hS => ro_fieldAddr (k := 1) rfl fo_319_1) ?_
          refine pi_ro rfl (fun w hS => ro_loadB rfl sc_5 (hS.2) rfl) ?_
          refine pi_ro rfl (fun w hS => ro_conv rfl sc_5 in_3 (Go.IntWalk.i64_in _ (by omega))) ?_
          refine pi_ro rfl (fun w hS => ro_addN (m := f.base) (k := d.2) rfl rfl (by omega)) ?_
          refine pi_call rfl rfl en_289 (cap289 (pl := f.base + d.2) (hIv.thruN hN9.thenDrew) hxi hbi hdi2 (by omega)) ?_
          rintro _ u9 ⟨rfl, ow9, Vv9, U9, x9, f9, hv9, hvv9, huu9⟩
          have htt' : ow' C.E.tb = 409 := hIv.tt.1
          have htm' : ow' C.E.mb = 400 := hIv.tt.2
          have hfg' : ow' fg = 450 + a.cur := by rw [I.x fg (by have := o.frow; obtain ⟨l9, z9, -⟩ := this; exact z9.lt)]; exact k1
          replace hB1 := f9.blkF hB1 (fun z ↦ clF_no htt' htm' (.inr (.inr (.inr (.inl (by omega))))) hlt5 (.inl z))
          replace h14 := f9.blkF h14 (fun z ↦ clF_no htt' htm' (.inr (.inr (.inr (.inr kh14)))) hlt5 (.inl z))
          refine ⟨⟨hB1, h14⟩, ?_⟩
          refine pi_ro rfl (fun w hS => ro_assign rfl) ?_
          refine pi_nil (x_then ?_)
          have hs9 := hN9.size
          refine ⟨(capV Vi.2 a.cur (f.base + d.2)).1, ow9, Vv9, U9, (capV Vi.2 a.cur (f.base + d.2)).2, (by rw [if_pos hd1]), I.x.trans hsz9 (fun b hb ↦ x9 b (by exact Nat.lt_of_lt_of_le hb hs9)), (I.f.trans' hN9 (fun _ _ (z : False) ↦ z.elim)).transG f9 (fun b hb z ↦ ?_), hv9, ?_, fun j k hjk ↦ (huu9 j k hjk).trans (I.uu j k hjk), fun k h7 h8 ↦ (hvv9 k h8).trans (I.vv k h7 h8), kp _ ⟨rfl, rfl, rfl, rfl, rfl, rfl, rfl, rfl, rfl, rfl, rfl, trivial⟩⟩
          · left
            unfold cpS at z ⊢
            rw [I.x b hb] at z
            exact z
          · rw [hvv9 7 (by decide)]
            exact ((hI7.far hN9 (fun _ _ _ q ↦ q) (Xt.refl _ _)).far ((Fram.refl none' _).thenDrew) (fun _ _ _ q ↦ q) (Xt.refl _ _)).far f9 (fun b q _ z ↦ by rcases z with z | z | z | z <;> first | (rw [z, htm'] at q; omega) | (rw [z, htt'] at q; omega) | omega) x9
        · try simp only [decide_eq_true_eq, decide_eq_false_iff_not, Bool.not_eq_true', Bool.not_eq_false', Bool.not_eq_eq_eq_not, Bool.not_true, Bool.not_false, beq_iff_eq, bne_iff_ne, ne_eq, beq_eq_false_iff_ne, bne_eq_false_iff_eq, gt_iff_lt, ge_iff_le, Int.not_lt, Int.not_le] at hc59
          have hd0 : d.1 = 0 ∧ d.2 < ids.length := by rcases hdd with z | z <;> omega
          have hkk : cs[d.2]? = some cs[d.2] := List.getElem?_eq_getElem (by omega)
          have hkD : cs.getD d.2 0 = cs[d.2] := by rw [List.getD_eq_getElem?_getD, hkk]; rfl
          generalize cs[d.2] = kk at *
          have hv11 := hIv.thruN hN9
          obtain ⟨cg, cc2, lC, up, ug, uc2, lU, un, e61, hC2, r61, e71, hU2, hup, hun, rU⟩ := hv11.upA (by rw [hci]; exact n1) hkk
          obtain ⟨lM, hM, -, -, -, -, -, -, hM6, hM7, -⟩ := hv11.mbA
          rw [e61] at hM6
          rw [e71] at hM7
          have hlc : f.clo < Vi.2.clos.length := by rw [hci, o.t.clo]; exact (List.getElem?_eq_some_iff.1 n1).1
          rw [← o.t.clo] at r61
          refine c_pi [(0, false), (1, false), (2, false), (3, false), (4, false), (5, false), (6, false), (7, false), (8, false), (9, false), (10, false), (11, false), (12, false), (13, false), (14, false), (15, false), (16, false), (17, false), (18, false), (19, false), (20, false), (21, false)] (SameH _) mixed (by kernel_rfl) rfl (by kernel_rfl) (po_then (po_blk (po_then (po_then (po_blk (po_then (po_bp))))))) (sameH_now _ _) ?_ -- region 11 cells.go:68
          refine pi_ro rfl (fun w hS => ro_move rfl) ?_
          refine pi_ro rfl (fun w hS => ro_nilCheck rfl) ?_
          refine pi_ro rfl (fun w hS => ro_fieldAddr (k := 7) rfl fo_89_7) ?_
          refine pi_ro rfl (fun w hS => ro_loadB rfl sc_86 (Blk.of_heap hM hS) (hM7)) ?_
          refine pi_ro rfl (fun w hS => ro_move rfl) ?_
          refine pi_ro rfl (fun w hS => ro_nilCheck rfl) ?_
          refine pi_ro rfl (fun w hS => ro_fieldAddr (k := 6) rfl fo_89_6) ?_
          refine pi_ro rfl (fun w hS => ro_loadB rfl sc_85 (Blk.of_heap hM hS) (hM6)) ?_
          refine pi_ro rfl (fun w hS => ro_move rfl) ?_
          refine pi_ro rfl (fun w hS => ro_nilCheck rfl) ?_
          refine pi_ro rfl (fun w hS => ro_fieldAddr (k := 0) rfl fo_331_0) ?_
          refine pi_ro rfl (fun w hS => ro_loadB rfl sc_3 (Blk.of_heap hB1 hS) (frow_at q1 (by decide))) ?_
          refine pi_ro rfl (fun w hS => ro_indexAddr (et := 209) (k := 3) rfl rfl se_85 (rfl) (hlc)) ?_
          refine pi_ro rfl (fun w hS => ro_fieldAddr (k := 1) rfl fo_209_1) ?_
          refine pi_ro rfl (fun w hS => ro_loadB rfl sc_3 (Blk.of_heap hC2 hS) (row_get r61 (by decide))) ?_
          refine pi_ro rfl (fun w hS => ro_fieldAddr (k := 1) rfl fo_319_1) ?_
          refine pi_ro rfl (fun w hS => ro_loadB rfl sc_5 (Blk.of_heap h14 hS) rfl) ?_
          refine pi_ro rfl (fun w hS => ro_conv rfl sc_5 in_3 (Go.IntWalk.i64_in _ (by omega))) ?_
          refine pi_ro rfl (fun w hS => ro_addN (m := up) (k := d.2) rfl rfl (by omega)) ?_
          refine pi_ro rfl (fun w hS => ro_indexAddr (et := 3) (k := 1) rfl rfl se_86 (rfl) (hup)) ?_
          refine pi_ro rfl (fun w hS => ro_loadB rfl sc_3 (Blk.of_heap hU2 hS) (rU)) ?_
          refine pi_ro rfl (fun w hS => ro_assign rfl) ?_
          refine pi_nil (x_then ?_)
          exact ⟨kk, ow', Vv', U', Vi.2, (by rw [if_neg (by omega), hkD]), I.x, I.f.transG hN9.thenDrew (fun _ _ (z : False) ↦ z.elim), (hv11.thruN ((Fram.refl none' _).thenDrew)).eUp (by omega) (by omega), (hI7.far hN9 (fun _ _ _ q ↦ q) (Xt.refl _ _)).far ((Fram.refl none' _).thenDrew) (fun _ _ _ q ↦ q) (Xt.refl _ _), I.uu, I.vv, kp _ ⟨rfl, rfl, rfl, rfl, rfl, rfl, rfl, rfl, rfl, rfl, rfl, trivial⟩⟩
      clear hdB hB1 hN9 keep
      rintro b u' ⟨c, ow1, Vv1, U1, V1, hcV, x1, f1, hv1, h7, huu, hvv, e', rfl⟩
      obtain ⟨L1, op1, vl1⟩ := hv1.ex
      obtain ⟨ua7, uc7, e7'⟩ := h7.form
      have hA7 : L1.A 7 = ((ux ++ Vi.1).length, (ux ++ Vi.1).map i64c) := by
        obtain ⟨q7a, q7b⟩ := (op1.a 7 (.inl (by decide))).o.same h7.o
        exact Prod.ext q7a q7b
      have hM := op1.m
      unfold mbc at hM
      rw [e7'] at hM
      have hM3 : ¬ own1 (Vv1 7) C.E.mb := fun z ↦ by have h9 := h7.t _ z; rw [hv1.tt.2] at h9; omega
      have hc1 : V1.clos = V.clos := by
        have h9 := congrArg Prod.snd hcV
        dsimp only at h9
        rw [h9]
        split
        · rw [(capV_same _ _ _).1, hci]
        · exact hci
      have hun7 : (ux ++ Vi.1).length ≤ 7500 := by rw [List.length_append, hli]; omega
      refine c_reg ?_ -- region 12 cells.go:70
      refine wl (ro_move rfl) ?_
      refine wl (ro_move rfl) ?_
      refine wl (ro_nilCheck rfl) ?_
      refine wl (ro_fieldAddr (k := 7) rfl fo_89_7) ?_
      refine wl (ro_loadB rfl sc_86 (hM) rfl) ?_
      refine wl (ro_move rfl) ?_
      refine wl_bsapp (t := 86) (et := 3) (k := 1) (m := (ux ++ Vi.1).length) (cs := [i64c c]) rfl rfl (by rw [← e7']; rfl) rfl se_86 zx_3 by_3 rfl rfl rfl (by simp [Value.oneCell', i64c]) h7.o (by omega) (by omega) ?_
      intro v' u8 hon G1 hnb
      obtain ⟨wa, wc, rfl⟩ := hon.form
      replace hM := G1.blkF hM hM3
      skip
      refine wl (ro_nilCheck rfl) ?_
      refine wl (ro_fieldAddr (k := 7) rfl fo_89_7) ?_
      refine wl_put rfl rfl rfl sz_86 hM (by simp) (rfl) (fun w3 hM F3 => ?_)
      have hF9 := (F3)
      have hon' : Own u8.heap (.slice wa ((ux ++ Vi.1).length + 1) wc) 3 1 ((ux ++ Vi.1) ++ [c]).length (((ux ++ Vi.1) ++ [c]).map i64c) := by rw [List.map_append, List.length_append (bs := [c])]; exact hon
      obtain ⟨ow2, x2, f2, hv2⟩ := hv1.grA op1 (i := 7) (.inl (by decide)) (by decide) hon' G1 hnb hF9 (by unfold mbc; exact hM) (vl1.upx hA7 c (by rw [hc1, List.length_append, hli]; omega) (by rw [hc1, ← hux, List.length_append, hli]; omega)) hv1.cb hv1.eb
      obtain ⟨L2, op2, vl2⟩ := hv2.ex
      have t7x := (op2.a 7 (.inl (by decide))).t
      rw [up1_self] at t7x
      have h7x : OwT w3 ow2 407 (.slice wa ((ux ++ Vi.1).length + 1) wc) 3 1 ((ux ++ Vi.1) ++ [c]).length (((ux ++ Vi.1) ++ [c]).map i64c) := ⟨hon'.fram hF9 (fun b z z2 ↦ by have z2 : b = C.E.mb := z2; have h9 := t7x b z; rw [z2, hv2.tt.2] at h9; omega), t7x⟩
      refine wl_nil (x_blk (x_then (hK9 _ _ ?_)))
      clear hK9 K9
      refine c_reg ?_ -- region 13 cells.go:63
      refine wl (ro_arith rfl rfl rfl (Go.IntWalk.i64_in _ (by omega))) ?_
      refine wl (ro_move rfl) ?_
      refine wl_nil (x_then ?_)
      have hsz1 := f1.size
      have hds9 : ds.take (i + 1) = ds.take i ++ [d] := by rw [List.take_add_one, hdi]; rfl
      have hcn : capAll a.cur f.base cs (ds.take (i + 1)) V = (Vi.1 ++ [c], V1) := by rw [hds9, capAll_snoc, ← hVi, ← hcV]
      refine ⟨ds.length - (i + 1), by omega, i + 1, ow2, up1 Vv1 7 (.slice wa ((ux ++ Vi.1).length + 1) wc), U1, rfl, by omega, ⟨x1.trans hsz1 x2, f1.transG f2 (fun b hb z ↦ ?_), ?_, ?_, huu, fun k h7 h8 ↦ (up1_ne h7).trans (hvv k h7 h8)⟩, kp _ ⟨rfl, rfl, rfl, rfl, rfl, rfl, rfl, rfl, rfl, rfl, trivial⟩⟩
      · rcases z with z | z
        · exact .inl (.inl z)
        · right; rw [x1 b hb] at z; exact z
      · rw [hcn]; exact hv2
      · rw [hcn, up1_self, ← List.append_assoc]
        exact h7x
    · try simp only [decide_eq_true_eq, decide_eq_false_iff_not, Bool.not_eq_true', Bool.not_eq_false', Bool.not_eq_eq_eq_not, Bool.not_true, Bool.not_false, beq_iff_eq, bne_iff_ne, ne_eq, beq_eq_false_iff_ne, bne_eq_false_iff_eq, gt_iff_lt, ge_iff_le, Int.not_lt, Int.not_le] at hc54
      refine c_exit (x_thenX (x_thenX (x_blkX (x_then (hK6 _ _ ?_)))))
      clear hK8 K8 hK6 K6
      refine forget [(0, _), (4, _), (11, _), (12, _)] ⟨rfl, rfl, rfl, rfl, trivial⟩ (fun e => ?_)
      refine c_seq (fun K13 hK13 => ?_)
      obtain rfl : i = ds.length := by omega
      have hIv := I.v
      have hI7 := I.u7
      rw [List.take_length] at hIv hI7
      obtain ⟨Vn, hVn⟩ : ∃ Vn, Vn = capAll a.cur f.base cs ds V := ⟨_, rfl⟩
      rw [← hVn] at hIv hI7 n3
      have hcn : Vn.2.clos = V.clos := by rw [hVn]; exact capAll_clos _ _
      have hln : Vn.1.length = ds.length := by rw [hVn, capAll_len]
      obtain ⟨L1, op1, vl1⟩ := hIv.ex
      have hA7 : L1.A 7 = ((ux ++ Vn.1).length, (ux ++ Vn.1).map i64c) := by
        obtain ⟨q7a, q7b⟩ := (op1.a 7 (.inl (by decide))).o.same hI7.o
        exact Prod.ext q7a q7b
      obtain ⟨cl1, ux1, c61, -, cR1, -⟩ := vl1.c
      have hO6 := op1.clk c61
      obtain ⟨ca1, cc1, e61⟩ := hO6.form
      have hM := op1.m
      unfold mbc at hM
      rw [e61] at hM
      have hM3 : ¬ own1 (Vv' 6) C.E.mb := fun z ↦ by have h9 := hO6.t _ z; rw [hIv.tt.2] at h9; omega
      have hPg : ¬ own1 (Vv' 6) C.pg := fun z ↦ by have h9 := hO6.t _ z; rw [I.x _ (by obtain ⟨l9, a9, b9, c9, z9, -⟩ := o.v.pro hq; exact z9.lt), tp] at h9; omega
      obtain ⟨pl9, pa9, pb9, pc9, hP0, tp0, rp0, -⟩ := o.v.pro hq
      have hP := keep hP0 (.inl tp0)
      have rp9 : (pl9.drop (0 + q * 8)).take 8 = [i64c (fsAt C.F q).np, i64c (fsAt C.F q).ns, i64c pa9, i64c ds.length, i64c pb9, i64c (fsAt C.F q).ks.length, i64c pc9, i64c (fsAt C.F q).code.length] := by rw [hds]; exact rp0
      have hl1 : cl1.length = a.clos.length := by rw [cR1.1, hcn, o.z.r.clen]; rfl
      have hn9 : cl1.length ≤ 24 := by omega
      refine c_piL 16 [(0, false), (1, false), (2, false), (3, false), (4, false), (5, false), (6, false), (7, false), (8, false), (9, false), (10, false), (11, false), (12, true), (13, true), (14, false), (15, false)] (fun u => Blk u.heap C.E.mb [C.E.np, C.E.tp, Vv' 2, Vv' 3, Vv' 4, Vv' 5, .slice ca1 cl1.length cc1, Vv' 7, Vv' 8, .slice (some ⟨C.E.tb, 0, none⟩) L1.nt 5, L1.fu, Vv' 11, L1.en] 89 ∧ Blk u.heap C.pg pl9 258) mixed (by kernel_rfl) rfl (by kernel_rfl) (po_then (po_bp)) (⟨hM, hP⟩) ?_ -- region 14 cells.go:72
      refine ql_ro rfl (fun w hS => ro_move rfl) ?_
      refine ql_ro rfl (fun w hS => ro_move rfl) ?_
      refine ql_ro rfl (fun w hS => ro_nilCheck rfl) ?_
      refine ql_ro rfl (fun w hS => ro_fieldAddr (k := 6) rfl fo_89_6) ?_
      refine ql_ro rfl (fun w hS => ro_loadB rfl sc_85 (hS.1) rfl) ?_
      refine ql_ro rfl (fun w hS => ro_move rfl) ?_
      refine ql_ro rfl (fun w hS => ro_move rfl) ?_
      refine ql_ro rfl (fun w hS => ro_move rfl) ?_
      refine ql_ro rfl (fun w hS => ro_nilCheck rfl) ?_
      refine ql_ro rfl (fun w hS => ro_fieldAddr (k := 3) rfl fo_258_3) ?_
      refine ql_ro rfl (fun w hS => ro_loadB rfl sc_3 (hS.2) (row_get rp9 (by decide))) ?_
      refine ql_ro rfl (fun w hS => ro_build rfl bld_209_0_1_2) ?_
      refine ql_bsapp (w := { u with drawn := u.drawn + 1 }) (t := 85) (et := 209) (k := 3) (m := cl1.length) (cs := vcc (q, ux.length, ds.length)) rfl rfl rfl rfl (by rw [← e61]; rfl) rfl se_85 zx_209 by_209 rfl rfl rfl (vcc_one _) (hO6.o.fram ((Fram.refl none' _).thenDrew) (fun _ _ z ↦ z)) (by omega) (by omega) (fun w1 F ↦ ⟨F.blkN hM, F.blkN hP⟩) (fun w1 F ↦ ⟨F.blkF hM hM3, F.blkF hP hPg⟩) ?_
      intro v' u8 hon G1 hnb
      obtain ⟨wa, wc, rfl⟩ := hon.form
      replace hM := G1.blkF hM hM3
      skip
      refine ql_ro rfl (fun w hS => ro_nilCheck rfl) ?_
      refine ql_ro rfl (fun w hS => ro_fieldAddr (k := 6) rfl fo_89_6) ?_
      refine ql_put rfl rfl rfl rfl sz_85 hM (by simp) (rfl) (fun w4 hM F4 => ?_)
      have hF9 := (F4)
      obtain ⟨hvc, hcl9⟩ := vl1.clo c61 hA7 (p := q) (Win.end ux Vn.1) hIv.eb (by rw [hcn, ← hux]) (by rw [hcn, ← hux]) (by omega)
      rw [hln] at hvc
      have hon' : Own u8.heap (.slice wa (cl1.length + 1) wc) 209 3 (cl1 ++ [(q, ux.length, ds.length)]).length (rws vcc (cl1 ++ [(q, ux.length, ds.length)])) := by rw [rws_app, rws_one, List.length_append]; exact hon
      obtain ⟨ow2, x2, f2, hv2⟩ := (hIv.thruN ((Fram.refl none' _).thenDrew)).grA (V' := { Vn.2 with clos := Vn.2.clos ++ [(q, Vn.1)] }) (e' := 0) (op1.thruN ((Fram.refl none' _).thenDrew)) (i := 6) (.inl (by decide)) (by decide) hon' G1 hnb hF9 (by unfold mbc; exact hM) hvc (by rw [List.length_append, hcn, List.length_singleton]; have := o.z.r.clen; have h9 : V.clos.length = a.clos.length := this; omega) (by omega)
      refine x_then (hK13 _ _ ?_)
      clear hK13 K13
      refine forget [(0, _)] ⟨rfl, trivial⟩ (fun e => ?_)
      refine c_seq (fun K14 hK14 => ?_)
      refine c_reg ?_ -- region 15 cells.go:73
      refine wl (ro_move rfl) ?_
      refine wl (ro_nilCheck rfl) ?_
      refine wl (ro_fieldAddr (k := 6) rfl fo_89_6) ?_
      refine wl (ro_loadB rfl sc_85 (hM) rfl) ?_
      refine wl (ro_lenL rfl se_85) ?_
      refine wl (ro_subN (m := cl1.length + 1) (k := 1) (r := a.clos.length) rfl rfl (by omega) (by omega)) ?_
      refine wl (ro_assign rfl) ?_
      refine wl_nil (x_then (hK14 _ _ ?_))
      clear hK14 K14
      refine c_ret ?_
      refine bp_ret Tryz.results273 rfl ?_
      refine ⟨rfl, ow2, I.x.trans hsz9 x2, (I.f.mono (fun b _ z ↦ clF_vt hlt5 htt htm z)).transG f2 (fun b hb z ↦ ?_), _, κ', _, U', hv2, n3, ?_⟩
      · show vtT (ow b)
        rcases z with z | z
        · rw [z]; exact vt_mb htm
        · rw [I.x b hb] at z; rw [z]; left; unfold vmT; omega
      · have e9 : ({ mkA a y gs g vars with clos := a.clos ++ [(q, aups (mkA a y gs g vars) ds)] } : AS).th = (mkA a y gs g vars).th := rfl
        rw [e9, mk_th hc]
        show U' a.cur 3 = _
        rw [I.uu _ _ (by omega)]
        exact o.hf
end
end Go.Proofs.Qxb6500568aGreatDoor
