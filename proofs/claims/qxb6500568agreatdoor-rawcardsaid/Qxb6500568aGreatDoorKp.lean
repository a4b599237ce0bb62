import Derived.Test.Qxb6500568aGreatDoorKo
/- The machine in memory, told as the variable machine. -/
namespace Go.Proofs.Qxb6500568aGreatDoor
open Ieee
set_option linter.unusedVariables false
set_option linter.unusedSimpArgs false
set_option linter.unusedSectionVars false

/-- the machine holds the state s. -/
def AMq (C : VC) (w : World) (ow : Nat → Nat) (s : AS) : Prop := ∃ V κ Vv U, VW C w ow V 0 s.fuel s.out s.tabs Vv U ∧ RZ (Psf C.F) V s κ
/-- the same, the frames of the thread at hand in the block fg. -/
def AM (C : VC) (fg fc : Nat) (w : World) (ow : Nat → Nat) (s : AS) : Prop := ∃ V κ Vv U, VW C w ow V 0 s.fuel s.out s.tabs Vv U ∧ RZ (Psf C.F) V s κ ∧ U s.cur 3 = .slice (some ⟨fg, 0, none⟩) s.th.frs.length fc
/-- a call's answer. -/
def AR (C : VC) (fg fc : Nat) (w : World) (ow : Nat → Nat) (v : Value) (s : AS) (r : Value) (w' : World) : Prop := r = v ∧ ∃ ow', Xt w ow ow' ∧ Fram (tg ow vtT) w w' ∧ AM C fg fc w' ow' s
/-- the run ends with the error e. -/
def ATr (e : Nat) (s z : AS) : Prop := z.done = true ∧ z.ans = ⟨e, s.fuel, s.first, s.out, [45]⟩ ∧ e ≠ 0
theorem ATr.of {e : Nat} {s z : AS} (h : z = afin e [45] s) (he : e ≠ 0 := by decide) : ATr e s z := by subst h; exact ⟨rfl, rfl, he⟩
/-- the driver's side of a state. -/
def kN (s : AS) : Nat × List Nat × Nat × Bool := (s.cur, s.stack, s.first, s.done)
/-- the state of the thread that waits for this one. -/
def hs (s : AS) : Nat := match s.stack with | [] => 3 | c :: _ => if c = s.cur then 3 else (s.ths.getD c ATh.zero).st
def kH (s : AS) : (Nat × List Nat × Nat × Bool) × Nat := (kN s, hs s)
theorem hs_of {s z : AS} (h1 : z.stack = s.stack) (h2 : z.cur = s.cur) (h3 : ∀ c, c ≠ s.cur → z.ths.getD c ATh.zero = s.ths.getD c ATh.zero) : hs z = hs s := by
  unfold hs
  rw [h1, h2]
  cases s.stack with
  | nil => rfl
  | cons c r =>
    dsimp only
    by_cases h : c = s.cur
    · rw [if_pos h, if_pos h]
    · rw [if_neg h, if_neg h, h3 c h]
theorem getD_ne {l : List ATh} {i c : Nat} {y : ATh} (h : c ≠ i) : (l.set i y).getD c ATh.zero = l.getD c ATh.zero := by rw [List.getD_eq_getElem?_getD, List.getElem?_set_ne (fun q => h q.symm), List.getD_eq_getElem?_getD]
theorem hs_mk {a : AS} {y : ATh} {gs : List AFr} {g : AFr} {vars : List PV} : hs (mkA a y gs g vars) = hs a := hs_of rfl rfl fun c h => getD_ne h
theorem hs_setT {s : AS} {t : ATh} : hs (s.setT t) = hs s := hs_of rfl rfl fun c h => getD_ne h
theorem mk_kH {a : AS} {y : ATh} {gs : List AFr} {g : AFr} {vars : List PV} : kH (mkA a y gs g vars) = kH a := by unfold kH; rw [hs_mk]; rfl
/-- a call's panic: it ends in the state z. -/
def AE (C : VC) (c : (Nat × List Nat × Nat × Bool) × Nat) (w : World) (ow : Nat → Nat) (z : AS) (pv : Value) (w' : World) : Prop := ∃ ow' s1, Xt w ow ow' ∧ Fram (tg ow vtT) w w' ∧ AMq C w' ow' s1 ∧ kH s1 = c ∧
  ((∃ v b, pv = .iface 332 (ptr b) ∧ Blk w'.heap b (pvc v) 335 ∧ ow' b = 66 ∧ s1.cur < s1.ths.length ∧ (wfV v = true ∧ W64 v.N) ∧ athrow v s1 = z) ∨ (∃ e, pv = .iface 336 (i64c e) ∧ ATr e s1 z))

section
variable {C : VC} {w w' w1 u u1 w0 : World} {ow ow' ow1 ow0 : Nat → Nat} {s z : AS} {c : (Nat × List Nat × Nat × Bool) × Nat} {fg fc : Nat} {G : Nat → Prop}
theorem vt_tb {b : Nat} (op : ow b = 409) : vtT (ow b) := by rw [op]; left; unfold vmT; omega
theorem AMq.far (h : AMq C w ow s) (f : Fram G w w') (hn : ∀ b, vtT (ow b) → b < w.heap.size → ¬ G b) (hE : Xt w ow ow') (hd : ∀ b, w'.heap.size ≤ b → ow' b = 66) : AMq C w' ow' s := by
  obtain ⟨V, κ, Vv, U, h1, h2⟩ := h
  exact ⟨V, κ, Vv, U, h1.far f hn hE hd, h2⟩
theorem AMq.df (h : AMq C w ow s) : ∀ b, w.heap.size ≤ b → ow b = 66 := by
  obtain ⟨V, κ, Vv, U, h1, h2⟩ := h
  exact h1.df
theorem AMq.thruN (h : AMq C w ow s) (f : Fram none' w w') : AMq C w' ow s := by
  obtain ⟨V, κ, Vv, U, h1, h2⟩ := h
  exact ⟨V, κ, Vv, U, h1.thruN f, h2⟩
theorem AMq.hbput {b : Nat} (h : AMq C w ow s) (f : Fram (one b) w w') (ht : ow b = 66 := by assumption) : AMq C w' ow s := by
  obtain ⟨V, κ, Vv, U, h1, h2⟩ := h
  exact ⟨V, κ, Vv, U, h1.hbput f ht, h2⟩
theorem AMq.dr (h : AMq C w ow s) {d : Nat} : AMq C { w with drawn := d } ow s := h.thruN ((Fram.refl none' _).thenDrew)
theorem AM.q (h : AM C fg fc w ow s) : AMq C w ow s := by
  obtain ⟨V, κ, Vv, U, h1, h2, h3⟩ := h
  exact ⟨V, κ, Vv, U, h1, h2⟩
theorem AM.far (h : AM C fg fc w ow s) (f : Fram G w w') (hn : ∀ b, vtT (ow b) → b < w.heap.size → ¬ G b) (hE : Xt w ow ow') (hd : ∀ b, w'.heap.size ≤ b → ow' b = 66) : AM C fg fc w' ow' s := by
  obtain ⟨V, κ, Vv, U, h1, h2, h3⟩ := h
  exact ⟨V, κ, Vv, U, h1.far f hn hE hd, h2, h3⟩
theorem AM.df (h : AM C fg fc w ow s) : ∀ b, w.heap.size ≤ b → ow b = 66 := h.q.df
theorem AM.thruN (h : AM C fg fc w ow s) (f : Fram none' w w') : AM C fg fc w' ow s := by
  obtain ⟨V, κ, Vv, U, h1, h2, h3⟩ := h
  exact ⟨V, κ, Vv, U, h1.thruN f, h2, h3⟩
theorem AM.hbput {b : Nat} (h : AM C fg fc w ow s) (f : Fram (one b) w w') (ht : ow b = 66 := by assumption) : AM C fg fc w' ow s := by
  obtain ⟨V, κ, Vv, U, h1, h2, h3⟩ := h
  exact ⟨V, κ, Vv, U, h1.hbput f ht, h2, h3⟩
theorem AM.dr (h : AM C fg fc w ow s) {d : Nat} : AM C fg fc { w with drawn := d } ow s := h.thruN ((Fram.refl none' _).thenDrew)
/-- what of the machine's structure stays. -/
def Mz (C : VC) (w : World) : Prop := ∃ l, Blk w.heap C.E.mb l 89 ∧ l[0]? = some (ptr C.nb) ∧ l[1]? = some (ptr C.xb)
theorem AMq.rz (h : AMq C w ow s) : Mz C w := by
  obtain ⟨V, κ, Vv, U, h1, h2⟩ := h
  obtain ⟨L, op, vl⟩ := h1.ex
  exact ⟨_, op.m, by rw [← h1.co.np]; rfl, by rw [← h1.co.tp]; rfl⟩
theorem AMq.vtb (h : AMq C w ow s) : tg ow vtT C.E.tb := by
  obtain ⟨V, κ, Vv, U, h1, h2⟩ := h
  obtain ⟨L, op, vl⟩ := h1.ex
  exact vt_tb op.tt
theorem AM.rtab (h : AM C fg fc w ow s) : RTab w ow C.nb C.xb s.tabs := by
  obtain ⟨V, κ, Vv, U, h1, h2, h3⟩ := h
  exact h1.tb
theorem AM.rz (h : AM C fg fc w ow s) : Mz C w := h.q.rz
/-- nothing that the memory holds turns. -/
theorem AM.same (h : AM C fg fc w ow s) {b : AS} (h1 : b.clos = s.clos) (h2 : b.vars = s.vars) (h3 : b.ths = s.ths) (h4 : b.fuel = s.fuel) (h5 : b.out = s.out) (h6 : b.tabs = s.tabs) (h7 : b.cur = s.cur) : AM C fg fc w ow b := by
  obtain ⟨V, κ, Vv, U, k1, k2, k3⟩ := h
  refine ⟨V, κ, Vv, U, by rw [h4, h5, h6]; exact k1, k2.same h1 h2 h3 (by rw [h6]; exact Nat.le_refl _), ?_⟩
  have : b.th = s.th := by unfold AS.th; rw [h3, h7]
  rw [h7, this]
  exact k3
theorem AMq.same (h : AMq C w ow s) {b : AS} (h1 : b.clos = s.clos) (h2 : b.vars = s.vars) (h3 : b.ths = s.ths) (h4 : b.fuel = s.fuel) (h5 : b.out = s.out) (h6 : b.tabs = s.tabs) : AMq C w ow b := by
  obtain ⟨V, κ, Vv, U, k1, k2⟩ := h
  exact ⟨V, κ, Vv, U, by rw [h4, h5, h6]; exact k1, k2.same h1 h2 h3 (by rw [h6]; exact Nat.le_refl _)⟩
/-- the frames' block named. -/
theorem AMq.fr (h : AMq C w ow s) (hc : s.cur < s.ths.length) (hn : s.th.frs ≠ []) : ∃ fg fc, AM C fg fc w ow s := by
  obtain ⟨V, κ, Vv, U, k1, k2⟩ := h
  obtain ⟨L, op, vl⟩ := k1.ex
  have hl : s.cur < V.ths.length := by rw [k2.r.tlen]; exact hc
  have hx : V.ths[s.cur]? = some V.ths[s.cur] := List.getElem?_eq_getElem hl
  have hy : s.ths[s.cur]? = some s.th := by unfold AS.th; rw [List.getD_eq_getElem?_getD, List.getElem?_eq_getElem hc]; rfl
  have hlen := (k2.r.th _ _ _ hx hy).2.2.lenE
  have hf := op.fk vl hx (k1.lt hx)
  rw [hlen] at hf
  obtain ⟨g, cap, l, e1, -⟩ := hf.o.pos (by
    rcases hq : s.th.frs with _ | ⟨a, b⟩
    · exact absurd hq hn
    · simp)
  exact ⟨g, cap, V, κ, Vv, U, k1, k2, e1⟩
theorem vm_loc {b : Nat} {l : List Value} {t d tag : Nat} (hE : Xt { w with drawn := d } ow ow') (f : Fram (tg ow vtT) { w with drawn := d } w') (h : Blk w.heap b l t) (ht : ow b = tag) (hn : tag = 66 := by omega) : Blk w'.heap b l t ∧ ow' b = tag := by
  have hne : ¬ tg ow vtT b := fun z => by have z : vtT (ow b) := z; rw [ht, hn] at z; unfold vtT vmT rtag at z; omega
  exact ⟨f.blkF (w := { w with drawn := d }) h hne, by rw [hE b h.lt]; exact ht⟩
theorem vm_trans {d : Nat} (h0 : Xt w0 ow0 ow) (f0 : Fram (tg ow0 vtT) w0 w) (f : Fram (tg ow vtT) { w with drawn := d } w') : Fram (tg ow0 vtT) w0 w' := f0.transG f (fun b hb q => by have q : vtT (ow b) := q; rw [h0 b hb] at q; exact q)
theorem vm_loc' {b : Nat} {l : List Value} {t tag : Nat} (hE : Xt w ow ow') (f : Fram (tg ow vtT) w w') (h : Blk w.heap b l t) (ht : ow b = tag) (hn : tag = 66 := by omega) : Blk w'.heap b l t ∧ ow' b = tag := vm_loc (d := w.drawn) hE f h ht hn
theorem vm_trans' (h0 : Xt w0 ow0 ow) (f0 : Fram (tg ow0 vtT) w0 w) (f : Fram (tg ow vtT) w w') : Fram (tg ow0 vtT) w0 w' := vm_trans (d := w.drawn) h0 f0 f
/-- a panic of a call within. -/
theorem AE.go {d : Nat} {pv : Value} {c' : (Nat × List Nat × Nat × Bool) × Nat} (h0 : Xt w0 ow0 ow) (f0 : Fram (tg ow0 vtT) w0 w) (h : AE C c' { w with drawn := d } ow z pv w') (hk : c' = c := by first | rfl | exact mk_kH) : AE C c w0 ow0 z pv w' := by
  subst hk
  obtain ⟨ow1, s1, x1, f1, m1, h1⟩ := h
  exact ⟨ow1, s1, h0.trans f0.size x1, vm_trans h0 f0 f1, m1, h1⟩
theorem AE.go' {pv : Value} {c' : (Nat × List Nat × Nat × Bool) × Nat} (h0 : Xt w0 ow0 ow) (f0 : Fram (tg ow0 vtT) w0 w) (h : AE C c' w ow z pv w') (hk : c' = c := by first | rfl | exact mk_kH) : AE C c w0 ow0 z pv w' := AE.go (d := w.drawn) h0 f0 h hk
theorem AE.thr {d : Nat} {pv : Value} {v : PV} (h0 : Xt w0 ow0 ow) (f0 : Fram (tg ow0 vtT) w0 w) (hR : AMq C w ow s) (h : Thr v { w with drawn := d } pv w') (hz : athrow v s = z) (hk : kH s = c := by first | rfl | exact mk_kH) (hl : s.cur < s.ths.length := by first | assumption | (simp only [mkA, List.length_set]; assumption)) (hv : wfV v = true ∧ W64 v.N := by first | assumption | exact ⟨by decide, by decide⟩) : AE C c w0 ow0 z pv w' := by
  obtain ⟨b, h1, h2, h3, h4⟩ := h
  have hs := h3.size
  exact ⟨ow, s, h0, f0.transG h3 (fun _ _ q => q.elim), (hR.thruN (w' := { w with drawn := d }) ((Fram.refl none' _).thenDrew)).thruN h3, hk, .inl ⟨v, b, h1, h2, hR.df b h4, hl, hv, hz⟩⟩
theorem AE.stop {d e : Nat} {pv : Value} (h0 : Xt w0 ow0 ow) (f0 : Fram (tg ow0 vtT) w0 w) (hR : AMq C w ow s) (h : pv = .iface 336 (i64c e) ∧ w' = { w with drawn := d }) (hz : ATr e s z) (hk : kH s = c := by first | rfl | exact mk_kH) : AE C c w0 ow0 z pv w' := by
  obtain ⟨h1, rfl⟩ := h
  exact ⟨ow, s, h0, f0.thenDrew, hR.thruN ((Fram.refl none' _).thenDrew), hk, .inr ⟨e, h1, hz⟩⟩
theorem AE.thr' {pv : Value} {v : PV} (h0 : Xt w0 ow0 ow) (f0 : Fram (tg ow0 vtT) w0 w) (hR : AMq C w ow s) (h : Thr v w pv w') (hz : athrow v s = z) (hk : kH s = c := by first | rfl | exact mk_kH) (hl : s.cur < s.ths.length := by first | assumption | (simp only [mkA, List.length_set]; assumption)) (hv : wfV v = true ∧ W64 v.N := by first | assumption | exact ⟨by decide, by decide⟩) : AE C c w0 ow0 z pv w' := AE.thr (d := w.drawn) h0 f0 hR h hz hk hl hv
theorem AE.stop' {e : Nat} {pv : Value} (h0 : Xt w0 ow0 ow) (f0 : Fram (tg ow0 vtT) w0 w) (hR : AMq C w ow s) (h : pv = .iface 336 (i64c e) ∧ w' = w) (hz : ATr e s z) (hk : kH s = c := by first | rfl | exact mk_kH) : AE C c w0 ow0 z pv w' := AE.stop (d := w.drawn) h0 f0 hR h hz hk
/-- the tables turned. -/
theorem AM.tabs (h : AM C fg fc w ow s) {T' : List Tb} (x : Xt w ow ow') (f : Fram (tg ow rtag) w u) (ht : RTab u ow' C.nb C.xb T') (hlT : s.tabs.length ≤ T'.length) : ∃ ow1, Xt w ow ow1 ∧ Fram (tg ow vtT) w u ∧ AM C fg fc u ow1 { s with tabs := T' } := by
  obtain ⟨V, κ, Vv, U, h1, h2, h3⟩ := h
  obtain ⟨L, op, vl⟩ := h1.ex
  have hx : Xt w ow (cut66 u ow') := fun b hb => by rw [cut66_xt _ _ b (by have := f.size; omega)]; exact x b hb
  refine ⟨cut66 u ow', hx, f.mono (fun b _ z => .inr z), V, κ, Vv, U, ⟨⟨L, op.far f (fun b q _ z => vm_rt q z) hx (cut66_df _ _), vl⟩, ht.far (Fram.refl none' _) (fun _ _ _ q => q) (cut66_xt _ _), h1.nm.far f (fun b q _ z => vm_rt q z) hx, h1.hp, h1.fu, h1.co, h1.cb, h1.eb⟩, h2.same rfl rfl rfl hlT, h3⟩
end

section
variable {C : VC} {w w' w1 u u1 u2 : World} {ow ow' ow1 : Nat → Nat} {a : AS} {y : ATh} {gs : List AFr} {g : AFr} {vars : List PV} {fg fc : Nat} {V : VS} {κ : List Nat} {Vv : Nat → Value} {U : Nat → Nat → Value} {x : VTh} {f : VFr} {fs : List VFr}
/-- the state opened. -/
structure AO (C : VC) (fg fc : Nat) (w : World) (ow : Nat → Nat) (a : AS) (y : ATh) (gs : List AFr) (g : AFr) (vars : List PV) (V : VS) (κ : List Nat) (Vv : Nat → Value) (U : Nat → Nat → Value) (x : VTh) (f : VFr) (fs : List VFr) : Prop where
  v : VW C w ow V 0 a.fuel a.out a.tabs Vv U
  z : RZ (Psf C.F) V (mkA a y gs g vars) κ
  t : Tp V a.cur y gs g x f fs
  hf : U a.cur 3 = .slice (some ⟨fg, 0, none⟩) (gs.length + 1) fc
  hc : a.cur < a.ths.length
  ns : ∃ p ids, a.clos[g.clo]? = some (p, ids) ∧ g.slots.length = (fsAt C.F p).ns ∧ g.slots.length ≤ 12
  dp : gs.length ≤ 7
theorem AM.open (h : AM C fg fc w ow (mkA a y gs g vars)) (hc : a.cur < a.ths.length) : ∃ V κ Vv U x f fs, AO C fg fc w ow a y gs g vars V κ Vv U x f fs := by
  obtain ⟨V, κ, Vv, U, h1, h2, h3⟩ := h
  obtain ⟨x, f, fs, hT⟩ := h2.top hc
  rw [mk_th hc] at h3
  have hz := h2.z _ (List.mem_of_getElem? (mk_at hc))
  obtain ⟨p, ids, k1, k2⟩ := hz.2 g List.mem_cons_self
  rw [pr_psf] at k2
  have k3 : g.slots.length = (fsAt C.F p).ns := k2
  exact ⟨V, κ, Vv, U, x, f, fs, h1, h2, hT, h3, hc, ⟨p, ids, k1, k3, by rw [k3]; exact (h1.co.fok p).1⟩, by have := hz.1; simp at this; omega⟩
theorem AO.sl (o : AO C fg fc w ow a y gs g vars V κ Vv U x f fs) : x.stack.length ≤ 2112 + g.ops.length := by
  have h1 := o.t.ln
  have h2 := o.t.bb
  have h3 := o.t.nl
  have h4 := o.dp
  obtain ⟨p, ids, -, -, h5⟩ := o.ns
  omega
theorem AO.lt (o : AO C fg fc w ow a y gs g vars V κ Vv U x f fs) : a.cur < 5 := o.v.lt o.t.hx
/-- closed again with other operands. -/
theorem AO.cl (o : AO C fg fc w ow a y gs g vars V κ Vv U x f fs) {l : List PV} {p : Nat} {U' : Nat → Nat → Value} {Vv' : Nat → Value} {st : List PV} (hst : st = x.stack.take (f.base + g.slots.length) ++ l.reverse)
    (hv : VW C w' ow' (V.setT a.cur { x with stack := st, frs := { f with pc := p } :: fs }) 0 a.fuel a.out a.tabs Vv' U') (hu : U' a.cur 3 = U a.cur 3) : AM C fg fc w' ow' (mkA a y gs { g with ops := l, pc := p } vars) := by
  subst hst
  refine ⟨_, κ, Vv', U', hv, o.z.ops o.hc o.t l p, ?_⟩
  show U' a.cur 3 = _
  rw [hu, o.hf, mk_th o.hc]
  rfl
theorem vset_self {V : VS} {t : Nat} {x : VTh} (h : V.ths[t]? = some x) : V.setT t x = V := by
  unfold VS.setT
  obtain ⟨hl, he⟩ := List.getElem?_eq_some_iff.1 h
  rw [← he, List.set_getElem_self]
theorem vset_set {V : VS} {t : Nat} {x x' : VTh} : (V.setT t x).setT t x' = V.setT t x' := by unfold VS.setT; rw [List.set_set]
theorem vset_at {V : VS} {t : Nat} {x x' : VTh} (h : V.ths[t]? = some x) : (V.setT t x').ths[t]? = some x' := by
  have hl := (List.getElem?_eq_some_iff.1 h).1
  show (V.ths.set t x')[t]? = _
  rw [List.getElem?_set, if_pos rfl, if_pos hl]
theorem frs_self (t : Tp V a.cur y gs g x f fs) : ({ f with pc := g.pc } : VFr) :: fs = x.frs := by rw [t.hf, ← t.pc]
theorem vm_tb {t : Nat} (hx : Xt w ow ow') (f : Fram (fun b => b = C.E.tb ∨ ow b = 440 + t) w w') (ht : t < 5) (htt : ow C.E.tb = 409) : Fram (tg ow vtT) w w' := f.mono (fun b _ z => by
  show vtT (ow b)
  rcases z with z | z
  · rw [z]; exact vt_tb htt
  · rw [z]; left; unfold vmT; omega)
theorem VW.tt {V : VS} {e fuel : Nat} {out : Str} {T : List Tb} (h : VW C w ow V e fuel out T Vv U) : ow C.E.tb = 409 ∧ ow C.E.mb = 400 := by
  obtain ⟨L, op, vl⟩ := h.ex
  exact ⟨op.tt, op.tm⟩
theorem pushA (hR : AM C fg fc w ow (mkA a y gs g vars)) (hc : a.cur < a.ths.length) {b : Nat} {vs : List PV} (hB : Blk w.heap b (rws pvc vs) 119) (hl : g.ops.length + vs.length ≤ 300) :
    Ret Tryz.prog 151 [tptr C a.cur, .slice (some ⟨b, 0, none⟩) vs.length vs.length] w (AR C fg fc w ow (.tuple #[]) (mkA a y gs { g with ops := vs.reverse ++ g.ops } vars)) := by
  obtain ⟨V, κ, Vv, U, x, f, fs, o⟩ := hR.open hc
  have hsl := o.sl
  refine (push151 o.v o.t.hx hB (by omega)).mono ?_
  rintro r w' ⟨rfl, v2, ow', x1, f1, hv, -⟩
  refine ⟨rfl, ow', x1, vm_tb x1 f1 o.lt o.v.tt.1, o.cl (st := x.stack ++ vs) (U' := up1 U a.cur (up1 (U a.cur) 2 v2)) (Vv' := Vv) ?_ ?_ ?_⟩
  · rw [List.reverse_append, List.reverse_reverse, ← List.append_assoc, ← o.t.st]
  · have e : ({ x with stack := x.stack ++ vs, frs := { f with pc := g.pc } :: fs } : VTh) = { x with stack := x.stack ++ vs } := by rw [frs_self o.t]
    rw [e]
    exact hv
  · rw [up1_self, up1_ne (by decide)]
theorem AO.sg (o : AO C fg fc w ow a y gs g vars V κ Vv U x f fs) (h0 : 0 < x.stack.length) : ∃ sg sc, U a.cur 2 = .slice (some ⟨sg, 0, none⟩) x.stack.length sc := by
  obtain ⟨L, op, vl⟩ := o.v.ex
  obtain ⟨g', cap, l, e1, -⟩ := (op.sk vl o.t.hx o.lt).o.pos h0
  exact ⟨g', cap, e1⟩
theorem AO.stk (o : AO C fg fc w ow a y gs g vars V κ Vv U x f fs) {v : PV} {l : List PV} (ho : g.ops = v :: l) : x.stack = (x.stack.take (f.base + g.slots.length) ++ l.reverse) ++ [v] := by
  have := o.t.st
  rw [ho, List.reverse_cons, ← List.append_assoc] at this
  exact this
theorem popA (hR : AM C fg fc w ow (mkA a y gs g vars)) (hc : a.cur < a.ths.length) {v : PV} {l : List PV} (ho : g.ops = v :: l) (hl : g.ops.length ≤ 300) :
    Ret Tryz.prog 244 [tptr C a.cur] w (AR C fg fc w ow (pv v) (mkA a y gs { g with ops := l } vars)) := by
  obtain ⟨V, κ, Vv, U, x, f, fs, o⟩ := hR.open hc
  have hsl := o.sl
  have hst := o.stk ho
  have h0 : 0 < x.stack.length := by rw [hst, List.length_append]; simp
  obtain ⟨sg, sc, hU⟩ := o.sg h0
  refine (pop244 o.v o.t.hx hst hU).mono ?_
  rintro r w' ⟨rfl, hv, f1⟩
  have htt := o.v.tt.1
  refine ⟨rfl, ow, Xt.refl _ _, f1.mono (fun b _ z => by have z : b = C.E.tb := z; show vtT (ow b); rw [z]; exact vt_tb htt), o.cl (st := x.stack.take (f.base + g.slots.length) ++ l.reverse) (p := g.pc) rfl (U' := up1 U a.cur (up1 (U a.cur) 2 (.slice (some ⟨sg, 0, none⟩) (x.stack.take (f.base + g.slots.length) ++ l.reverse).length sc))) (Vv' := Vv) ?_ ?_⟩
  · have e : ({ x with stack := x.stack.take (f.base + g.slots.length) ++ l.reverse, frs := { f with pc := g.pc } :: fs } : VTh) = { x with stack := x.stack.take (f.base + g.slots.length) ++ l.reverse } := by rw [frs_self o.t]
    rw [e]
    exact hv
  · rw [up1_self, up1_ne (by decide)]
end
section
variable {P : Program} {n : Nat} {e : Nat → Option Value} {w : World}
theorem eo_bsV1 {t et : Nat} {x : Operand} {i : PV} (hx : evO n e x = some (pv i)) (ht : selB P t et 3 = true) (hz : ∃ z, zeroB P et z ∧ z.length = 3) :
    EO P n e w (.buildSlice t 1 #[(0, x)]) (.slice (some ⟨w.heap.size, 0, none⟩) 1 1) (w.alloc (.cells (rws pvc [i]).toArray et)) := by
  intro ds dst ty ps af g
  obtain ⟨t1, t2⟩ := selB_spec ht
  obtain ⟨z, ⟨j, zv, z1, z2, z3⟩, zl⟩ := hz
  have hx : evO n e x = some (.agg #[i64c i.T, u64c i.N, S i.S]) := hx
  match z, zl with
  | [z0, z9, z8], _ => simp [execOp, evO_eval hx, Instr.buildSlice, run_underlying t1, run_sizeOf t2, zeroValue, typeInfo, z1, z2, z3, Instr.fill, newRow, Array.range_succ, Array.range_zero', pvc, rws, Value.cells]
theorem eo_bsV2 {t et : Nat} {x y : Operand} {i j : PV} (hx : evO n e x = some (pv i)) (hy : evO n e y = some (pv j)) (ht : selB P t et 3 = true) (hz : ∃ z, zeroB P et z ∧ z.length = 3) :
    EO P n e w (.buildSlice t 2 #[(0, x), (1, y)]) (.slice (some ⟨w.heap.size, 0, none⟩) 2 2) (w.alloc (.cells (rws pvc [i, j]).toArray et)) := by
  intro ds dst ty ps af g
  obtain ⟨t1, t2⟩ := selB_spec ht
  obtain ⟨z, ⟨k, zv, z1, z2, z3⟩, zl⟩ := hz
  have hx : evO n e x = some (.agg #[i64c i.T, u64c i.N, S i.S]) := hx
  have hy : evO n e y = some (.agg #[i64c j.T, u64c j.N, S j.S]) := hy
  match z, zl with
  | [z0, z9, z8], _ => simp [execOp, evO_eval hx, evO_eval hy, Instr.buildSlice, run_underlying t1, run_sizeOf t2, zeroValue, typeInfo, z1, z2, z3, Instr.fill, newRow, Array.range_succ, Array.range_zero', pvc, rws, Value.cells]
end
section
variable {n : Nat} {e : Nat → Option Value} {ds : List Deferred} {w : World} {ops : Array Oper} {Q : Exit → Act → World → Prop} {rest : List Oper} {d1 d2 : Nat} {bs : Op} {ty1 ty2 : TypeId} {ps1 ps2 : String} {af1 af2 : Array Edge}
  {C : VC} {ow : Nat → Nat} {a : AS} {y : ATh} {gs : List AFr} {g : AFr} {vars : List PV} {fg fc : Nat}
theorem wl_pu {tp : Operand} {ats : Array TypeId} {m : Nat} {vs : List PV} (hb : EO Tryz.prog n e w bs (.slice (some ⟨w.heap.size, 0, none⟩) m m) (w.alloc (.cells (rws pvc vs).toArray 119))) (hm : vs.length = m) (hR : AM C fg fc w ow (mkA a y gs g vars)) (hc : a.cur < a.ths.length) (ha : evArgs n (upd e d1 (.slice (some ⟨w.heap.size, 0, none⟩) m m)) [tp, .tmp d1] = some [tptr C a.cur, .slice (some ⟨w.heap.size, 0, none⟩) m m]) (hl : g.ops.length + vs.length ≤ 300)
    (K : ∀ w' ow', Xt w ow ow' → Fram (tg ow vtT) w w' → AM C fg fc w' ow' (mkA a y gs { g with ops := vs.reverse ++ g.ops } vars) → WL Tryz.prog ops Q rest (Fr n (upd (upd e d1 (.slice (some ⟨w.heap.size, 0, none⟩) m m)) d2 (.tuple #[])) ds) w') :
    WL Tryz.prog ops Q (⟨some d1, bs, ty1, ps1, af1, none⟩ :: ⟨some d2, .call ⟨.value (.func 151), #[tp, .tmp d1], ats⟩, ty2, ps2, af2, none⟩ :: rest) (Fr n e ds) w := by
  refine wle hb ?_
  have hF : Fram none' w (w.alloc (.cells (rws pvc vs).toArray 119)) := Fram.alloc none' w _
  subst hm
  refine wl_call ha en_151 (pushA (hR.thruN hF) hc (Blk.new w (rws pvc vs) 119) hl) ?_
  rintro _ w' ⟨rfl, ow', x, fr, hR'⟩
  exact K w' ow' (Xt.trans (w1 := w.alloc (.cells (rws pvc vs).toArray 119)) (Xt.refl _ _) hF.size x) (((hF.wide (G := tg ow vtT))).trans' fr (fun _ _ q => q)) hR'
theorem ql_pu {S : World → Prop} {last i : Nat} {tp : Operand} {ats : Array TypeId} {m : Nat} {vs : List PV} (h1 : ops[i]? = some ⟨some d1, bs, ty1, ps1, af1, none⟩) (h2 : ops[last]? = some ⟨some d2, .call ⟨.value (.func 151), #[tp, .tmp d1], ats⟩, ty2, ps2, af2, none⟩) (hS : ∀ w1, Fram none' w w1 → S w1)
    (hb : EO Tryz.prog n e w bs (.slice (some ⟨w.heap.size, 0, none⟩) m m) (w.alloc (.cells (rws pvc vs).toArray 119))) (hm : vs.length = m) (hR : AM C fg fc w ow (mkA a y gs g vars)) (hc : a.cur < a.ths.length) (ha : evArgs n (upd e d1 (.slice (some ⟨w.heap.size, 0, none⟩) m m)) [tp, .tmp d1] = some [tptr C a.cur, .slice (some ⟨w.heap.size, 0, none⟩) m m]) (hl : g.ops.length + vs.length ≤ 300)
    (K : ∀ w' ow', Xt w ow ow' → Fram (tg ow vtT) w w' → AM C fg fc w' ow' (mkA a y gs { g with ops := vs.reverse ++ g.ops } vars) → Q .normal (Fr n (upd (upd e d1 (.slice (some ⟨w.heap.size, 0, none⟩) m m)) d2 (.tuple #[])) ds) w') :
    WQ Tryz.prog ops Q S last [(i, true)] (Fr n e ds) w := by
  have hF : Fram none' w (w.alloc (.cells (rws pvc vs).toArray 119)) := Fram.alloc none' w _
  refine ql_eo h1 hb (hS _ hF) ?_
  subst hm
  refine ql_lastC h2 ha en_151 (pushA (hR.thruN hF) hc (Blk.new w (rws pvc vs) 119) hl) ?_
  rintro _ w' ⟨rfl, ow', x, fr, hR'⟩
  exact K w' ow' (Xt.trans (w1 := w.alloc (.cells (rws pvc vs).toArray 119)) (Xt.refl _ _) hF.size x) (((hF.wide (G := tg ow vtT))).trans' fr (fun _ _ q => q)) hR'
end
end Go.Proofs.Qxb6500568aGreatDoor
