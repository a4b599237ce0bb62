import Derived.Test.Qxb6500568aGreatDoorOl
namespace Go.Proofs.Qxb6500568aGreatDoor
open Ieee
set_option linter.unusedVariables false
set_option linter.unusedSimpArgs false
set_option linter.unusedSectionVars false

/-! The stack machine with its bounds, the top frame in hand. -/

/-- a frame has its function's slots. -/
def FZ (Ps : List Proto) (cl : List (Nat × List Nat)) (f : AFr) : Prop := ∃ p ids, cl[f.clo]? = some (p, ids) ∧ f.slots.length = (pr Ps p).ns
def TZ (Ps : List Proto) (cl : List (Nat × List Nat)) (y : ATh) : Prop := y.frs.length ≤ 8 ∧ ∀ f ∈ y.frs, FZ Ps cl f
def AZ (Ps : List Proto) (a : AS) : Prop := ∀ y ∈ a.ths, TZ Ps a.clos y
def SF : List VFr → Prop
  | [] => True
  | f :: fs => f.base ≤ 300 * fs.length ∧ SF fs
def VZ (V : VS) : Prop := ∀ x ∈ V.ths, SF x.frs
/-! what a check asks of the frames and the cells. -/
/-- where a frame lies upon the one below. -/
def DB (f : VFr) : List VFr → List AFr → Prop
  | f' :: _, g' :: _ => f.ret + 1 ≤ f.base ∧ f.base ≤ f.ret + 4 ∧ f.base ≤ f'.base + g'.slots.length + 128
  | _, _ => f.base = 0
/-- the values between a frame and the one below hold P. -/
def DF (P : PV → Prop) (stk : List PV) : List VFr → List AFr → Prop
  | f :: fs, g :: gs => DB f fs gs ∧ (∀ i v, f.ret ≤ i → i < f.base → stk[i]? = some v → P v) ∧ DF P stk fs gs
  | _, _ => True
def CZ (z : VCell) : Prop := (z.th = none → z.pl = 0) ∧ (z.th ≠ none → z.v = vNil)
structure VD (V : VS) (a : AS) : Prop where
  f : ∀ (t : Nat) x y, V.ths[t]? = some x → a.ths[t]? = some y → DF (VV a.clos.length a.ths.length a.tabs.length) x.stack x.frs y.frs
  c : ∀ z ∈ V.cells, CZ z
section
variable {P Q : PV → Prop} {stk stk' : List PV}
theorem DF.mono (hP : ∀ v, P v → Q v) : ∀ {fs : List VFr} {gs : List AFr}, DF P stk fs gs → DF Q stk fs gs
  | [], _, _ => by unfold DF; trivial
  | _ :: _, [], _ => by unfold DF; trivial
  | f :: fs, g :: gs, ⟨h1, h2, h3⟩ => ⟨h1, fun i v a b c => hP v (h2 i v a b c), DF.mono hP h3⟩
theorem DF.low : ∀ {fs : List VFr} {gs : List AFr} {hi : Nat}, DF P stk fs gs → FrG stk hi fs gs → (∀ i, i < hi → stk'[i]? = stk[i]?) → DF P stk' fs gs
  | [], _, hi, _, _, _ => by unfold DF; trivial
  | _ :: _, [], hi, _, _, _ => by unfold DF; trivial
  | f :: fs, g :: gs, hi, ⟨h1, h2, h3⟩, ⟨k1, k2, k3, k4, k5⟩, e => ⟨h1, fun i v a b c => h2 i v a b (by rw [← e i (by omega)]; exact c), DF.low h3 k5 fun i hi' => e i (by omega)⟩
theorem DF.set {v : PV} {i n : Nat} : ∀ {fs : List VFr} {gs : List AFr} {hi : Nat}, DF P stk fs gs → FrG stk hi fs gs → Sl fs gs i n → DF P (stk.set i v) fs gs
  | [], _, hi, _, _, _ => by unfold DF; trivial
  | _ :: _, [], hi, _, _, _ => by unfold DF; trivial
  | f :: fs, g :: gs, hi, ⟨h1, h2, h3⟩, ⟨k1, k2, k3, k4, k5⟩, hs => by
    rcases hs with ⟨q1, q2⟩ | hs
    · refine ⟨h1, fun j v a b c => h2 j v a b ?_, h3.low k5 fun j hj => ?_⟩
      · rw [List.getElem?_set, if_neg (by omega)] at c; exact c
      · rw [List.getElem?_set, if_neg (by omega)]
    · have hl := Sl.lt k5 hs
      refine ⟨h1, fun j v a b c => h2 j v a b ?_, DF.set h3 k5 hs⟩
      rw [List.getElem?_set, if_neg (by omega)] at c; exact c
theorem DF.hd {f f' : VFr} {g g' : AFr} {fs : List VFr} {gs : List AFr} (h : DF P stk (f :: fs) (g :: gs)) (h1 : f'.base = f.base) (h2 : f'.ret = f.ret) : DF P stk (f' :: fs) (g' :: gs) := by
  refine ⟨?_, ?_, h.2.2⟩
  · have := h.1
    unfold DB at this ⊢
    rw [h1, h2]; exact this
  · rw [h1, h2]; exact h.2.1
theorem DF.lowH {f : VFr} {g : AFr} {fs : List VFr} {gs : List AFr} (h : DF P stk (f :: fs) (g :: gs)) (k : FrG stk f.ret fs gs) (hr : f.ret ≤ f.base) (e : ∀ i, i < f.base → stk'[i]? = stk[i]?) : DF P stk' (f :: fs) (g :: gs) :=
  ⟨h.1, fun i v a b c => h.2.1 i v a b (by rw [← e i b]; exact c), h.2.2.low k fun i hi => e i (by omega)⟩
theorem DF.pu2 {u w : PV} : ∀ {fs : List VFr} {gs : List AFr}, DF P stk fs gs → DF P stk fs (pu2 u w gs)
  | [], _, _ => by unfold DF; trivial
  | _ :: _, [], _ => by unfold DF; trivial
  | f :: fs, g :: gs, h => h.hd rfl rfl
theorem DF.unw : ∀ {fs : List VFr} {gs : List AFr} {hi : Nat} {f : VFr} {fr : List VFr} {r : List AFr}, DF P stk fs gs → FrG stk hi fs gs → vunw fs = some (f, fr) → unwL gs = some r → DF P stk fr r
  | [], _, hi, f, fr, r, _, _, e, _ => by cases e
  | _ :: _, [], hi, f, fr, r, _, h, _, _ => by cases h
  | q :: fs, g :: gs, hi, f, fr, r, ⟨h1, h2, h3⟩, ⟨k1, k2, k3, k4, k5⟩, e1, e2 => by
    have hne : fs = [] ↔ gs = [] := by
      cases fs <;> cases gs <;> simp
      · exact k5
      · exact k5
    unfold vunw at e1
    unfold unwL at e2
    have hn : fs ≠ [] ↔ gs ≠ [] := ⟨fun q e => q (hne.2 e), fun q e => q (hne.1 e)⟩
    have hpp : (q.prot = true ∧ fs ≠ []) ↔ (g.prot = true ∧ gs ≠ []) := by rw [k1.2.2, hn]
    by_cases hc : g.prot = true ∧ gs ≠ []
    · rw [if_pos (hpp.2 hc)] at e1
      rw [if_pos hc] at e2
      injection e1 with e1
      injection e1 with _ e1
      injection e2 with e2
      subst e1; subst e2
      exact h3
    · rw [if_neg (fun q => hc (hpp.1 q))] at e1
      rw [if_neg hc] at e2
      exact DF.unw h3 k5 e1 e2
theorem CZ.close {p : Nat} : ∀ {l : List Nat} {cs : List VCell}, (∀ z ∈ cs, CZ z) → ∀ z ∈ (closeL stk p l cs).1, CZ z
  | [], cs, h => h
  | c :: r, cs, h => by
    unfold closeL
    split
    · exact h
    · refine CZ.close fun z hz => ?_
      rcases List.mem_or_eq_of_mem_set hz with hz | rfl
      · exact h z hz
      · exact ⟨fun _ => rfl, fun q => absurd rfl q⟩
end
section
variable {V V' : VS} {a b : AS}
theorem VD.put (h : VD V a) {t : Nat} {x' : VTh} {y' : ATh} (hV : V'.ths = V.ths.set t x') (hb : b.ths = a.ths.set t y') (h1 : a.clos.length ≤ b.clos.length) (h2 : a.tabs.length ≤ b.tabs.length) (hD : t < V.ths.length → t < a.ths.length → DF (VV a.clos.length a.ths.length a.tabs.length) x'.stack x'.frs y'.frs) (hc : ∀ z ∈ V'.cells, CZ z) : VD V' b := by
  have hl : b.ths.length = a.ths.length := by rw [hb, List.length_set]
  refine ⟨fun k x y hx hy => ?_, hc⟩
  refine DF.mono (P := VV a.clos.length a.ths.length a.tabs.length) (fun v q => VV.mono q h1 (Nat.le_of_eq hl.symm) h2) ?_
  rw [hV, List.getElem?_set] at hx
  rw [hb, List.getElem?_set] at hy
  by_cases hk : t = k
  · rw [if_pos hk] at hx hy
    split at hx
    · split at hy
      · injection hx with hx; injection hy with hy; subst hx; subst hy
        exact hD (by assumption) (by assumption)
      · cases hy
    · cases hx
  · rw [if_neg hk] at hx hy
    exact h.f k x y hx hy
theorem VD.congr (h : VD V a) (hV : ∀ (k : Nat) x', V'.ths[k]? = some x' → ∃ x, V.ths[k]? = some x ∧ x.stack = x'.stack ∧ x.frs = x'.frs) (hb : b.ths = a.ths) (h1 : a.clos.length ≤ b.clos.length) (h2 : a.tabs.length ≤ b.tabs.length) (hc : ∀ z ∈ V'.cells, CZ z) : VD V' b := by
  refine ⟨fun k x' y hx hy => ?_, hc⟩
  refine DF.mono (P := VV a.clos.length a.ths.length a.tabs.length) (fun v q => VV.mono q h1 (Nat.le_of_eq (by rw [hb])) h2) ?_
  obtain ⟨x, e1, e2, e3⟩ := hV k x' hx
  rw [← e2, ← e3]
  rw [hb] at hy
  exact h.f k x y e1 hy
theorem VD.cap (h : VD V a) (t pl : Nat) : VD (capV V t pl).2 a := by
  unfold capV
  dsimp only
  split
  · exact h
  · refine h.congr (fun k x' hx => ?_) rfl (Nat.le_refl _) (Nat.le_refl _) fun z hz => ?_
    · have hx : (V.ths.set t _)[k]? = some x' := hx
      rw [List.getElem?_set] at hx
      by_cases hk : t = k
      · rw [if_pos hk] at hx
        split at hx
        · injection hx with hx
          subst hx
          subst hk
          exact ⟨V.ths[t], List.getElem?_eq_getElem (by assumption), by rw [List.getD_eq_getElem?_getD, List.getElem?_eq_getElem (by assumption)]; rfl, by rw [List.getD_eq_getElem?_getD, List.getElem?_eq_getElem (by assumption)]; rfl⟩
        · cases hx
      · rw [if_neg hk] at hx; exact ⟨x', hx, rfl, rfl⟩
    · rcases List.mem_append.1 hz with hz | hz
      · exact h.c z hz
      · rw [List.mem_singleton.1 hz]; exact ⟨fun q => (by cases q), fun _ => rfl⟩
theorem VD.capAll {t base : Nat} {ups : List Nat} : ∀ (ds : List (Nat × Nat)) {V : VS}, VD V a → VD (capAll t base ups ds V).2 a
  | [], V, h => h
  | d :: r, V, h => by
    show VD (Go.Proofs.Qxb6500568aGreatDoor.capAll t base ups r (if d.1 = 1 then capV V t (base + d.2) else (ups.getD d.2 0, V)).2).2 a
    apply VD.capAll r
    split
    · exact h.cap _ _
    · exact h
theorem close_ths {t p : Nat} {x' : VTh} : ((closeV V t p).setT t x').ths = V.ths.set t x' := by
  show ((closeV V t p).ths).set t x' = _
  unfold closeV
  dsimp only
  rw [List.set_set]
theorem VD.closeC (h : VD V a) (t p : Nat) : ∀ z ∈ (closeV V t p).cells, CZ z := CZ.close h.c
end
structure RZ (Ps : List Proto) (V : VS) (a : AS) (κ : List Nat) : Prop where
  r : R V a κ AllP
  z : AZ Ps a
  v : VZ V
  d : VD V a

section
variable {Ps : List Proto} {V : VS} {a : AS} {κ : List Nat} {y : ATh} {gs : List AFr} {g : AFr} {vars : List PV}

theorem mk_at (hc : a.cur < a.ths.length) : (mkA a y gs g vars).ths[a.cur]? = some { y with frs := g :: gs } := by
  show (a.ths.set a.cur _)[a.cur]? = _
  rw [List.getElem?_set, if_pos rfl, if_pos hc]
theorem mk_sets (y' : ATh) : (mkA a y gs g vars).ths.set a.cur y' = a.ths.set a.cur y' := by
  show (a.ths.set a.cur _).set a.cur y' = _
  rw [List.set_set]
theorem FZ.app {cl r : List (Nat × List Nat)} {f : AFr} (h : FZ Ps cl f) : FZ Ps (cl ++ r) f := by
  obtain ⟨p, ids, h1, h2⟩ := h
  exact ⟨p, ids, by rw [List.getElem?_append_left (List.getElem?_eq_some_iff.1 h1).1]; exact h1, h2⟩
theorem AZ.set (h : AZ Ps a) {t : Nat} {y' : ATh} (hz : TZ Ps a.clos y') {b : AS} (hb1 : b.clos = a.clos) (hb3 : b.ths = a.ths.set t y') : AZ Ps b := by
  intro u hu
  rw [hb3] at hu
  rw [hb1]
  rcases List.mem_or_eq_of_mem_set hu with hu | rfl
  · exact h u hu
  · exact hz
theorem AZ.same (h : AZ Ps a) {b : AS} (hb1 : b.clos = a.clos) (hb3 : b.ths = a.ths) : AZ Ps b := by
  intro u hu
  rw [hb3] at hu
  rw [hb1]
  exact h u hu
theorem VZ.set (h : VZ V) {t : Nat} {x' : VTh} (hs : SF x'.frs) : VZ (V.setT t x') := by
  intro u hu
  rcases List.mem_or_eq_of_mem_set hu with hu | rfl
  · exact h u hu
  · exact hs
theorem VZ.at (h : VZ V) {t : Nat} {x : VTh} (hx : V.ths[t]? = some x) : SF x.frs := h x (List.mem_of_getElem? hx)
theorem VZ.close (h : VZ V) (t p : Nat) : VZ (closeV V t p) := by
  intro u hu
  unfold closeV at hu
  dsimp only at hu
  rcases List.mem_or_eq_of_mem_set hu with hu' | rfl
  · exact h u hu'
  · by_cases ht : t < V.ths.length
    · have hx : V.ths[t]? = some V.ths[t] := List.getElem?_eq_getElem ht
      have hD : V.ths.getD t VTh.zero = V.ths[t] := by rw [List.getD_eq_getElem?_getD, hx]; rfl
      show SF (V.ths.getD t VTh.zero).frs
      rw [hD]
      exact h _ (List.getElem_mem ht)
    · show SF (V.ths.getD t VTh.zero).frs
      rw [List.getD_eq_getElem?_getD, List.getElem?_eq_none (by omega)]
      exact trivial
theorem VZ.cap (h : VZ V) (t p : Nat) : VZ (capV V t p).2 := by
  unfold capV
  dsimp only
  split
  · exact h
  · intro u hu
    rcases List.mem_or_eq_of_mem_set hu with hu' | rfl
    · exact h u hu'
    · by_cases ht : t < V.ths.length
      · have hx : V.ths[t]? = some V.ths[t] := List.getElem?_eq_getElem ht
        have hD : V.ths.getD t VTh.zero = V.ths[t] := by rw [List.getD_eq_getElem?_getD, hx]; rfl
        show SF (V.ths.getD t VTh.zero).frs
        rw [hD]
        exact h _ (List.getElem_mem ht)
      · show SF (V.ths.getD t VTh.zero).frs
        rw [List.getD_eq_getElem?_getD, List.getElem?_eq_none (by omega)]
        exact trivial
theorem VZ.capAll {t base : Nat} {ups : List Nat} : ∀ (ds : List (Nat × Nat)) {V : VS}, VZ V → VZ (capAll t base ups ds V).2
  | [], V, h => h
  | d :: r, V, h => by
    show VZ (Go.Proofs.Qxb6500568aGreatDoor.capAll t base ups r (if d.1 = 1 then capV V t (base + d.2) else (ups.getD d.2 0, V)).2).2
    apply VZ.capAll r
    split
    · exact h.cap _ _
    · exact h
theorem FrG.lenE {stk : List PV} : ∀ {fs : List VFr} {gs : List AFr} {hi : Nat}, FrG stk hi fs gs → fs.length = gs.length
  | [], [], hi, _ => rfl
  | [], _ :: _, hi, h => by cases h
  | _ :: _, [], hi, h => by cases h
  | f :: fs, g :: gs, hi, ⟨h1, h2, h3, h4, h5⟩ => by simp [FrG.lenE h5]

/-- the top frame of the thread at hand, in the stack machine. -/
structure Tp (V : VS) (t : Nat) (y : ATh) (gs : List AFr) (g : AFr) (x : VTh) (f : VFr) (fs : List VFr) : Prop where
  hx : V.ths[t]? = some x
  hf : x.frs = f :: fs
  clo : f.clo = g.clo
  pc : f.pc = g.pc
  pt : f.prot = g.prot
  st : x.stack = x.stack.take (f.base + g.slots.length) ++ g.ops.reverse
  ln : f.base + g.slots.length + g.ops.length = x.stack.length
  fg : FrG x.stack x.stack.length (f :: fs) (g :: gs)
  rt : f.ret ≤ f.base
  fr : FrG x.stack f.ret fs gs
  bb : f.base ≤ 300 * fs.length
  nl : fs.length = gs.length
  xs : x.st = y.st
  xf : x.fn = y.fn
theorem RZ.df (h : RZ Ps V (mkA a y gs g vars) κ) (hc : a.cur < a.ths.length) {x : VTh} {f : VFr} {fs : List VFr} (T : Tp V a.cur y gs g x f fs) : DF (VV a.clos.length a.ths.length a.tabs.length) x.stack (f :: fs) (g :: gs) := by
  have := h.d.f a.cur x _ T.hx (mk_at hc)
  rw [T.hf] at this
  have e : (mkA a y gs g vars).ths.length = a.ths.length := by show (a.ths.set _ _).length = _; rw [List.length_set]
  rw [e] at this
  exact this
theorem RZ.df' (h : RZ Ps V (mkA a y gs g vars) κ) (hc : a.cur < a.ths.length) {x : VTh} {f : VFr} {fs : List VFr} (T : Tp V a.cur y gs g x f fs) : DF (VV (mkA a y gs g vars).clos.length (mkA a y gs g vars).ths.length (mkA a y gs g vars).tabs.length) x.stack (f :: fs) (g :: gs) := by
  have := h.d.f a.cur x _ T.hx (mk_at hc)
  rw [T.hf] at this
  exact this
theorem RZ.top (h : RZ Ps V (mkA a y gs g vars) κ) (hc : a.cur < a.ths.length) : ∃ x f fs, Tp V a.cur y gs g x f fs := by
  have hl : a.cur < V.ths.length := by rw [h.r.tlen]; show _ < (a.ths.set _ _).length; rw [List.length_set]; exact hc
  have hx : V.ths[a.cur]? = some V.ths[a.cur] := List.getElem?_eq_getElem hl
  obtain ⟨t1, t2, t3⟩ := h.r.th _ _ _ hx (mk_at hc)
  have hz := h.v.at hx
  generalize V.ths[a.cur] = x at *
  rcases hf : x.frs with _ | ⟨f, fs⟩
  · rw [hf] at t3; cases t3
  · rw [hf] at t3 hz
    exact ⟨x, f, fs, hx, hf, t3.1.1, t3.1.2.1, t3.1.2.2, t3.top, t3.2.1, t3, t3.2.2.2.1, t3.2.2.2.2, hz.1, t3.2.2.2.2.lenE, t1, t2⟩
section
variable {x : VTh} {f : VFr} {fs : List VFr}
theorem Tp.slot (T : Tp V a.cur y gs g x f fs) (hc : a.cur < a.ths.length) {k n : Nat} (hk : g.slots[k]? = some n) : SlotAt V.ths (mkA a y gs g vars).ths a.cur (f.base + k) n :=
  ⟨x, _, T.hx, mk_at hc, by rw [T.hf]; exact .inl ⟨by omega, by rw [Nat.add_sub_cancel_left]; exact hk⟩⟩
theorem Tp.lt (T : Tp V a.cur y gs g x f fs) : f.base + g.slots.length ≤ x.stack.length := by have := T.ln; omega
/-- the operands turn. -/
theorem RZ.ops (h : RZ Ps V (mkA a y gs g vars) κ) (hc : a.cur < a.ths.length) (T : Tp V a.cur y gs g x f fs) (l : List PV) (p : Nat) :
    RZ Ps (V.setT a.cur { x with stack := x.stack.take (f.base + g.slots.length) ++ l.reverse, frs := { f with pc := p } :: fs }) (mkA a y gs { g with ops := l, pc := p } vars) κ := by
  have hz := h.z _ (List.mem_of_getElem? (mk_at hc))
  refine ⟨h.r.ops (p := p) l T.hx (mk_at hc) T.hf rfl rfl rfl (by rw [mk_sets]; rfl), h.z.set (t := a.cur) (y' := { y with frs := { g with ops := l, pc := p } :: gs }) ⟨hz.1, fun q hq => ?_⟩ rfl (by rw [mk_sets]; rfl), h.v.set ⟨T.bb, ?_⟩, h.d.put (t := a.cur) (y' := { y with frs := { g with ops := l, pc := p } :: gs }) rfl (by rw [mk_sets]; rfl) (Nat.le_refl _) (Nat.le_refl _) (fun _ _ => DF.hd ((h.df' hc T).lowH T.fr T.rt fun i hi => (by rw [List.getElem?_append_left (by rw [List.length_take]; have := T.ln; omega), List.getElem?_take, if_pos (by omega)])) rfl rfl) h.d.c⟩
  · rcases List.mem_cons.1 hq with rfl | hq
    · exact hz.2 g List.mem_cons_self
    · exact hz.2 q (List.mem_cons_of_mem _ hq)
  · have := h.v.at T.hx
    rw [T.hf] at this
    exact this.2
theorem RZ.var (h : RZ Ps V (mkA a y gs g vars) κ) (hc : a.cur < a.ths.length) (T : Tp V a.cur y gs g x f fs) {k n : Nat} (hk : g.slots[k]? = some n) : x.stack[f.base + k]? = some (vars.getD n vNil) ∧ n < vars.length :=
  ⟨h.r.sv _ _ n x (T.slot hc hk) T.hx, h.r.sl _ _ n (T.slot hc hk)⟩
/-- a slot is written. -/
theorem RZ.setL (h : RZ Ps V (mkA a y gs g vars) κ) (hc : a.cur < a.ths.length) (T : Tp V a.cur y gs g x f fs) {k n : Nat} (hk : g.slots[k]? = some n) (v : PV) :
    RZ Ps (V.setT a.cur { x with stack := x.stack.set (f.base + k) v }) (mkA a y gs g (vars.set n v)) κ :=
  ⟨h.r.set (v := v) T.hx (T.slot hc hk) trivial, h.z, h.v.set (show SF x.frs from h.v.at T.hx), h.d.put (t := a.cur) (y' := { y with frs := g :: gs }) rfl (by rw [mk_sets]; rfl) (Nat.le_refl _) (Nat.le_refl _) (fun _ _ => by
    show DF _ _ x.frs _
    rw [T.hf]
    exact (h.df' hc T).set T.fg (n := n) (.inl ⟨Nat.le_add_right _ _, by rw [Nat.add_sub_cancel_left]; exact hk⟩)) h.d.c⟩
/-- an upvalue of the top frame. -/
theorem RZ.up (h : RZ Ps V a κ) {c p u : Nat} {ids : List Nat} (hk : a.clos[c]? = some (p, ids)) (hu : u < ids.length) : ∃ cs k z, V.clos[c]? = some (p, cs) ∧ cs.length = ids.length ∧ cs[u]? = some k ∧ V.cells[k]? = some z ∧ κ.getD k 0 = ids.getD u 0 ∧
    ((∃ t x, z.th = some t ∧ V.ths[t]? = some x ∧ SlotAt V.ths a.ths t z.pl (ids.getD u 0) ∧ x.stack[z.pl]? = some (a.var (ids.getD u 0))) ∨ (z.th = none ∧ z.v = a.var (ids.getD u 0))) := by
  have hl : c < V.clos.length := by rw [h.r.clen]; exact (List.getElem?_eq_some_iff.1 hk).1
  have hcl : V.clos[c]? = some (V.clos[c].1, V.clos[c].2) := List.getElem?_eq_getElem hl
  obtain ⟨q1, q2⟩ := h.r.clo _ _ _ hcl
  generalize V.clos[c] = z0 at *
  obtain ⟨p0, cs⟩ := z0
  rw [hk] at q1
  injection q1 with q1
  injection q1 with e1 e2
  subst e1
  have hlen : cs.length = ids.length := by rw [e2]; simp
  have hm : cs[u]? = some cs[u] := List.getElem?_eq_getElem (by omega)
  have hlt := q2 _ (List.getElem_mem (show u < cs.length by omega))
  have hz : V.cells[cs[u]]? = some (V.cells[cs[u]]) := List.getElem?_eq_getElem hlt
  have hκ : κ.getD cs[u] 0 = ids.getD u 0 := by
    have e3 : ids.getD u 0 = (cs.map fun k => κ.getD k 0).getD u 0 := by rw [e2]
    rw [e3, List.getD_eq_getElem?_getD (l := cs.map _), List.getElem?_map, hm]; rfl
  refine ⟨cs, cs[u], V.cells[cs[u]], hcl, hlen, hm, hz, hκ, ?_⟩
  have hce := h.r.ce _ _ hz
  rw [hκ] at hce
  rcases hth : (V.cells[cs[u]]).th with _ | t <;> rw [hth] at hce
  · exact .inr ⟨rfl, hce.1⟩
  · obtain ⟨x, y1, g1, g2, g3⟩ := hce.2
    exact .inl ⟨t, x, rfl, g1, hce.2, h.r.sv t _ _ x hce.2 g1⟩
theorem RZ.setU (h : RZ Ps V a κ) {t i n : Nat} {x : VTh} (hx : V.ths[t]? = some x) (hS : SlotAt V.ths a.ths t i n) (v : PV) : RZ Ps (V.setT t { x with stack := x.stack.set i v }) (aset n v a) κ :=
  ⟨h.r.set hx hS trivial, h.z, h.v.set (show SF x.frs from h.v.at hx), by
    obtain ⟨x1, y1, g1, g2, g3⟩ := hS
    rw [hx] at g1
    injection g1 with g1
    subst g1
    refine h.d.put (t := t) (y' := y1) rfl ?_ (Nat.le_refl _) (Nat.le_refl _) (fun _ _ => (h.d.f t x y1 hx g2).set (h.r.th t x y1 hx g2).2.2 g3) h.d.c
    obtain ⟨hl, he⟩ := List.getElem?_eq_some_iff.1 g2
    show a.ths = _
    rw [← he, List.set_getElem_self]⟩
theorem RZ.setC (h : RZ Ps V a κ) {c n : Nat} {z : VCell} (hz : V.cells[c]? = some z) (hn : z.th = none) (hκ : κ.getD c 0 = n) (v : PV) : RZ Ps { V with cells := V.cells.set c { z with v := v } } (aset n v a) κ := by
  subst hκ
  refine ⟨h.r.setC hz hn (fun _ _ => trivial), h.z, h.v, h.d.congr (fun k x' hx => ⟨x', hx, rfl, rfl⟩) rfl (Nat.le_refl _) (Nat.le_refl _) fun q hq => ?_⟩
  rcases List.mem_or_eq_of_mem_set hq with hq | rfl
  · exact h.d.c q hq
  · have := h.d.c z (List.mem_of_getElem? hz)
    exact ⟨this.1, fun e => absurd hn e⟩
/-- the top frame goes; two results are pushed. -/
theorem RZ.pop2 (h : RZ Ps V (mkA a y gs g vars) κ) (hc : a.cur < a.ths.length) (T : Tp V a.cur y gs g x f fs) (hgs : gs ≠ []) (u w : PV) :
    RZ Ps ((closeV V a.cur f.base).setT a.cur { x with opn := (closeL x.stack f.base x.opn V.cells).2, stack := x.stack.take f.ret ++ [u, w], frs := fs }) { a with ths := a.ths.set a.cur { y with frs := pu2 u w gs }, vars := vars } κ := by
  have hz := h.z _ (List.mem_of_getElem? (mk_at hc))
  have hrl := T.rt
  have hln := T.ln
  refine ⟨h.r.pop2 T.hx (mk_at hc) T.fr hgs (by omega) T.rt (fun i n => ?_) rfl rfl (by rw [mk_sets]), h.z.set (t := a.cur) (y' := { y with frs := pu2 u w gs }) ?_ rfl (by rw [mk_sets]), (h.v.close _ _).set ?_, h.d.put (t := a.cur) (y' := { y with frs := pu2 u w gs }) close_ths (by rw [mk_sets]) (Nat.le_refl _) (Nat.le_refl _) (fun _ _ => DF.pu2 ((h.df' hc T).2.2.low T.fr fun i hi => (by rw [List.getElem?_append_left (by rw [List.length_take]; omega), List.getElem?_take, if_pos hi]))) (h.d.closeC _ _)⟩
  · rw [T.hf]
    constructor
    · exact fun q => ⟨.inr q, by have := Sl.lt T.fr q; omega⟩
    · rintro ⟨q | q, q2⟩
      · have := q.1; omega
      · exact q
  · have h2 : ∀ q ∈ gs, FZ Ps a.clos q := fun q hq => hz.2 q (List.mem_cons_of_mem _ hq)
    have h1 : gs.length + 1 ≤ 8 := hz.1
    rcases hg : gs with _ | ⟨q0, r0⟩
    · exact absurd hg hgs
    · rw [hg] at h1 h2
      refine ⟨by show r0.length + 1 ≤ 8; simp at h1; omega, fun q hq => ?_⟩
      rcases List.mem_cons.1 hq with rfl | hq
      · exact h2 q0 List.mem_cons_self
      · exact h2 q (List.mem_cons_of_mem _ hq)
  · have := h.v.at T.hx
    rw [T.hf] at this
    exact this.2
/-- the thread at hand ends. -/
theorem RZ.kill (h : RZ Ps V a κ) {t : Nat} {y : ATh} (hx : V.ths[t]? = some x) (hy : a.ths[t]? = some y) {b : AS} (hb1 : b.clos = a.clos) (hb2 : b.vars = a.vars) (hb3 : b.ths = a.ths.set t { y with frs := [], st := 5 }) (hb4 : b.tabs = a.tabs := by rfl) :
    RZ Ps ((closeV V t 0).setT t { x with opn := (closeL x.stack 0 x.opn V.cells).2, stack := [], frs := [], st := 5 }) b κ :=
  ⟨h.r.kill hx hy hb1 hb2 hb3, h.z.set ⟨Nat.zero_le _, fun q hq => by cases hq⟩ hb1 hb3, (h.v.close _ _).set trivial, h.d.put (t := t) (y' := { y with frs := [], st := 5 }) close_ths hb3 (by rw [hb1]; exact Nat.le_refl _) (by rw [hb4]; exact Nat.le_refl _) (fun _ _ => trivial) (h.d.closeC _ _)⟩
/-- an error comes to a protected frame. -/
theorem SF.unw : ∀ {fs : List VFr} {f : VFr} {fr : List VFr}, SF fs → vunw fs = some (f, fr) → SF fr
  | [], f, fr, h, e => by cases e
  | q :: r, f, fr, h, e => by
    unfold vunw at e
    split at e
    · injection e with e; injection e with e1 e2; subst e2; exact h.2
    · exact SF.unw h.2 e
theorem unwL_sub : ∀ {gs r : List AFr}, unwL gs = some r → r.length < gs.length ∧ ∀ q ∈ r, q ∈ gs
  | [], r, e => by cases e
  | g :: gs, r, e => by
    unfold unwL at e
    split at e
    · injection e with e; subst e; exact ⟨by simp, fun q hq => List.mem_cons_of_mem _ hq⟩
    · obtain ⟨h1, h2⟩ := unwL_sub e
      exact ⟨by simp; omega, fun q hq => List.mem_cons_of_mem _ (h2 q hq)⟩
theorem TZ.pu2 {cl : List (Nat × List Nat)} {y : ATh} {r : List AFr} (h : r.length ≤ 8 ∧ ∀ f ∈ r, FZ Ps cl f) (u w : PV) : TZ Ps cl { y with frs := pu2 u w r } := by
  rcases r with _ | ⟨q0, r0⟩
  · exact ⟨Nat.zero_le _, fun q hq => by cases hq⟩
  · refine ⟨h.1, fun q hq => ?_⟩
    rcases List.mem_cons.1 hq with rfl | hq
    · exact h.2 q0 List.mem_cons_self
    · exact h.2 q (List.mem_cons_of_mem _ hq)
theorem RZ.unw (h : RZ Ps V a κ) {t : Nat} {y : ATh} {f : VFr} {fr : List VFr} (hx : V.ths[t]? = some x) (hy : a.ths[t]? = some y) (hv : vunw x.frs = some (f, fr)) (u w : PV) {b : AS} (hb1 : b.clos = a.clos) (hb2 : b.vars = a.vars)
    (hb3 : ∀ r, unwL y.frs = some r → b.ths = a.ths.set t { y with frs := pu2 u w r }) (hb4 : b.tabs = a.tabs := by rfl) :
    RZ Ps ((closeV V t f.base).setT t { x with opn := (closeL x.stack f.base x.opn V.cells).2, stack := x.stack.take f.ret ++ [u, w], frs := fr }) b κ ∧ f.ret ≤ f.base ∧ f.base ≤ x.stack.length := by
  have hT := h.r.th _ _ _ hx hy
  rcases unw_rel hT.2.2 with ⟨q1, q2⟩ | ⟨f', fr', r, q1, q2, q3, q4, q5, q6, q7⟩
  · rw [q1] at hv; cases hv
  · rw [q1] at hv
    injection hv with hv
    injection hv with e1 e2
    subst e1; subst e2
    have hb3 := hb3 r q2
    have hz := h.z _ (List.mem_of_getElem? hy)
    obtain ⟨s1, s2⟩ := unwL_sub q2
    refine ⟨⟨h.r.pop2 hx hy q3 q4 (by omega) q5 q7 hb1 hb2 hb3, h.z.set (TZ.pu2 ⟨by have := hz.1; omega, fun q hq => hz.2 q (s2 q hq)⟩ u w) hb1 hb3, (h.v.close _ _).set ((h.v.at hx).unw q1), h.d.put (t := t) (y' := { y with frs := pu2 u w r }) close_ths hb3 (by rw [hb1]; exact Nat.le_refl _) (by rw [hb4]; exact Nat.le_refl _) (fun _ _ => DF.pu2 (((h.d.f t x y hx hy).unw hT.2.2 q1 q2).low q3 fun i hi => (by rw [List.getElem?_append_left (by rw [List.length_take]; omega), List.getElem?_take, if_pos hi]))) (h.d.closeC _ _)⟩, q5, q6⟩
theorem RZ.unwN (h : RZ Ps V a κ) {t : Nat} {y : ATh} (hx : V.ths[t]? = some x) (hy : a.ths[t]? = some y) : (vunw x.frs = none ↔ unwL y.frs = none) := by
  rcases unw_rel (h.r.th _ _ _ hx hy).2.2 with ⟨q1, q2⟩ | ⟨f', fr', r, q1, q2, q3, q4, q5, q6, q7⟩
  · rw [q1, q2]; exact ⟨fun _ => rfl, fun _ => rfl⟩
  · rw [q1, q2]; exact ⟨(fun e => by cases e), (fun e => by cases e)⟩
/-- slots of the top frame are closed. -/
theorem RZ.acl (h : RZ Ps V (mkA a y gs g vars) κ) (hc : a.cur < a.ths.length) (T : Tp V a.cur y gs g x f fs) {z : Nat} (hz : z ≤ g.slots.length) (pc : Nat) :
    RZ Ps ((closeV V a.cur (f.base + z)).setT a.cur { x with opn := (closeL x.stack (f.base + z) x.opn V.cells).2, frs := { f with pc := pc } :: fs })
      (mkA a y gs { g with slots := g.slots.take z ++ (List.range (g.slots.length - z)).map (vars.length + ·), pc := pc } (vars ++ (g.slots.drop z).map fun s => vars.getD s vNil)) κ := by
  have hq := h.z _ (List.mem_of_getElem? (mk_at hc))
  refine ⟨h.r.acl (pc := pc) T.hx (mk_at hc) T.hf rfl hz rfl rfl (by rw [mk_sets]; rfl), h.z.set (t := a.cur) (y' := { y with frs := { g with slots := g.slots.take z ++ (List.range (g.slots.length - z)).map (vars.length + ·), pc := pc } :: gs }) ⟨hq.1, fun q hq2 => ?_⟩ rfl (by rw [mk_sets]; rfl), (h.v.close _ _).set ⟨T.bb, ?_⟩, h.d.put (t := a.cur) (y' := { y with frs := { g with slots := g.slots.take z ++ (List.range (g.slots.length - z)).map (vars.length + ·), pc := pc } :: gs }) close_ths (by rw [mk_sets]; rfl) (Nat.le_refl _) (Nat.le_refl _) (fun _ _ => (h.df' hc T).hd rfl rfl) (h.d.closeC _ _)⟩
  · rcases List.mem_cons.1 hq2 with rfl | hq2
    · obtain ⟨p, ids, k1, k2⟩ := hq.2 g List.mem_cons_self
      refine ⟨p, ids, k1, ?_⟩
      rw [← k2]
      show (g.slots.take z ++ (List.range (g.slots.length - z)).map (vars.length + ·)).length = _
      simp; omega
    · exact hq.2 q (List.mem_cons_of_mem _ hq2)
  · have := h.v.at T.hx
    rw [T.hf] at this
    exact this.2
/-- a frame is built upon the top frame, whose operands zs and fn have gone. -/
theorem FrG.dropO {stk : List PV} {hi : Nat} {l zs : List PV} {fn : PV} (h : FrG stk hi (f :: fs) (g :: gs)) (ho : g.ops = zs.reverse ++ fn :: l) : FrG stk (f.base + g.slots.length + l.length) (f :: fs) ({ g with ops := l } :: gs) := by
  obtain ⟨h1, h2, h3, h4, h5⟩ := h
  refine ⟨h1, rfl, fun i v hv => h3 i v ?_, h4, h5⟩
  have hv : l.reverse[i]? = some v := hv
  rw [ho]
  have hl := (List.getElem?_eq_some_iff.1 hv).1
  simp only [List.reverse_append, List.reverse_cons, List.append_assoc]
  rw [List.getElem?_append_left hl]
  exact hv
theorem RZ.enter (h : RZ Ps V (mkA a y gs g vars) κ) (hc : a.cur < a.ths.length) (T : Tp V a.cur y gs g x f fs) {c p : Nat} {ids : List Nat} {l zs vs : List PV} {fn : PV} {prot : Bool} (ho : g.ops = zs.reverse ++ fn :: l) (hcl : a.clos[c]? = some (p, ids)) (hvs : vs.length = (pr Ps p).ns) (hd : gs.length + 1 < 8) (hb : x.stack.length ≤ 300 * (fs.length + 1)) (hzl : zs.length ≤ 3) (ho8 : g.ops.length ≤ 128) (hov : ∀ v ∈ g.ops, VV a.clos.length a.ths.length a.tabs.length v) :
    RZ Ps (V.setT a.cur { x with stack := x.stack ++ vs, frs := ⟨c, 0, x.stack.length, f.base + g.slots.length + l.length, prot⟩ :: f :: fs })
      (mkA a y ({ g with ops := l } :: gs) ⟨c, 0, (List.range vs.length).map (vars.length + ·), [], prot⟩ (vars ++ vs)) κ := by
  have hz := h.z _ (List.mem_of_getElem? (mk_at hc))
  have hln := T.ln
  have hol : g.ops.length = zs.length + (l.length + 1) := by rw [ho]; simp
  have hsf := h.v.at T.hx
  rw [T.hf] at hsf
  have hR := h.r.enter (s := y.st) (c := c) (prot := prot) (vs := vs) (b := mkA a y ({ g with ops := l } :: gs) ⟨c, 0, (List.range vs.length).map (vars.length + ·), [], prot⟩ (vars ++ vs)) T.hx (mk_at hc) (T.fg.dropO ho) (by omega) (fun i n => by rw [T.hf]; exact Iff.rfl) rfl rfl (by rw [mk_sets]; rfl)
  rw [← T.xs] at hR
  refine ⟨hR, h.z.set (t := a.cur) (y' := { y with frs := ⟨c, 0, (List.range vs.length).map (vars.length + ·), [], prot⟩ :: { g with ops := l } :: gs }) ⟨by show gs.length + 1 + 1 ≤ 8; omega, fun q hq => ?_⟩ rfl (by rw [mk_sets]; rfl), h.v.set ⟨hb, hsf⟩, h.d.put (t := a.cur) (y' := { y with frs := ⟨c, 0, (List.range vs.length).map (vars.length + ·), [], prot⟩ :: { g with ops := l } :: gs }) rfl (by rw [mk_sets]; rfl) (Nat.le_refl _) (Nat.le_refl _) (fun _ _ => ⟨⟨?_, ?_, ?_⟩, fun i v h1 h2 h3 => ?_, DF.hd ((h.df' hc T).lowH T.fr T.rt fun i hi => (by rw [List.getElem?_append_left (by omega)])) rfl rfl⟩) h.d.c⟩
  rotate_left
  · show f.base + g.slots.length + l.length + 1 ≤ x.stack.length; omega
  · show x.stack.length ≤ f.base + g.slots.length + l.length + 4; omega
  · show x.stack.length ≤ f.base + g.slots.length + 128; omega
  · have h1 : f.base + g.slots.length + l.length ≤ i := h1
    have h2 : i < x.stack.length := h2
    have h3 : (x.stack ++ vs)[i]? = some v := h3
    rw [List.getElem?_append_left h2, T.st, List.getElem?_append_right (by rw [List.length_take]; omega)] at h3
    have := hov v (List.mem_reverse.1 (List.mem_of_getElem? h3))
    have e : (mkA a y gs g vars).ths.length = a.ths.length := by show (a.ths.set _ _).length = _; rw [List.length_set]
    rw [e]
    exact this
  rcases List.mem_cons.1 hq with rfl | hq
  · exact ⟨p, ids, hcl, by show ((List.range vs.length).map _).length = _; simp; exact hvs⟩
  · rcases List.mem_cons.1 hq with rfl | hq
    · exact hz.2 g List.mem_cons_self
    · exact hz.2 q (List.mem_cons_of_mem _ hq)
/-- the first frame of a thread. -/
theorem RZ.enter0 (h : RZ Ps V a κ) (hx : V.ths[a.cur]? = some x) (hy : a.ths[a.cur]? = some y) (hyf : y.frs = []) {c p : Nat} {ids : List Nat} {vs : List PV} (hcl : a.clos[c]? = some (p, ids)) (hvs : vs.length = (pr Ps p).ns) :
    x.frs = [] ∧ x.stack = [] ∧ RZ Ps (V.setT a.cur { x with stack := x.stack ++ vs, frs := ⟨c, 0, x.stack.length, 0, false⟩ :: x.frs }) (mkA a y [] ⟨c, 0, (List.range vs.length).map (a.vars.length + ·), [], false⟩ (a.vars ++ vs)) κ := by
  have hT := h.r.th _ _ _ hx hy
  have hF := hT.2.2
  rw [hyf] at hF
  have hxf : x.frs = [] := by
    have := hF.lenE
    simpa using this
  have hF0 := hF
  rw [hxf] at hF0
  have hst : x.stack = [] := List.length_eq_zero_iff.1 hF0
  refine ⟨hxf, hst, ?_⟩
  have hR := h.r.enter (s := y.st) (c := c) (ret := 0) (prot := false) (vs := vs) (fs' := x.frs) (gs' := []) (b := mkA a y [] ⟨c, 0, (List.range vs.length).map (a.vars.length + ·), [], false⟩ (a.vars ++ vs)) hx hy (by rw [hxf]; rfl) (Nat.zero_le _) (fun i n => by rw [hyf]) rfl rfl rfl
  rw [← hT.1] at hR
  refine ⟨hR, h.z.set (t := a.cur) (y' := { y with frs := [⟨c, 0, (List.range vs.length).map (a.vars.length + ·), [], false⟩] }) ⟨by show 1 ≤ 8; decide, fun q hq => ?_⟩ rfl rfl, h.v.set ⟨?_, ?_⟩, h.d.put (t := a.cur) (y' := { y with frs := [⟨c, 0, (List.range vs.length).map (a.vars.length + ·), [], false⟩] }) rfl rfl (Nat.le_refl _) (Nat.le_refl _) (fun _ _ => by
    show DF _ _ (_ :: x.frs) _
    rw [hxf]
    refine ⟨?_, fun i v h1 h2 h3 => ?_, trivial⟩
    · show x.stack.length = 0; rw [hst]; rfl
    · have h2 : i < x.stack.length := h2; rw [hst] at h2; cases h2) h.d.c⟩
  · rw [List.mem_singleton.1 hq]
    exact ⟨p, ids, hcl, by show ((List.range vs.length).map _).length = _; simp; exact hvs⟩
  · show x.stack.length ≤ _
    rw [hst]; exact Nat.zero_le _
  · show SF x.frs
    rw [hxf]; exact trivial
theorem RZ.st (h : RZ Ps V a κ) {t n : Nat} {y : ATh} (hx : V.ths[t]? = some x) (hy : a.ths[t]? = some y) {b : AS} (hb1 : b.clos = a.clos) (hb2 : b.vars = a.vars) (hb3 : b.ths = a.ths.set t { y with st := n }) (hb4 : b.tabs = a.tabs := by rfl) : RZ Ps (V.setT t { x with st := n }) b κ :=
  ⟨h.r.st hx hy hb1 hb2 hb3, h.z.set (y' := { y with st := n }) (show TZ Ps a.clos y from h.z _ (List.mem_of_getElem? hy)) hb1 hb3, h.v.set (show SF x.frs from h.v.at hx), h.d.put (t := t) (y' := { y with st := n }) rfl hb3 (by rw [hb1]; exact Nat.le_refl _) (by rw [hb4]; exact Nat.le_refl _) (fun _ _ => h.d.f t x y hx hy) h.d.c⟩
theorem RZ.spawn (h : RZ Ps V a κ) (n : Nat) : RZ Ps { V with ths := V.ths ++ [⟨1, n, [], [], []⟩] } { a with ths := a.ths ++ [⟨1, n, []⟩] } κ := by
  refine ⟨h.r.spawn n, fun q hq => ?_, fun q hq => ?_, ⟨fun k x y hx hy => ?_, h.d.c⟩⟩
  · rcases List.mem_append.1 hq with hq | hq
    · exact h.z q hq
    · rw [List.mem_singleton.1 hq]; exact ⟨Nat.zero_le _, fun q hq => by cases hq⟩
  · rcases List.mem_append.1 hq with hq | hq
    · exact h.v q hq
    · rw [List.mem_singleton.1 hq]; exact trivial
  · have hx : (V.ths ++ [⟨1, n, [], [], []⟩])[k]? = some x := hx
    have hy : (a.ths ++ [⟨1, n, []⟩])[k]? = some y := hy
    have hl := h.r.tlen
    by_cases hk : k < V.ths.length
    · rw [List.getElem?_append_left hk] at hx
      rw [List.getElem?_append_left (by omega)] at hy
      exact DF.mono (P := VV a.clos.length a.ths.length a.tabs.length) (fun v q => VV.mono q (Nat.le_refl _) (by show _ ≤ (a.ths ++ [_]).length; rw [List.length_append]; omega) (Nat.le_refl _)) (h.d.f k x y hx hy)
    · rw [List.getElem?_append_right (by omega)] at hx
      rcases he : k - V.ths.length with _ | j
      · rw [he] at hx
        simp at hx
        subst hx
        exact trivial
      · rw [he] at hx; simp at hx
/-- nothing that the relation speaks of turns. -/
theorem RZ.same (h : RZ Ps V a κ) {b : AS} (hb1 : b.clos = a.clos) (hb2 : b.vars = a.vars) (hb3 : b.ths = a.ths) (hb4 : a.tabs.length ≤ b.tabs.length := by first | exact Nat.le_refl _ | assumption) : RZ Ps V b κ := by
  have hv : ∀ n, b.var n = a.var n := fun n => by unfold AS.var; rw [hb2]
  have r := h.r
  refine ⟨⟨by rw [hb1]; exact r.clen, by rw [hb1]; exact r.clo, r.klen, r.knd, by rw [hb2]; exact r.klt, by rw [hb3]; exact r.tlen, by rw [hb3]; exact r.th, fun t i n x h1 h2 => ?_, by rw [hb3]; exact r.sj, by rw [hb2, hb3]; exact r.sl, fun c x hx => ?_, r.od, r.om⟩, h.z.same hb1 hb3, h.v, h.d.congr (fun k x' hx => ⟨x', hx, rfl, rfl⟩) hb3 (by rw [hb1]; exact Nat.le_refl _) hb4 h.d.c⟩
  · rw [hb3] at h1; rw [hv]; exact r.sv t i n x h1 h2
  · have := r.ce c x hx
    rcases hth : x.th with _ | k <;> rw [hth] at this
    · rw [hb3, hv]; exact this
    · rw [hb3]; exact this
/-- a new closure of function x. -/
theorem RZ.newC (h : RZ Ps V (mkA a y gs g vars) κ) (hc : a.cur < a.ths.length) (T : Tp V a.cur y gs g x f fs) {j p : Nat} {ids : List Nat} (hk : a.clos[g.clo]? = some (p, ids)) {ds : List (Nat × Nat)} (hd : ∀ d ∈ ds, (d.1 = 1 ∧ d.2 < g.slots.length) ∨ (d.1 = 0 ∧ d.2 < ids.length)) :
    ∃ cs κ', V.clos[g.clo]? = some (p, cs) ∧ cs.length = ids.length ∧ RZ Ps { (capAll a.cur f.base cs ds V).2 with clos := (capAll a.cur f.base cs ds V).2.clos ++ [(j, (capAll a.cur f.base cs ds V).1)] } { mkA a y gs g vars with clos := a.clos ++ [(j, aups (mkA a y gs g vars) ds)] } κ' ∧ (capAll a.cur f.base cs ds V).2.clos = V.clos := by
  have hl : g.clo < V.clos.length := by rw [h.r.clen]; exact (List.getElem?_eq_some_iff.1 hk).1
  have hcl : V.clos[g.clo]? = some (V.clos[g.clo].1, V.clos[g.clo].2) := List.getElem?_eq_getElem hl
  obtain ⟨q1, q2⟩ := h.r.clo _ _ _ hcl
  generalize V.clos[g.clo] = z0 at *
  obtain ⟨p0, cs⟩ := z0
  have hk' : (mkA a y gs g vars).clos[g.clo]? = some (p, ids) := hk
  rw [hk'] at q1
  injection q1 with q1
  injection q1 with e1 e2
  subst e1
  have hlen : cs.length = ids.length := by rw [e2]; simp
  obtain ⟨κ', k1, k2, k3, k4, k5, k6⟩ := R.capAll (t := a.cur) (base := f.base) (sl := g.slots) (ups := cs) (ids := ids) (ds := ds) h.r (fun d hd' => by
    rcases hd d hd' with ⟨r1, r2⟩ | ⟨r1, r2⟩
    · exact .inl ⟨r1, g.slots[d.2], List.getElem?_eq_getElem r2, T.slot hc (List.getElem?_eq_getElem r2)⟩
    · exact .inr ⟨r1, by omega⟩) e2 q2
  refine ⟨cs, κ', hcl, hlen, ⟨?_, fun u hu => ?_, VZ.capAll ds h.v, (VD.capAll ds h.d).congr (fun k x' hx => ⟨x', hx, rfl, rfl⟩) rfl (by show _ ≤ (a.clos ++ [_]).length; rw [List.length_append]; exact Nat.le_add_right _ _) (Nat.le_refl _) (VD.capAll ds h.d).c⟩, k5⟩
  · have := k2.newC (p := j) k3
    rw [k4] at this
    have e : ds.map (fun d => if d.1 = 1 then g.slots.getD d.2 0 else ids.getD d.2 0) = aups (mkA a y gs g vars) ds := by
      unfold aups
      refine List.map_congr_left fun d _ => ?_
      rw [mk_slot hc, mk_up hc hk]
    rw [e] at this
    exact this
  · have := h.z u hu
    exact ⟨this.1, fun q hq => (this.2 q hq).app⟩
end
end

end Go.Proofs.Qxb6500568aGreatDoor
