import Derived.Test.Qxb6500568aGreatDoorKm
import Derived.Test.Qxb6500568aGreatDoorOm
/- The stack machine, told as the plain one. -/
namespace Go.Proofs.Qxb6500568aGreatDoor
open Ieee
set_option linter.unusedVariables false
set_option linter.unusedSimpArgs false
set_option linter.unusedSectionVars false

def frc (f : VFr) : List Value := [i64c f.clo, i64c f.pc, i64c f.base, i64c f.ret, .bool f.prot]
theorem frc_len (f : VFr) : (frc f).length = 5 := rfl
theorem frc_one (f : VFr) : ∀ u ∈ frc f, u.oneCell' = true := by simp [frc, Value.oneCell', i64c]
def vcc (c : Nat × Nat × Nat) : List Value := [i64c c.1, i64c c.2.1, i64c c.2.2]
theorem vcc_len (c : Nat × Nat × Nat) : (vcc c).length = 3 := rfl
theorem vcc_one (c : Nat × Nat × Nat) : ∀ u ∈ vcc c, u.oneCell' = true := by simp [vcc, Value.oneCell', i64c]
def thV (o : Option Nat) : Value := match o with
  | some t => i64c t
  | none => .int .i64 (-1)
theorem thV_one (o : Option Nat) : (thV o).oneCell' = true := by cases o <;> rfl
def cec (c : VCell) : List Value := [thV c.th, i64c c.pl, i64c c.v.T, u64c c.v.N, S c.v.S]
theorem cec_len (c : VCell) : (cec c).length = 5 := rfl
theorem cec_one (c : VCell) : ∀ u ∈ cec c, u.oneCell' = true := by
  intro u hu
  unfold cec thV at hu
  cases h : c.th <;> rw [h] at hu <;> simp at hu <;> rcases hu with rfl | rfl | rfl | rfl | rfl <;> rfl
def vpr (r : FS × Nat × Nat × Nat) : List Value := vpc r.1 r.2.1 r.2.2.1 r.2.2.2
theorem vpr_len (r : FS × Nat × Nat × Nat) : (vpr r).length = 8 := rfl
/-- a window of a list. -/
def Win {α : Type} (l : List α) (a : Nat) (xs : List α) : Prop := a + xs.length ≤ l.length ∧ ∀ (i : Nat) x, xs[i]? = some x → l[a + i]? = some x
theorem Win.app {α : Type} {l xs : List α} {a : Nat} (h : Win l a xs) (r : List α) : Win (l ++ r) a xs :=
  ⟨by rw [List.length_append]; have := h.1; omega, fun i x hx => by rw [List.getElem?_append_left (List.getElem?_eq_some_iff.1 (h.2 i x hx)).1]; exact h.2 i x hx⟩
theorem Win.end {α : Type} (l xs : List α) : Win (l ++ xs) l.length xs :=
  ⟨by rw [List.length_append]; omega, fun i x hx => by rw [List.getElem?_append_right (by omega), Nat.add_sub_cancel_left]; exact hx⟩
/-- rows that lie side by side. -/
def tilT : Nat → Nat → Nat → Fns → List (FS × Nat × Nat × Nat)
  | _, _, _, [] => []
  | o, k, c, f :: r => (f, o, k, c) :: tilT (o + f.ups.length) (k + f.ks.length) (c + f.code.length) r
def fUps (F : Fns) : List (Nat × Nat) := (F.map fun f => f.ups).flatten
def fKs (F : Fns) : List PV := (F.map fun f => f.ks).flatten
def fCode (F : Fns) : List (Nat × Nat) := (F.map fun f => f.code).flatten
theorem tilT_app : ∀ (F : Fns) (o k c : Nat) (f : FS), tilT o k c (F ++ [f]) = tilT o k c F ++ [(f, o + (fUps F).length, k + (fKs F).length, c + (fCode F).length)]
  | [], o, k, c, f => rfl
  | g :: F, o, k, c, f => by
    show (g, o, k, c) :: tilT _ _ _ (F ++ [f]) = _
    rw [tilT_app F]
    simp only [fUps, fKs, fCode, List.map_cons, List.flatten_cons, List.length_append, Nat.add_assoc]
    rfl
def PTi (F : Fns) (rows : List (FS × Nat × Nat × Nat)) (D : List (Nat × Nat)) (K : List PV) (Cd : List (Nat × Nat)) : Prop := rows = tilT 0 0 0 F ∧ D = fUps F ∧ K = fKs F ∧ Cd = fCode F
theorem PTi.app {F : Fns} {rows : List (FS × Nat × Nat × Nat)} {D : List (Nat × Nat)} {K : List PV} {Cd : List (Nat × Nat)} (h : PTi F rows D K Cd) (f : FS) : PTi (F ++ [f]) (rows ++ [(f, D.length, K.length, Cd.length)]) (D ++ f.ups) (K ++ f.ks) (Cd ++ f.code) := by
  obtain ⟨rfl, rfl, rfl, rfl⟩ := h
  refine ⟨by rw [tilT_app]; simp, ?_, ?_, ?_⟩
  · simp [fUps]
  · simp [fKs]
  · simp [fCode]
/-- the functions' text: rows and three pools. -/
def PT (F : Fns) (A : Nat → Nat × List Value) : Prop := ∃ (rows : List (FS × Nat × Nat × Nat)) (D : List (Nat × Nat)) (K : List PV) (Cd : List (Nat × Nat)), A 2 = (rows.length, rws vpr rows) ∧ A 3 = (D.length, rws upc D) ∧ A 4 = (K.length, rws pvc K) ∧ A 5 = (Cd.length, rws inc Cd) ∧
  rows.map (fun r => r.1) = F ∧ (∀ r ∈ rows, Win D r.2.1 r.1.ups ∧ Win K r.2.2.1 r.1.ks ∧ Win Cd r.2.2.2 r.1.code) ∧ PTi F rows D K Cd
theorem PT.protos : ∀ (F G : Fns) (L : VL), PT G L.A → PT (G ++ F) (L.protos F).A
  | [], G, L, h => by rw [List.append_nil]; exact h
  | f :: F, G, L, h => by
    obtain ⟨rows, D, K, Cd, h2, h3, h4, h5, h6, h7, h8⟩ := h
    have := PT.protos F (G ++ [f]) (L.proto f) ⟨rows ++ [(f, D.length, K.length, Cd.length)], D ++ f.ups, K ++ f.ks, Cd ++ f.code, ?_, ?_, ?_, ?_, ?_, ?_, h8.app f⟩
    · rw [List.append_assoc] at this
      exact this
    · rw [VL.proto_2, h2, h3, h4, h5, rws_app, rws_one, List.length_append]; rfl
    · rw [VL.proto_3, h3, rws_app, List.length_append]
    · rw [VL.proto_4, h4, rws_app, List.length_append]
    · rw [VL.proto_5, h5, rws_app, List.length_append]
    · rw [List.map_append, h6]; rfl
    · intro r hr
      rcases List.mem_append.1 hr with hr | hr
      · exact ⟨(h7 r hr).1.app _, (h7 r hr).2.1.app _, (h7 r hr).2.2.app _⟩
      · rw [List.mem_singleton.1 hr]
        exact ⟨Win.end _ _, Win.end _ _, Win.end _ _⟩
/-- closures that lie side by side. -/
def clT : Nat → List (Nat × List Nat) → List (Nat × Nat × Nat)
  | _, [] => []
  | o, c :: r => (c.1, o, c.2.length) :: clT (o + c.2.length) r
def fCl (C : List (Nat × List Nat)) : List Nat := (C.map fun c => c.2).flatten
theorem clT_app : ∀ (C : List (Nat × List Nat)) (o : Nat) (c : Nat × List Nat), clT o (C ++ [c]) = clT o C ++ [(c.1, o + (fCl C).length, c.2.length)]
  | [], o, c => rfl
  | d :: C, o, c => by
    show (d.1, o, d.2.length) :: clT _ (C ++ [c]) = _
    rw [clT_app C]
    simp only [fCl, List.map_cons, List.flatten_cons, List.length_append, Nat.add_assoc]
    rfl
/-- r: what a closure under way has laid. -/
def ClT (cl : List (Nat × Nat × Nat)) (ux : List Nat) (C : List (Nat × List Nat)) (e : Nat) : Prop := cl = clT 0 C ∧ ∃ r, ux = fCl C ++ r ∧ r.length ≤ e
/-- closures as windows of the list of cells' numbers. -/
def ClR (cl : List (Nat × Nat × Nat)) (ux : List Nat) (C : List (Nat × List Nat)) (e : Nat) : Prop := cl.length = C.length ∧ (∀ (c : Nat) p cs, C[c]? = some (p, cs) → ∃ up, cl[c]? = some (p, up, cs.length) ∧ Win ux up cs) ∧ ClT cl ux C e
theorem ClR.le {cl : List (Nat × Nat × Nat)} {ux : List Nat} {C : List (Nat × List Nat)} {e e' : Nat} (h : ClR cl ux C e) (he : e ≤ e') : ClR cl ux C e' := by
  obtain ⟨h1, h2, h3, r, h4, h5⟩ := h
  exact ⟨h1, h2, h3, r, h4, by omega⟩
/-- a thread's lists. -/
def ThL (L : VL) (j : Nat) (x : VTh) : Prop := L.T j 2 = (x.stack.length, rws pvc x.stack) ∧ L.T j 3 = (x.frs.length, rws frc x.frs.reverse) ∧ L.T j 4 = (x.opn.length, x.opn.reverse.map i64c) ∧ L.h j = (i64c x.st, i64c x.fn)
/-- the lists of a machine that runs the functions F. e: cells and places that a closure under way has taken. -/
structure VSL (F : Fns) (L : VL) (V : VS) (fuel : Nat) (out : Str) (sk : Nat) : Prop where
  p : PT F L.A
  pb : ∀ i, 2 ≤ i → i ≤ 5 → (L.A i).1 ≤ 100000
  c : ∃ cl ux, L.A 6 = (cl.length, rws vcc cl) ∧ L.A 7 = (ux.length, ux.map i64c) ∧ ClR cl ux V.clos sk ∧ ux.length ≤ 300 * V.clos.length + sk
  e : L.A 8 = (V.cells.length, rws cec V.cells)
  eb : V.cells.length ≤ 300 * V.clos.length + sk
  o : L.A 11 = (out.length, out.map u8c)
  t : ∀ (j : Nat) x, V.ths[j]? = some x → ThL L j x
  sb : ∀ (j : Nat) x, V.ths[j]? = some x → x.stack.length ≤ 100000
  n : L.nt = V.ths.length
  f : L.fu = i64c fuel
  z : L.en = i64c 0
  ec : V.cells.length ≤ (fCl V.clos).length + sk
/-- where the machine lies, and what it runs. -/
structure VC where
  E : VE
  nb : Nat
  xb : Nat
  F : Fns
  pg : Nat
  pc : Nat
structure CO (C : VC) : Prop where
  tp : C.E.tp = ptr C.xb
  np : C.E.np = ptr C.nb
  fok : ∀ k, FOK (fsAt C.F k)
  fl : C.F.length ≤ 13
  sz : (img C.F).length ≤ 32768
/-- the number layer's buffer. -/
def NmV (C : VC) (w : World) (ow : Nat → Nat) : Prop := ∃ bb l, Blk w.heap C.nb [.slice (some ⟨bb, 0, none⟩) 24 24] 72 ∧ Blk w.heap bb l 5 ∧ l.length = 24 ∧ ow C.nb = 412 ∧ ow bb = 413
theorem NmV.far {C : VC} {w w' : World} {ow ow' : Nat → Nat} {G : Nat → Prop} (h : NmV C w ow) (f : Fram G w w') (hn : ∀ b, vmT (ow b) → b < w.heap.size → ¬ G b) (hE : Xt w ow ow') : NmV C w' ow' := by
  obtain ⟨bb, l, h1, h2, h3, h4, h5⟩ := h
  exact ⟨bb, l, h1.fram f (hn _ (by rw [h4]; unfold vmT; omega) h1.lt), h2.fram f (hn _ (by rw [h5]; unfold vmT; omega) h2.lt), h3, by rw [hE _ h1.lt]; exact h4, by rw [hE _ h2.lt]; exact h5⟩
/-- the machine in memory. -/
structure VW (C : VC) (w : World) (ow : Nat → Nat) (V : VS) (e fuel : Nat) (out : Str) (T : List Tb) (Vv : Nat → Value) (U : Nat → Nat → Value) : Prop where
  ex : ∃ L, VOp C.E w ow L Vv U ∧ VSL C.F L V fuel out e
  tb : RTab w ow C.nb C.xb T
  nm : NmV C w ow
  hp : Vv 2 = .slice (some ⟨C.pg, 0, none⟩) C.F.length C.pc
  fu : fuel < 9223372036854775808
  co : CO C
  cb : V.clos.length ≤ 24
  eb : e ≤ 300
def tptr (C : VC) (t : Nat) : Value := .pointer (some ⟨C.E.tb, t * 5, none⟩)
def fpt (fg n : Nat) : Value := .pointer (some ⟨fg, n * 5, none⟩)
def ppt (C : VC) (j : Nat) : Value := .pointer (some ⟨C.pg, j * 8, none⟩)

section
variable {F : Fns} {L L' : VL} {V : VS} {fuel e t : Nat} {out : Str} {x x' : VTh}
theorem VSL.thr (h : VSL F L V fuel out e) (hA : L'.A = L.A) (hT : ∀ k, k ≠ t → L'.T k = L.T k ∧ L'.h k = L.h k) (hn : L'.nt = L.nt) (hf : L'.fu = L.fu) (he : L'.en = L.en) (hx : V.ths[t]? = some x) (hx' : ThL L' t x') (hs : x'.stack.length ≤ 100000) : VSL F L' (V.setT t x') fuel out e := by
  have ht := (List.getElem?_eq_some_iff.1 hx).1
  refine ⟨by rw [hA]; exact h.p, by rw [hA]; exact h.pb, by rw [hA]; exact h.c, by rw [hA]; exact h.e, h.eb, by rw [hA]; exact h.o, fun j z hz => ?_, fun j z hz => ?_, by rw [hn]; exact h.n.trans (by show _ = (V.ths.set t x').length; rw [List.length_set]), by rw [hf]; exact h.f, by rw [he]; exact h.z, h.ec⟩
  · have hz : (V.ths.set t x')[j]? = some z := hz
    rw [List.getElem?_set] at hz
    by_cases hj : t = j
    · subst hj
      rw [if_pos rfl, if_pos ht] at hz
      injection hz with hz
      subst hz
      exact hx'
    · rw [if_neg hj] at hz
      have := h.t j z hz
      unfold ThL at this ⊢
      obtain ⟨e1, e2⟩ := hT j (fun q => hj q.symm)
      rw [e1, e2]
      exact this
  · have hz : (V.ths.set t x')[j]? = some z := hz
    rw [List.getElem?_set] at hz
    by_cases hj : t = j
    · subst hj
      rw [if_pos rfl, if_pos ht] at hz
      injection hz with hz
      subst hz
      exact hs
    · rw [if_neg hj] at hz
      exact h.sb j z hz
theorem VSL.stk (h : VSL F L V fuel out e) (hx : V.ths[t]? = some x) (s' : List PV) (hl : s'.length ≤ 100000) : VSL F { L with T := up1 L.T t (up1 (L.T t) 2 (s'.length, rws pvc s')) } (V.setT t { x with stack := s' }) fuel out e := by
  refine h.thr rfl (fun k hk => ⟨up1_ne hk, rfl⟩) rfl rfl rfl hx ?_ hl
  obtain ⟨h2, h3, h4, h5⟩ := h.t t x hx
  refine ⟨?_, ?_, ?_, h5⟩
  · show up1 L.T t _ t 2 = _; rw [up1_self, up1_self]
  · show up1 L.T t _ t 3 = _; rw [up1_self, up1_ne (by decide)]; exact h3
  · show up1 L.T t _ t 4 = _; rw [up1_self, up1_ne (by decide)]; exact h4
theorem VSL.frs (h : VSL F L V fuel out e) (hx : V.ths[t]? = some x) (s' : List VFr) : VSL F { L with T := up1 L.T t (up1 (L.T t) 3 (s'.length, rws frc s'.reverse)) } (V.setT t { x with frs := s' }) fuel out e := by
  refine h.thr rfl (fun k hk => ⟨up1_ne hk, rfl⟩) rfl rfl rfl hx ?_ (h.sb t x hx)
  obtain ⟨h2, h3, h4, h5⟩ := h.t t x hx
  refine ⟨?_, ?_, ?_, h5⟩
  · show up1 L.T t _ t 2 = _; rw [up1_self, up1_ne (by decide)]; exact h2
  · show up1 L.T t _ t 3 = _; rw [up1_self, up1_self]
  · show up1 L.T t _ t 4 = _; rw [up1_self, up1_ne (by decide)]; exact h4
theorem VSL.opn (h : VSL F L V fuel out e) (hx : V.ths[t]? = some x) (s' : List Nat) : VSL F { L with T := up1 L.T t (up1 (L.T t) 4 (s'.length, s'.reverse.map i64c)) } (V.setT t { x with opn := s' }) fuel out e := by
  refine h.thr rfl (fun k hk => ⟨up1_ne hk, rfl⟩) rfl rfl rfl hx ?_ (h.sb t x hx)
  obtain ⟨h2, h3, h4, h5⟩ := h.t t x hx
  refine ⟨?_, ?_, ?_, h5⟩
  · show up1 L.T t _ t 2 = _; rw [up1_self, up1_ne (by decide)]; exact h2
  · show up1 L.T t _ t 3 = _; rw [up1_self, up1_ne (by decide)]; exact h3
  · show up1 L.T t _ t 4 = _; rw [up1_self, up1_self]
theorem VSL.st (h : VSL F L V fuel out e) (hx : V.ths[t]? = some x) (n : Nat) : VSL F { L with h := up1 L.h t (i64c n, i64c x.fn) } (V.setT t { x with st := n }) fuel out e := by
  refine h.thr rfl (fun k hk => ⟨rfl, up1_ne hk⟩) rfl rfl rfl hx ?_ (h.sb t x hx)
  obtain ⟨h2, h3, h4, h5⟩ := h.t t x hx
  refine ⟨h2, h3, h4, ?_⟩
  show up1 L.h t _ t = _; rw [up1_self]
theorem PT.up (h : PT F L.A) {i : Nat} {z : Nat × List Value} (hi : 6 ≤ i) : PT F (up1 L.A i z) := by
  obtain ⟨rows, D, K, Cd, h2, h3, h4, h5, h6, h7, h8⟩ := h
  exact ⟨rows, D, K, Cd, by rw [up1_ne (by omega)]; exact h2, by rw [up1_ne (by omega)]; exact h3, by rw [up1_ne (by omega)]; exact h4, by rw [up1_ne (by omega)]; exact h5, h6, h7, h8⟩
theorem VSL.cel (h : VSL F L V fuel out e) {e' : Nat} (cs : List VCell) (hb : cs.length ≤ 300 * V.clos.length + e') (he : e ≤ e') (hq : cs.length ≤ (fCl V.clos).length + e') : VSL F { L with A := up1 L.A 8 (cs.length, rws cec cs) } { V with cells := cs } fuel out e' := by
  obtain ⟨cl, ux, c1, c2, c3, c4⟩ := h.c
  have hne : ∀ i, i ≠ 8 → up1 L.A 8 (cs.length, rws cec cs) i = L.A i := fun i q => up1_ne q
  exact ⟨h.p.up (by decide), (fun i h1 h2 => by show (up1 L.A 8 (cs.length, rws cec cs) i).1 ≤ _; rw [hne i (by omega)]; exact h.pb i h1 h2), ⟨cl, ux, (hne 6 (by decide)).trans c1, (hne 7 (by decide)).trans c2, c3.le he, by show _ ≤ 300 * V.clos.length + e'; omega⟩, up1_self L.A 8 (cs.length, rws cec cs), hb, (hne 11 (by decide)).trans h.o, h.t, h.sb, h.n, h.f, h.z, hq⟩
theorem VSL.outT (h : VSL F L V fuel out e) (o' : Str) : VSL F { L with A := up1 L.A 11 (o'.length, o'.map u8c) } V fuel o' e := by
  obtain ⟨cl, ux, c1, c2, c3, c4⟩ := h.c
  have hne : ∀ i, i ≠ 11 → up1 L.A 11 (o'.length, o'.map u8c) i = L.A i := fun i q => up1_ne q
  exact ⟨h.p.up (by decide), (fun i h1 h2 => by show (up1 L.A 11 (o'.length, o'.map u8c) i).1 ≤ _; rw [hne i (by omega)]; exact h.pb i h1 h2), ⟨cl, ux, (hne 6 (by decide)).trans c1, (hne 7 (by decide)).trans c2, c3, c4⟩, (hne 8 (by decide)).trans h.e, h.eb, up1_self L.A 11 (o'.length, o'.map u8c), h.t, h.sb, h.n, h.f, h.z, h.ec⟩
theorem VSL.fuT (h : VSL F L V fuel out e) (n : Nat) : VSL F { L with fu := i64c n } V n out e := ⟨h.p, h.pb, h.c, h.e, h.eb, h.o, h.t, h.sb, h.n, rfl, h.z, h.ec⟩
theorem Win.get {α : Type} {l xs : List α} {a i : Nat} {x : α} (h : Win l a xs) (hx : xs[i]? = some x) : l[a + i]? = some x := h.2 i x hx
end
section
variable {C : VC} {w w' u : World} {ow ow' : Nat → Nat} {V : VS} {e fuel t : Nat} {out : Str} {T : List Tb} {Vv : Nat → Value} {U : Nat → Nat → Value} {L : VL} {x : VTh} {G : Nat → Prop}
theorem VW.far (h : VW C w ow V e fuel out T Vv U) (f : Fram G w w') (hn : ∀ b, vtT (ow b) → b < w.heap.size → ¬ G b) (hE : Xt w ow ow') (hd : ∀ b, w'.heap.size ≤ b → ow' b = 66) : VW C w' ow' V e fuel out T Vv U := by
  obtain ⟨L, h1, h2⟩ := h.ex
  exact ⟨⟨L, h1.far f (fun b q l => hn b (.inl q) l) hE hd, h2⟩, h.tb.far f (fun b q l => hn b (.inr q) l) hE, h.nm.far f (fun b q l => hn b (.inl q) l) hE, h.hp, h.fu, h.co, h.cb, h.eb⟩
theorem VW.df (h : VW C w ow V e fuel out T Vv U) : ∀ b, w.heap.size ≤ b → ow b = 66 := by
  obtain ⟨L, h1, h2⟩ := h.ex
  exact h1.df
theorem VW.thruN (h : VW C w ow V e fuel out T Vv U) (f : Fram none' w w') : VW C w' ow V e fuel out T Vv U := h.far f (fun _ _ _ q => q) (Xt.refl _ _) (fun b hb => h.df b (by have := f.size; omega))
theorem VW.hbput {b : Nat} (h : VW C w ow V e fuel out T Vv U) (f : Fram (one b) w w') (ht : ow b = 66 := by assumption) : VW C w' ow V e fuel out T Vv U :=
  h.far f (fun c q _ z => by have z : c = b := z; rw [z, ht] at q; unfold vtT vmT rtag at q; omega) (Xt.refl _ _) (fun b hb => h.df b (by have := f.size; omega))
theorem VW.dr (h : VW C w ow V e fuel out T Vv U) {d : Nat} : VW C { w with drawn := d } ow V e fuel out T Vv U := h.thruN ((Fram.refl none' _).thenDrew)
theorem VW.lt (h : VW C w ow V e fuel out T Vv U) (hx : V.ths[t]? = some x) : t < 5 := by
  obtain ⟨L, h1, h2⟩ := h.ex
  have := (List.getElem?_eq_some_iff.1 hx).1
  have h3 := h1.nt
  have h4 := h2.n
  omega
/-- the lists of a thread. -/
theorem VOp.sk (op : VOp C.E w ow L Vv U) (vl : VSL C.F L V fuel out e) (hx : V.ths[t]? = some x) (ht : t < 5) : OwT w ow (440 + t) (U t 2) 119 3 x.stack.length (rws pvc x.stack) := by
  have := op.u t ht 2 (by unfold thI; omega)
  rw [(vl.t t x hx).1] at this
  exact this
theorem VOp.fk (op : VOp C.E w ow L Vv U) (vl : VSL C.F L V fuel out e) (hx : V.ths[t]? = some x) (ht : t < 5) : OwT w ow (450 + t) (U t 3) 331 5 x.frs.length (rws frc x.frs.reverse) := by
  have := op.u t ht 3 (by unfold thI; omega)
  rw [(vl.t t x hx).2.1] at this
  exact this
theorem VOp.ok (op : VOp C.E w ow L Vv U) (vl : VSL C.F L V fuel out e) (hx : V.ths[t]? = some x) (ht : t < 5) : OwT w ow (460 + t) (U t 4) 3 1 x.opn.length (x.opn.reverse.map i64c) := by
  have := op.u t ht 4 (by unfold thI; omega)
  rw [(vl.t t x hx).2.2.1] at this
  exact this
theorem VOp.ck (op : VOp C.E w ow L Vv U) (vl : VSL C.F L V fuel out e) : OwT w ow 408 (Vv 8) 413 5 V.cells.length (rws cec V.cells) := by
  have := op.a 8 (.inl (by decide))
  rw [vl.e] at this
  exact this
/-- a thread's row. -/
def thr5 (x : VTh) (U : Nat → Nat → Value) (t : Nat) : List Value := [i64c x.st, i64c x.fn, U t 2, U t 3, U t 4]
theorem VOp.rw5 (vl : VSL C.F L V fuel out e) (hx : V.ths[t]? = some x) : thc L U t = thr5 x U t := by
  unfold thc thr5
  rw [(vl.t t x hx).2.2.2]
theorem thc_up {L : VL} {U : Nat → Nat → Value} {t i : Nat} {v' : Value} (hi : i = 2 ∨ i = 3 ∨ i = 4) : thc L (up1 U t (up1 (U t) i v')) = up1 (thc L U) t ((thc L U t).set i v') := by
  funext k
  by_cases hk : k = t
  · subst hk
    rw [up1_self]
    unfold thc
    rcases hi with rfl | rfl | rfl <;> simp [up1]
  · rw [up1_ne hk]
    unfold thc
    rw [up1_ne hk]
theorem thc_T {L : VL} {U : Nat → Nat → Value} {T' : Nat → Nat → Nat × List Value} : thc { L with T := T' } U = thc L U := rfl
theorem thc_h {L : VL} {U : Nat → Nat → Value} {t : Nat} {v0 v1 : Value} : thc { L with h := up1 L.h t (v0, v1) } U = up1 (thc L U) t [v0, v1, U t 2, U t 3, U t 4] := by
  funext k
  by_cases hk : k = t
  · subst hk
    rw [up1_self]
    unfold thc
    simp [up1]
  · rw [up1_ne hk]
    unfold thc
    simp [up1, hk]
/-- the block of threads: read, written. -/
theorem VOp.trow (op : VOp C.E w ow L Vv U) (vl : VSL C.F L V fuel out e) (hx : V.ths[t]? = some x) : Blk w.heap C.E.tb (vrs (up1 (thc L U) t (thr5 x U t))) 269 := by
  rw [← VOp.rw5 vl hx, up1_id]
  exact op.t
theorem vt_get {L : VL} {U : Nat → Nat → Value} {t o : Nat} {cs : List Value} (hc : cs.length = 5) (ht : t < 5) (ho : o < 5) : (vrs (up1 (thc L U) t cs))[t * 5 + o]? = cs[o]? := vrow_get (thc_len L U) ht hc ho
theorem vt_put {H : Array Obj} {tb : Nat} {v : Value} {L : VL} {U : Nat → Nat → Value} {t o : Nat} {cs : List Value} (hc : cs.length = 5) (ht : t < 5) (ho : o < 5) (hB : Blk H tb ((vrs (up1 (thc L U) t cs)).set (t * 5 + o) v) 269) : Blk H tb (vrs (up1 (thc L U) t (cs.set o v))) 269 := vrow_put (thc_len L U) ht hc ho hB
theorem vt_len {L : VL} {U : Nat → Nat → Value} {t o : Nat} {cs : List Value} (hc : cs.length = 5) (ht : t < 5) (ho : o < 5) : t * 5 + o < (vrs (up1 (thc L U) t cs)).length := by rw [vrs_len (up1_len (thc_len L U) hc)]; omega
end
end Go.Proofs.Qxb6500568aGreatDoor
