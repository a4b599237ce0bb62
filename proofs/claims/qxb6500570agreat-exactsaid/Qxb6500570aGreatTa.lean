import Derived.Test.Qxb6500570aGreatSb
/- A world of books. -/
namespace Go.Proofs.Qxb6500570aGreat
set_option linter.unusedVariables false
set_option linter.unusedSimpArgs false

structure EN where
  X : BB
  Y : MK
  l1 : Nat
  h1 : Nat
  l2 : Nat
  h2 : Nat
  T : List Tx
  past : List (List Tx)
  next : List (List Tx)
  V1 : Value
  V2 : Value
  sb : Nat
/-- A book and its model; ow tells whose a block is. -/
structure EnOK (w : World) (ow : Nat → Nat) (i : Nat) (E : EN) : Prop where
  hx : BaB E.l1 E.h1 E.X
  hb : MkB E.l2 E.h2 E.Y
  hl : E.h1 ≤ E.l2
  hz : E.h2 ≤ w.heap.size
  bx : BaV w E.X E.T E.past E.next
  my : BkV w E.Y (fun b => ow b = i + 1) E.l2 E.h2 E.T E.past E.next E.V1 E.V2 E.sb
  o1 : ∀ b, E.l1 ≤ b → b < E.h1 → ow b = i + 1
  o2 : ∀ b, E.l2 ≤ b → b < E.h2 → ow b = i + 1
  v1 : ∀ b, E.V1.ownBlock = some b → ow b = i + 1
  v2 : ∀ b, E.V2.ownBlock = some b → ow b = i + 1
  so : ow E.sb = i + 1
theorem BkV.own {w : World} {Y : MK} {O O' : Nat → Prop} {lo hi : Nat} {T : List Tx} {past next : List (List Tx)} {V1 V2 : Value} {sb : Nat} (h : BkV w Y O lo hi T past next V1 V2 sb) (hO : ∀ b, b < w.heap.size → O b → O' b) : BkV w Y O' lo hi T past next V1 V2 sb := by
  obtain ⟨SL, xs, ys, h⟩ := h
  exact ⟨SL, xs, ys, h.own hO⟩
theorem BkV.lts {w : World} {Y : MK} {O : Nat → Prop} {lo hi : Nat} {T : List Tx} {past next : List (List Tx)} {V1 V2 : Value} {sb : Nat} (h : BkV w Y O lo hi T past next V1 V2 sb) : (∀ b, V1.ownBlock = some b → b < w.heap.size) ∧ (∀ b, V2.ownBlock = some b → b < w.heap.size) ∧ sb < w.heap.size := by
  obtain ⟨SL, xs, ys, h⟩ := h
  exact ⟨fun b q => h.o1.lt q, fun b q => h.o2.lt q, h.hv.mv.hV.lt⟩
theorem EnOK.other {w w' : World} {ow ow' : Nat → Nat} {j : Nat} {E : EN} {G : Nat → Prop} (h : EnOK w ow j E) (F : Fram G w w') (hG : ∀ b, b < w.heap.size → ow b = j + 1 → ¬ G b) (ho : ∀ b, b < w.heap.size → ow' b = ow b) : EnOK w' ow' j E := by
  have h0 := h.hb.loh
  have hk := h.hb.hk
  have hk2 := h.hb.kh
  have hl := h.hl
  have hz := h.hz
  have hsz := F.size
  obtain ⟨q1, q2, q3⟩ := h.my.lts
  refine ⟨h.hx, h.hb, h.hl, by omega, h.bx.far h.hx F (fun b z1 z2 => hG b (by omega) (h.o1 b z1 z2)), ?_, fun b z1 z2 => ?_, fun b z1 z2 => ?_, fun b z => ?_, fun b z => ?_, ?_⟩
  · have := h.my.far h.hb F (fun b z1 z2 => hG b (by omega) (h.o2 b z1 z2)) (fun b z => hG b (q1 b z) (h.v1 b z)) (fun b z => hG b (q2 b z) (h.v2 b z)) (hG _ q3 h.so) (fun b S _ z1 z2 => hG b z2.lt z1)
    obtain ⟨SL, xs, ys, h5⟩ := h.my
    obtain ⟨SL', xs', ys', h6⟩ := this
    have h7 := (h5.own (O' := fun b => ow' b = j + 1) (fun b hb q => by rw [ho b hb]; exact q)).far h.hb F (fun b z1 z2 => hG b (by omega) (h.o2 b z1 z2)) (fun b z => hG b (q1 b z) (h.v1 b z)) (fun b z => hG b (q2 b z) (h.v2 b z)) (hG _ q3 h.so) (fun b S _ z1 z2 => hG b z2.lt (by rw [← ho b z2.lt]; exact z1))
    exact ⟨SL, xs, ys, h7⟩
  · rw [ho b (by omega)]; exact h.o1 b z1 z2
  · rw [ho b (by omega)]; exact h.o2 b z1 z2
  · rw [ho b (q1 b z)]; exact h.v1 b z
  · rw [ho b (q2 b z)]; exact h.v2 b z
  · rw [ho _ q3]; exact h.so
structure WS (w0 w : World) (ow : Nat → Nat) (wb : Nat) (Vx Vm Vt : Value) (L : List EN) (TL : List Tx) : Prop where
  hB : Blk w.heap wb [Vx, Vm, Vt] 75
  ox : OwO w.heap Vx 22 (L.map (fun E => ptr E.X.k))
  om : OwO w.heap Vm 24 (L.map (fun E => ptr E.Y.k))
  ot : OwO w.heap Vt 9 (TL.map S)
  en : ∀ (i : Nat) (E : EN), L[i]? = some E → EnOK w ow i E
  zb : ow wb = 0
  zx : ∀ b, Vx.ownBlock = some b → ow b = 0
  zm : ∀ b, Vm.ownBlock = some b → ow b = 0
  zt : ∀ b, Vt.ownBlock = some b → ow b = 0
  lw : ∀ b, b < w0.heap.size → ow b = 0
  gb : w0.heap.size ≤ wb
  gx : ∀ b, Vx.ownBlock = some b → w0.heap.size ≤ b
  gm : ∀ b, Vm.ownBlock = some b → w0.heap.size ≤ b
  gt : ∀ b, Vt.ownBlock = some b → w0.heap.size ≤ b
  fr : Fram none' w0 w
def owU (ow : Nat → Nat) (w : World) (n : Nat) : Nat → Nat := fun b => if b < w.heap.size then ow b else n
theorem owU_lt {ow : Nat → Nat} {w : World} {n b : Nat} (h : b < w.heap.size) : owU ow w n b = ow b := if_pos h
theorem owU_ge {ow : Nat → Nat} {w : World} {n b : Nat} (h : w.heap.size ≤ b) : owU ow w n b = n := if_neg (by omega)
/-- Nothing that is owned is written. -/
theorem WS.farN {w0 w w' : World} {ow : Nat → Nat} {wb : Nat} {Vx Vm Vt : Value} {L : List EN} {TL : List Tx} (h : WS w0 w ow wb Vx Vm Vt L TL) (F : Fram none' w w') : WS w0 w' ow wb Vx Vm Vt L TL :=
  ⟨F.blkN h.hB, h.ox.fram F (fun _ _ q => q), h.om.fram F (fun _ _ q => q), h.ot.fram F (fun _ _ q => q), fun i E hE => (h.en i E hE).other F (fun _ _ _ q => q) (fun _ _ => rfl), h.zb, h.zx, h.zm, h.zt, h.lw, h.gb, h.gx, h.gm, h.gt, h.fr.trans F⟩
/-- Book i has gone on. -/
theorem WS.set {w0 w w' : World} {ow : Nat → Nat} {wb i : Nat} {Vx Vm Vt : Value} {L : List EN} {TL : List Tx} {E E' : EN} {G : Nat → Prop} (h : WS w0 w ow wb Vx Vm Vt L TL) (hE : L[i]? = some E) (F : Fram G w w') (hG : ∀ b, b < w.heap.size → G b → ow b = i + 1) (hk : E'.X = E.X) (hk2 : E'.Y = E.Y) (hE' : EnOK w' (owU ow w (i + 1)) i E') : WS w0 w' (owU ow w (i + 1)) wb Vx Vm Vt (L.set i E') TL := by
  have hn : ∀ b, b < w.heap.size → ow b = 0 → ¬ G b := fun b h1 h2 q => by have := hG b h1 q; omega
  have hwb := h.hB.lt
  have hs0 := h.fr.size
  have hi := (List.getElem?_eq_some_iff.1 hE).1
  have e1 : (L.set i E').map (fun E => ptr E.X.k) = L.map (fun E => ptr E.X.k) := by
    rw [List.map_set, hk]
    apply List.ext_getElem?
    intro j
    rw [List.getElem?_set]
    split
    · rename_i q; subst q; rw [if_pos (by simpa using hi), List.getElem?_map, hE]; rfl
    · rfl
  have e2 : (L.set i E').map (fun E => ptr E.Y.k) = L.map (fun E => ptr E.Y.k) := by
    rw [List.map_set, hk2]
    apply List.ext_getElem?
    intro j
    rw [List.getElem?_set]
    split
    · rename_i q; subst q; rw [if_pos (by simpa using hi), List.getElem?_map, hE]; rfl
    · rfl
  refine ⟨F.blkF h.hB (hn _ hwb h.zb), by rw [e1]; exact h.ox.fram F (fun b q => hn b (h.ox.lt q) (h.zx b q)), by rw [e2]; exact h.om.fram F (fun b q => hn b (h.om.lt q) (h.zm b q)), h.ot.fram F (fun b q => hn b (h.ot.lt q) (h.zt b q)), fun j E2 hj => ?_, ?_, fun b q => ?_, fun b q => ?_, fun b q => ?_, fun b q => ?_, h.gb, h.gx, h.gm, h.gt, h.fr.trans' F (fun k hk he => hn k (by omega) (h.lw k hk) he)⟩
  · by_cases e : i = j
    · subst e
      rw [List.getElem?_set_self hi] at hj
      cases hj
      exact hE'
    · rw [List.getElem?_set_ne e] at hj
      exact (h.en j E2 hj).other F (fun b z1 z2 z3 => by have := hG b z1 z3; omega) (fun b hb => owU_lt hb)
  · rw [owU_lt hwb]; exact h.zb
  · rw [owU_lt (h.ox.lt q)]; exact h.zx b q
  · rw [owU_lt (h.om.lt q)]; exact h.zm b q
  · rw [owU_lt (h.ot.lt q)]; exact h.zt b q
  · rw [owU_lt (by omega)]; exact h.lw b q
/-- The real book and its model have done the same. -/
theorem WS.pair {w0 w w1 w2 : World} {ow : Nat → Nat} {wb i : Nat} {Vx Vm Vt : Value} {L : List EN} {TL : List Tx} {E : EN} {T' : List Tx} {p' n' : List (List Tx)} (h : WS w0 w ow wb Vx Vm Vt L TL) (hE : L[i]? = some E) (F1 : Fram (rng E.l1 E.h1) w w1) (hX : BaV w1 E.X T' p' n') (hP : MkP w1 w2 E.Y (fun b => ow b = i + 1) E.l2 E.h2 T' p' n' E.V1 E.V2 E.sb) : ∃ E', WS w0 w2 (owU ow w (i + 1)) wb Vx Vm Vt (L.set i E') TL := by
  obtain ⟨⟨V1', V2', sb', hB, n1, n2, ns⟩, F2⟩ := hP
  have hO := h.en i E hE
  have s1 := F1.size
  have s2 := F2.size
  have hz := hO.hz
  have h0 := hO.hb.loh
  have hk := hO.hb.hk
  have hk2 := hO.hb.kh
  have hl := hO.hl
  obtain ⟨q1, q2, q3⟩ := hO.my.lts
  have F : Fram (fun b => rng E.l1 E.h1 b ∨ MkS E.l2 E.h2 E.V1 E.V2 b) w w2 := (F1.mono (fun k _ q => .inl q)).trans (F2.mono (fun k _ q => .inr q))
  refine ⟨{ E with T := T', past := p', next := n', V1 := V1', V2 := V2', sb := sb' }, h.set hE F (fun b hb q => ?_) rfl rfl ?_⟩
  · rcases q with q | q | q | q
    · exact hO.o1 b q.1 q.2
    · exact hO.o2 b q.1 q.2
    · exact hO.v1 b q
    · exact hO.v2 b q
  · have hu : ∀ b, ow b = i + 1 → owU ow w (i + 1) b = i + 1 := fun b q => by unfold owU; split; exact q; rfl
    refine ⟨hO.hx, hO.hb, hO.hl, by show E.h2 ≤ _; omega, BaV.model hO.hx hO.hb hO.hl hX hO.my F2, hB.own (fun b _ q => ?_), fun b z1 z2 => hu b (hO.o1 b z1 z2), fun b z1 z2 => hu b (hO.o2 b z1 z2), fun b z => ?_, fun b z => ?_, ?_⟩
    · rcases q with q | q
      · exact hu b q
      · exact owU_ge (by omega)
    · rcases n1 b z with q | q
      · exact hu b (hO.v1 b q)
      · exact owU_ge (by omega)
    · rcases n2 b z with q | q
      · exact hu b (hO.v2 b q)
      · exact owU_ge (by omega)
    · rcases ns with q | q
      · show owU ow w (i + 1) sb' = i + 1
        rw [q]; exact hu _ hO.so
      · exact owU_ge (show w.heap.size ≤ sb' by omega)
/-- The real book alone has been written; it reads as it did. -/
theorem WS.real {w0 w w1 : World} {ow : Nat → Nat} {wb i : Nat} {Vx Vm Vt : Value} {L : List EN} {TL : List Tx} {E : EN} (h : WS w0 w ow wb Vx Vm Vt L TL) (hE : L[i]? = some E) (F1 : Fram (rng E.l1 E.h1) w w1) (hX : BaV w1 E.X E.T E.past E.next) : ∃ E', WS w0 w1 (owU ow w (i + 1)) wb Vx Vm Vt (L.set i E') TL := by
  have hO := h.en i E hE
  exact h.pair hE F1 hX ⟨⟨E.V1, E.V2, E.sb, (hO.my.real hO.hb hO.hl F1).own (fun b _ q => .inl q), nob.refl _ _, nob.refl _ _, .inl rfl⟩, Fram.refl _ _⟩
def WI (w0 w : World) (wb N : Nat) : Prop := ∃ ow Vx Vm Vt L TL, WS w0 w ow wb Vx Vm Vt L TL ∧ L.length + TL.length ≤ N
theorem WI.fr {w0 w : World} {wb N : Nat} (h : WI w0 w wb N) : Fram none' w0 w := by
  obtain ⟨ow, Vx, Vm, Vt, L, TL, h, _⟩ := h
  exact h.fr
/-- One text more. -/
theorem WS.text {w0 w w1 w2 : World} {ow : Nat → Nat} {wb : Nat} {Vx Vm Vt Vt' : Value} {L : List EN} {TL : List Tx} {s : Tx} (h : WS w0 w ow wb Vx Vm Vt L TL) (G : Fram (own1 Vt) w w1) (F : Fram (one wb) w1 w2) (ot : OwO w1.heap Vt' 9 (TL.map S ++ [S s])) (hnb : nob Vt Vt' w) (hB : Blk w2.heap wb [Vx, Vm, Vt'] 75) : WS w0 w2 (owU ow w 0) wb Vx Vm Vt' L (TL ++ [s]) := by
  have s1 := G.size
  have s2 := F.size
  have hs0 := h.fr.size
  have hwb := h.hB.lt
  have tw : ∀ b, Vt.ownBlock = some b → b ≠ wb := fun b q => h.ot.ne h.hB (by decide) b q
  have tw' : ∀ b, Vt'.ownBlock = some b → b ≠ wb := fun b q => by
    rcases hnb b q with z | z
    · exact tw b z
    · omega
  have FF : Fram (fun b => Vt.ownBlock = some b ∨ b = wb) w w2 := (G.mono (fun k _ q => .inl q)).trans (F.mono (fun k _ q => .inr q))
  have hx1 : ∀ b, Vx.ownBlock = some b → ¬ (Vt.ownBlock = some b ∨ b = wb) := fun b q z => by
    rcases z with z | z
    · rcases h.ot with ⟨e, _⟩ | ⟨g, off, cap, l, e, hl, _⟩
      · rw [e] at z; cases z
      · rw [e] at z
        have : g = b := by simpa [Value.ownBlock] using z
        subst this
        exact h.ox.ne hl (by decide) g q rfl
    · exact h.ox.ne h.hB (by decide) b q z
  have hm1 : ∀ b, Vm.ownBlock = some b → ¬ (Vt.ownBlock = some b ∨ b = wb) := fun b q z => by
    rcases z with z | z
    · rcases h.ot with ⟨e, _⟩ | ⟨g, off, cap, l, e, hl, _⟩
      · rw [e] at z; cases z
      · rw [e] at z
        have : g = b := by simpa [Value.ownBlock] using z
        subst this
        exact h.om.ne hl (by decide) g q rfl
    · exact h.om.ne h.hB (by decide) b q z
  refine ⟨hB, h.ox.fram FF hx1, h.om.fram FF hm1, ?_, fun i E hE => (h.en i E hE).other FF (fun b z1 z2 z3 => ?_) (fun b hb => owU_lt hb), ?_, fun b q => ?_, fun b q => ?_, fun b q => ?_, fun b q => ?_, h.gb, h.gx, h.gm, fun b q => ?_, h.fr.trans' FF (fun k hk he => ?_)⟩
  · rw [List.map_append]; exact ot.fram F (fun b q z => tw' b q z)
  · rcases z3 with z | z
    · have := h.zt b z; omega
    · rw [z, h.zb] at z2; omega
  · rw [owU_lt hwb]; exact h.zb
  · rw [owU_lt (h.ox.lt q)]; exact h.zx b q
  · rw [owU_lt (h.om.lt q)]; exact h.zm b q
  · rcases hnb b q with z | z
    · rw [owU_lt (h.ot.lt z)]; exact h.zt b z
    · exact owU_ge z
  · rw [owU_lt (by omega)]; exact h.lw b q
  · rcases hnb b q with z | z
    · exact h.gt b z
    · omega
  · rcases he with z | z
    · have := h.gt k z; omega
    · have := h.gb; omega
end Go.Proofs.Qxb6500570aGreat
