import Derived.Test.Qxb6500570aGreatTa
/- A world of books: one book more. -/
namespace Go.Proofs.Qxb6500570aGreat
set_option linter.unusedVariables false
set_option linter.unusedSimpArgs false

theorem OwO.disj {H : Array Obj} {V V' : Value} {e e' : Nat} {xs ys : List Value} (h1 : OwO H V e xs) (h2 : OwO H V' e' ys) (he : e ≠ e') : ∀ b, V.ownBlock = some b → V'.ownBlock = some b → False := by
  intro b q1 q2
  rcases h1 with ⟨e1, _⟩ | ⟨g, off, cap, l, e1, hl, _⟩
  · rw [e1] at q1; cases q1
  · rcases h2 with ⟨e2, _⟩ | ⟨g', off', cap', l', e2, hl', _⟩
    · rw [e2] at q2; cases q2
    · rw [e1] at q1
      rw [e2] at q2
      have h3 : g = b := by simpa [Value.ownBlock] using q1
      have h4 : g' = b := by simpa [Value.ownBlock] using q2
      subst h3
      subst h4
      exact he (hl.uniq hl').2
theorem WS.book {w0 w w2 w3 w4 w5 w6 : World} {ow : Nat → Nat} {wb : Nat} {Vx Vm Vt Vx' Vm' : Value} {L : List EN} {TL : List Tx} {E : EN} (h : WS w0 w ow wb Vx Vm Vt L TL) (F0 : Fram none' w w2) (hE : EnOK w2 (owU ow w (L.length + 1)) L.length E)
    (Gx : Fram (own1 Vx) w2 w3) (Fa : Fram (one wb) w3 w4) (Gm : Fram (own1 Vm) w4 w5) (Fb : Fram (one wb) w5 w6) (ox : OwO w3.heap Vx' 22 (L.map (fun E => ptr E.X.k) ++ [ptr E.X.k])) (nbx : nob Vx Vx' w2) (om : OwO w5.heap Vm' 24 (L.map (fun E => ptr E.Y.k) ++ [ptr E.Y.k])) (nbm : nob Vm Vm' w4) (hB : Blk w6.heap wb [Vx', Vm', Vt] 75) :
    WS w0 w6 (owU (owU ow w (L.length + 1)) w2 0) wb Vx' Vm' Vt (L ++ [E]) TL := by
  have z0 := h.fr.size
  have z1 := F0.size
  have z2 := Gx.size
  have z3 := Fa.size
  have z4 := Gm.size
  have z5 := Fb.size
  have hwb := h.hB.lt
  have h2 := h.farN F0
  have xm2 := h2.ox.disj h2.om (by decide)
  have xt2 := h2.ox.disj h2.ot (by decide)
  have mt2 := h2.om.disj h2.ot (by decide)
  have xw : ∀ b, Vx.ownBlock = some b → b ≠ wb := fun b q => h.ox.ne h.hB (by decide) b q
  have mw : ∀ b, Vm.ownBlock = some b → b ≠ wb := fun b q => h.om.ne h.hB (by decide) b q
  have tw : ∀ b, Vt.ownBlock = some b → b ≠ wb := fun b q => h.ot.ne h.hB (by decide) b q
  have xl : ∀ b, Vx.ownBlock = some b → b < w.heap.size := fun b q => h.ox.lt q
  have ml : ∀ b, Vm.ownBlock = some b → b < w.heap.size := fun b q => h.om.lt q
  have tl : ∀ b, Vt.ownBlock = some b → b < w.heap.size := fun b q => h.ot.lt q
  have xw' : ∀ b, Vx'.ownBlock = some b → b ≠ wb := fun b q => by
    rcases nbx b q with z | z
    · exact xw b z
    · omega
  have mw' : ∀ b, Vm'.ownBlock = some b → b ≠ wb := fun b q => by
    rcases nbm b q with z | z
    · exact mw b z
    · omega
  have xm' : ∀ b, Vx'.ownBlock = some b → Vm.ownBlock = some b → False := fun b q z => by
    rcases nbx b q with y | y
    · exact xm2 b y z
    · have := ml b z; omega
  have FF : Fram (fun b => Vx.ownBlock = some b ∨ b = wb ∨ Vm.ownBlock = some b) w2 w6 := (((Gx.mono (fun k _ q => .inl q)).trans (Fa.mono (fun k _ q => .inr (.inl q)))).trans (Gm.mono (fun k _ q => .inr (.inr q)))).trans (Fb.mono (fun k _ q => .inr (.inl q)))
  have hu : ∀ b, b < w.heap.size → owU (owU ow w (L.length + 1)) w2 0 b = ow b := fun b q => by rw [owU_lt (by omega), owU_lt q]
  have hG0 : ∀ b, (Vx.ownBlock = some b ∨ b = wb ∨ Vm.ownBlock = some b) → ow b = 0 ∧ b < w.heap.size ∧ w0.heap.size ≤ b := fun b q => by
    rcases q with q | q | q
    · exact ⟨h.zx b q, xl b q, h.gx b q⟩
    · rw [q]; exact ⟨h.zb, hwb, h.gb⟩
    · exact ⟨h.zm b q, ml b q, h.gm b q⟩
  refine ⟨hB, ?_, ?_, h2.ot.fram FF (fun b q z => ?_), fun i E2 hi => ?_, ?_, fun b q => ?_, fun b q => ?_, fun b q => ?_, fun b q => ?_, h.gb, fun b q => ?_, fun b q => ?_, h.gt, (h.fr.trans F0).trans' FF (fun k hk he => ?_)⟩
  · rw [List.map_append]
    exact ((ox.fram Fa (fun b q z => xw' b q z)).fram Gm (fun b q z => xm' b q z)).fram Fb (fun b q z => xw' b q z)
  · rw [List.map_append]
    exact om.fram Fb (fun b q z => mw' b q z)
  · rcases z with z | z | z
    · exact xt2 b z q
    · exact tw b q z
    · exact mt2 b z q
  · rcases Nat.lt_or_ge i L.length with q | q
    · rw [List.getElem?_append_left q] at hi
      exact ((h.en i E2 hi).other F0 (ow' := owU ow w (L.length + 1)) (fun _ _ _ q => q) (fun b hb => owU_lt hb)).other FF (fun b y1 y2 y3 => by
        obtain ⟨k1, k2, _⟩ := hG0 b y3
        rw [owU_lt k2, k1] at y2
        omega) (fun b hb => owU_lt hb)
    · have hlt := (List.getElem?_eq_some_iff.1 hi).1
      have : i = L.length := by simp at hlt; omega
      subst this
      rw [List.getElem?_append_right (by omega)] at hi
      simp at hi
      subst hi
      exact hE.other FF (fun b y1 y2 y3 => by
        obtain ⟨k1, k2, _⟩ := hG0 b y3
        rw [owU_lt k2, k1] at y2
        omega) (fun b hb => owU_lt hb)
  · rw [hu _ hwb]; exact h.zb
  · rcases nbx b q with z | z
    · rw [hu b (xl b z)]; exact h.zx b z
    · exact owU_ge z
  · rcases nbm b q with z | z
    · rw [hu b (ml b z)]; exact h.zm b z
    · exact owU_ge (by omega)
  · rw [hu b (tl b q)]; exact h.zt b q
  · rw [hu b (by omega)]; exact h.lw b q
  · rcases nbx b q with z | z
    · exact h.gx b z
    · omega
  · rcases nbm b q with z | z
    · exact h.gm b z
    · omega
  · have := (hG0 k he).2.2
    omega
end Go.Proofs.Qxb6500570aGreat
