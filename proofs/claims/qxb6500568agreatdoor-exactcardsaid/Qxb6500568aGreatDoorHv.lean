import Derived.Test.Qxb6500568aGreatDoorHu
/- The machine: calls. -/
namespace Go.Proofs.Qxb6500568aGreatDoor
open Ieee
set_option linter.unusedVariables false
set_option linter.unusedSimpArgs false
set_option linter.unusedSectionVars false

section
variable {P : Program} {n : Nat} {e : Nat → Option Value} {w : World}
/-- a slice with three bounds. -/
theorem ro_slice3 {t et k b o len cap l m h : Nat} {q q' q2 : IntKind} {x y z y2 : Operand} (hx : evO n e x = some (.slice (some ⟨b, o, none⟩) len cap)) (hy : evO n e y = some (.int q (l : Int))) (hz : evO n e z = some (.int q' (h : Int))) (h2 : evO n e y2 = some (.int q2 (h : Int))) (ht : selB P t et k = true)
    (h1 : h = l + m) (hc : h ≤ cap) : RO P n e w (.slice t x (some y) (some z) (some y2)) (.slice (some ⟨b, if m = 0 then o else o + l * k, none⟩) m m) := by
  intro ds dst ty ps af g
  obtain ⟨t1, t2⟩ := selB_spec ht
  have hlc : l ≤ h := by omega
  have e1 : (if m = 0 then o else o + l * k) = if h = l then o else o + l * k := by
    by_cases q : m = 0
    · rw [if_pos q, if_pos (by omega)]
    · rw [if_neg q, if_neg (by omega)]
  have e2 : m = h - l := by omega
  have e3 : (if h = l then some (⟨b, o, none⟩ : Addr) else some ⟨b, o + l * k, none⟩) = some ⟨b, if h = l then o else o + l * k, none⟩ := by split <;> rfl
  rw [e1, e2]
  simp [execOp, evO_eval hx, evO_eval hy, evO_eval hz, evO_eval h2, Instr.sliceAt, run_underlying t1, Instr.slice, Instr.sliceBounds, Instr.sliceBound, asIntOf, hc, hlc, run_sizeOf t2, addr_add, e3]
end
section
variable {C : VC} {w w' w1 u u1 u2 : World} {ow ow' ow1 : Nat → Nat} {s : AS} {a : AS} {y : ATh} {gs : List AFr} {g : AFr} {vars : List PV} {fg fc : Nat} {V V' : VS} {κ : List Nat} {Vv : Nat → Value} {U U' : Nat → Nat → Value} {x x' : VTh} {f f' : VFr} {fs fs' : List VFr} {L : VL} {e fuel t : Nat} {out : Str} {T : List Tb}
theorem AO.of (hv : VW C u ow' V' 0 a.fuel a.out a.tabs Vv U') (hz : RZ (Psf C.F) V' (mkA a y gs g vars) κ) (hc : a.cur < a.ths.length) (hx : V'.ths[a.cur]? = some x') (hf : x'.frs = f' :: fs') (h3 : U' a.cur 3 = .slice (some ⟨fg, 0, none⟩) (gs.length + 1) fc) : AO C fg fc u ow' a y gs g vars V' κ Vv U' x' f' fs' := by
  obtain ⟨V2, κ2, Vv2, U2, x2, f2, fs2, o2⟩ := (show AM C fg fc u ow' (mkA a y gs g vars) from ⟨V', κ, Vv, U', hv, hz, by rw [mk_th hc]; exact h3⟩).open hc
  obtain ⟨x3, f3, fs3, T3⟩ := hz.top hc
  have q1 := T3.hx
  rw [hx] at q1
  injection q1 with q1
  subst q1
  have q2 := T3.hf
  rw [hf] at q2
  injection q2 with q2 q3
  subst q2; subst q3
  exact { v := hv, z := hz, t := T3, hf := h3, hc := hc, ns := o2.ns, dp := o2.dp }
theorem AO.pcS (o : AO C fg fc w ow a y gs g vars V κ Vv U x f fs) : ∃ l, Blk w.heap fg l 331 ∧ ow fg = 450 + a.cur ∧ (l.drop (gs.length * 5)).take 5 = frc f ∧ (gs.length + 1) * 5 ≤ l.length ∧
    ∀ u p, Fram (one fg) w u → Blk u.heap fg (l.set (gs.length * 5 + 1) (i64c p)) 331 → AO C fg fc u ow a y gs { g with pc := p } vars (V.setT a.cur { x with frs := { f with pc := p } :: fs }) κ Vv U { x with frs := { f with pc := p } :: fs } { f with pc := p } fs := by
  obtain ⟨L, op, vl⟩ := o.v.ex
  have hO := op.fk vl o.t.hx o.lt
  have hlen : x.frs.reverse.length = x.frs.length := List.length_reverse
  have hfl : x.frs.length = gs.length + 1 := by rw [o.t.hf, List.length_cons, o.t.nl]
  have hget : x.frs.reverse[gs.length]? = some f := by
    rw [o.t.hf, List.reverse_cons, List.getElem?_append_right (by rw [List.length_reverse, o.t.nl]; exact Nat.le_refl _), List.length_reverse, o.t.nl, Nat.sub_self]; rfl
  have hO2 := hO
  rw [← hlen] at hO
  obtain ⟨g', cap, l, e1, hB, q1, q2, q3, q4, q5⟩ := hO.at frc_len hget
  have hcap := hO.cap e1
  rw [o.hf] at e1
  injection e1 with e2 e3 e4
  injection e2 with e2
  injection e2 with e2
  subst e2; subst e4
  have q6 := q5 _ _ hget
  rw [Nat.zero_add] at q6
  rw [hlen, hfl] at q1
  have hle : (gs.length + 1) * 5 ≤ l.length := by rw [q2]; exact Nat.mul_le_mul_right 5 q1
  refine ⟨l, hB, q4, q6, hle, fun u p fr hBu => ?_⟩
  have hput := OwT.put (w' := u) (ow := ow) (tag := 450 + a.cur) (L := x.frs.reverse) (x' := { f with pc := p }) (cs := [i64c p]) (i := gs.length) (j := 1) (m := 1) frc_len hBu (by rw [hlen, hfl]; exact q1) hcap q2 q3 q4 (by rw [set_td (by omega)]) hget rfl (by decide) rfl
  have hset : x.frs.reverse.set gs.length { f with pc := p } = (({ f with pc := p } : VFr) :: fs).reverse := by
    rw [o.t.hf, List.reverse_cons, List.reverse_cons, ← o.t.nl, ← (List.length_reverse : fs.reverse.length = fs.length)]
    simp
  rw [hset] at hput
  have hl2 : x.frs.reverse.length = (({ f with pc := p } : VFr) :: fs).length := by rw [hlen, o.t.hf]; rfl
  rw [hl2] at hput
  have := o.v.wrT op o.lt (i := 3) (by unfold thI; omega) (fr.mono (fun b _ z => by have z : b = fg := z; rw [z, q4])) (by
    rw [o.hf]
    have e5 : gs.length + 1 = (({ f with pc := p } : VFr) :: fs).length := by rw [List.length_cons, o.t.nl]
    rw [e5]
    exact hput) (vl.frs o.t.hx ({ f with pc := p } :: fs)) rfl
  have hz := o.z.ops o.hc o.t g.ops p
  have e1 : ({ x with stack := x.stack.take (f.base + g.slots.length) ++ g.ops.reverse, frs := { f with pc := p } :: fs } : VTh) = { x with frs := { f with pc := p } :: fs } := by rw [← o.t.st]
  rw [e1] at hz
  exact AO.of this hz o.hc (vset_at o.t.hx) rfl o.hf
/-- what a call finds on the stack. -/
theorem AO.cal (o : AO C fg fc w ow a y gs g vars V κ Vv U x f fs) {zs l : List PV} {fn : PV} (ho : g.ops = zs.reverse ++ fn :: l) : ∃ sg sc lS, U a.cur 2 = .slice (some ⟨sg, 0, none⟩) x.stack.length sc ∧ Blk w.heap sg lS 119 ∧ ow sg = 440 + a.cur ∧ x.stack.length ≤ sc ∧ x.stack.length = f.base + g.slots.length + l.length + 1 + zs.length ∧
    (lS.drop ((f.base + g.slots.length + l.length) * 3)).take 3 = pvc fn ∧ (lS.drop ((f.base + g.slots.length + l.length + 1) * 3)).take (zs.length * 3) = rws pvc zs := by
  have hln := o.t.ln
  have hst := o.t.st
  rw [ho, List.reverse_append, List.reverse_cons, List.reverse_reverse] at hst
  have hlo := congrArg List.length ho
  simp only [List.length_append, List.length_reverse, List.length_cons] at hlo
  obtain ⟨sg, sc, hU⟩ := o.sg (by omega)
  obtain ⟨lS, hB, ts, hls, hcs, hrw, -⟩ := o.v.stkR o.t.hx hU
  have htl : (x.stack.take (f.base + g.slots.length)).length = f.base + g.slots.length := by rw [List.length_take]; omega
  have hfn : x.stack[f.base + g.slots.length + l.length]? = some fn := by
    rw [hst, List.append_assoc, List.getElem?_append_right (by omega), htl, List.getElem?_append_right (by rw [List.length_reverse]; omega), List.length_reverse, show f.base + g.slots.length + l.length - (f.base + g.slots.length) - l.length = 0 by omega]
    rfl
  refine ⟨sg, sc, lS, hU, hB, ts, hcs, by omega, hrw _ _ hfn, ?_⟩
  have hz : ∀ (i : Nat) v, zs[i]? = some v → x.stack[f.base + g.slots.length + l.length + 1 + i]? = some v := fun i v hi => by
    rw [hst, List.append_assoc, List.getElem?_append_right (by omega), htl, List.getElem?_append_right (by rw [List.length_reverse]; omega), List.length_reverse, show f.base + g.slots.length + l.length + 1 + i - (f.base + g.slots.length) - l.length = i + 1 by omega]
    exact hi
  have hlz : f.base + g.slots.length + l.length + 1 + zs.length ≤ x.stack.length := by omega
  generalize f.base + g.slots.length + l.length + 1 = q at *
  clear hst ho hlo hfn
  induction zs generalizing q with
  | nil => rfl
  | cons v zs ih =>
    show _ = pvc v ++ rws pvc zs
    rw [List.length_cons, Nat.add_mul, Nat.one_mul, Nat.add_comm (zs.length * 3) 3]
    have h0 := hrw _ _ (hz 0 v rfl)
    rw [Nat.add_zero] at h0
    have h1 := ih (q + 1) (fun i v hi => by have := hz (i + 1) v hi; rw [show q + 1 + i = q + (i + 1) by omega]; exact this) (by rw [List.length_cons] at hlz; omega)
    rw [List.take_add, h0, List.drop_drop]
    congr 1
    rw [← h1]
    congr 2
    omega
end
end Go.Proofs.Qxb6500568aGreatDoor
