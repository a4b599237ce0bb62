import Derived.Test.Qxb6500568aGreatDoorHy
/- The machine: calls, built in. -/
namespace Go.Proofs.Qxb6500568aGreatDoor
open Ieee
set_option linter.unusedVariables false
set_option linter.unusedSimpArgs false
set_option linter.unusedSectionVars false

section
variable {C : VC} {w u : World} {ow : Nat → Nat} {a : AS} {y : ATh} {gs : List AFr} {g : AFr} {vars : List PV} {fg fc n : Nat} {V : VS} {κ : List Nat} {Vv : Nat → Value} {U : Nat → Nat → Value} {x : VTh} {f : VFr} {fs : List VFr} {zs l : List PV} {fn : PV}
theorem apush2_mk (hc : a.cur < a.ths.length) (v0 v1 : PV) : apush2 v0 v1 (mkA a y gs g vars) = mkA a y gs { g with ops := v1 :: v0 :: g.ops } vars := by
  unfold apush2
  rw [mk_th hc, mk_setT hc]
  rfl
theorem AO.an (o : AO C fg fc w ow a y gs g vars V κ Vv U x f fs) : AN C fg fc x.stack.length w ow (mkA a y gs g vars) := ⟨V, κ, Vv, U, o.v, o.z, by rw [mk_th o.hc]; exact o.hf, x, o.t.hx, rfl⟩
theorem AN.selfN {s : AS} (h : AN C fg fc n w ow s) : Fram none' w w := Fram.refl _ _
theorem AN.open (h : AN C fg fc n w ow (mkA a y gs g vars)) (hc : a.cur < a.ths.length) : ∃ V κ Vv U x f fs, AO C fg fc w ow a y gs g vars V κ Vv U x f fs ∧ x.stack.length = n := by
  obtain ⟨V, κ, Vv, U, h1, h2, h3, x, hx, hn⟩ := h
  obtain ⟨x2, f2, fs2, T2⟩ := h2.top hc
  have q1 := T2.hx
  rw [show V.ths[a.cur]? = some x from hx] at q1
  injection q1 with q1
  subst q1
  rw [mk_th hc] at h3
  exact ⟨V, κ, Vv, U, x, f2, fs2, AO.of h1 h2 hc T2.hx T2.hf h3, hn⟩
theorem AO.cut (o : AO C fg fc w ow a y gs g vars V κ Vv U x f fs) (ho : g.ops = zs.reverse ++ fn :: l) : ∃ sg sc lT, Blk w.heap C.E.tb lT 269 ∧ lT.length = 25 ∧ lT[a.cur * 5 + 2]? = some (.slice (some ⟨sg, 0, none⟩) x.stack.length sc) ∧ x.stack.length ≤ sc ∧
    ∀ u q, f.base + g.slots.length + l.length = q → Fram (one C.E.tb) w u → Blk u.heap C.E.tb (lT.set (a.cur * 5 + 2) (.slice (some ⟨sg, 0, none⟩) q sc)) 269 → AM C fg fc u ow (mkA a y gs { g with ops := l } vars) := by
  have hln := o.t.ln
  have hst := o.t.st
  rw [ho, List.reverse_append, List.reverse_cons, List.reverse_reverse] at hst
  have hlo := congrArg List.length ho
  simp only [List.length_append, List.length_reverse, List.length_cons] at hlo
  obtain ⟨sg, sc, hU⟩ := o.sg (by omega)
  obtain ⟨lS, hB, ts, hls, hcs, hrw, -⟩ := o.v.stkR o.t.hx hU
  obtain ⟨lT, hT, l25, -, -, hT2, -, -, law, -⟩ := o.v.thA o.t.hx
  have hT2 := hT2 2 (.inl rfl)
  have hU2 := hU
  rw [hU] at hT2
  refine ⟨sg, sc, lT, hT, l25, hT2, hcs, fun u q hq fr hB2 => ?_⟩
  have htl : (x.stack.take (f.base + g.slots.length)).length = f.base + g.slots.length := by rw [List.length_take]; omega
  have e1 : x.stack.take q = x.stack.take (f.base + g.slots.length) ++ l.reverse := by
    obtain ⟨A, hA⟩ : ∃ A, A = x.stack.take (f.base + g.slots.length) := ⟨_, rfl⟩
    rw [← hA] at hst htl ⊢
    rw [hst, show A ++ (l.reverse ++ [fn] ++ zs) = (A ++ l.reverse) ++ ([fn] ++ zs) by simp only [List.append_assoc]]
    exact List.take_left' (by rw [List.length_append, htl, List.length_reverse]; exact hq)
  have e2 : (x.stack.take q).length = q := by rw [List.length_take]; omega
  have hv := law u (x.stack.take q) (some ⟨sg, 0, none⟩) sc (by rw [e2]) hU fr (by rw [e2]; exact hB2)
  have e3 : ({ x with stack := x.stack.take q, frs := { f with pc := f.pc } :: fs } : VTh) = { x with stack := x.stack.take q } := by rw [o.t.hf]
  have := o.cl (p := f.pc) (l := l) (st := x.stack.take q) e1 (by rw [e3]; exact hv) (by rw [up1_self, up1_ne (by decide)])
  rw [show ({ g with ops := l, pc := f.pc } : AFr) = { g with ops := l } by rw [o.t.pc]] at this
  exact this
end
end Go.Proofs.Qxb6500568aGreatDoor
