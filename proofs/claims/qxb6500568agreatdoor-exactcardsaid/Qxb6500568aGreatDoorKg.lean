import Derived.Test.Qxb6500568aGreatDoorKf
/- A function read. -/
namespace Go.Proofs.Qxb6500568aGreatDoor
open Ieee
set_option linter.unusedVariables false
set_option linter.unusedSimpArgs false
set_option linter.unusedSectionVars false

def VL.appA (L : VL) (i n : Nat) (cs : List Value) : VL := { L with A := up1 L.A i ((L.A i).1 + n, (L.A i).2 ++ cs) }
theorem VL.appA_self (L : VL) (i n : Nat) (cs : List Value) : (L.appA i n cs).A i = ((L.A i).1 + n, (L.A i).2 ++ cs) := up1_self _ _ _
theorem VL.appA_ne (L : VL) {i k n : Nat} {cs : List Value} (h : k ≠ i) : (L.appA i n cs).A k = L.A k := up1_ne h
theorem VL.app_add (L : VL) (i n : Nat) (cs ds : List Value) : (L.appA i n cs).addA i ds = L.appA i (n + 1) (cs ++ ds) := by
  unfold VL.addA VL.appA
  simp only [up1_self, up1_up1]
  rw [List.append_assoc, Nat.add_assoc]
theorem VL.appA_zero (L : VL) (i : Nat) : L.appA i 0 [] = L := by
  unfold VL.appA
  rw [Nat.add_zero, List.append_nil, up1_id]
/-- a function's row. -/
def vpc (f : FS) (a b c : Nat) : List Value := [i64c f.np, i64c f.ns, i64c a, i64c f.ups.length, i64c b, i64c f.ks.length, i64c c, i64c f.code.length]
def VL.proto (L : VL) (f : FS) : VL := (((L.appA 3 f.ups.length (rws upc f.ups)).appA 4 f.ks.length (rws pvc f.ks)).appA 5 f.code.length (rws inc f.code)).appA 2 1 (vpc f (L.A 3).1 (L.A 4).1 (L.A 5).1)
section
variable {E : VE} {w : World} {ow : Nat → Nat} {L : VL} {rb gb cap i : Nat} {l : List Value} {s : Str}
theorem const198 (h : VMV E w ow L) (hr : RdV w rb gb cap l s i) (trb : ow rb = 66) (tgb : ow gb = 66) {v : PV} (hv : KOK v) (hb : Bts s i (kby v)) (hmo : i + (kby v).length < s.length) (hn : (L.A 4).1 ≤ 100000) :
    Ret Tryz.prog 198 [ptr E.mb, ptr rb] w (fun r w' => r = .tuple #[] ∧ RdK E w ow (L.addA 4 (pvc v)) rb gb cap l s (i + (kby v).length) w') := by
  rw [kby_len] at hmo ⊢
  rcases hv with ⟨n, rfl, h1, h2⟩ | ⟨t, rfl, h1⟩
  · exact constN198 h hr trb tgb h1 h2 hb hn
  · have e : kb (vStr t) = 2 + t.length := rfl
    rw [e] at hmo ⊢
    rw [← Nat.add_assoc] at hmo ⊢
    exact constS198 h hr trb tgb h1 hb hmo hn
/-- the reader under way. -/
structure RdL (E : VE) (w : World) (ow : Nat → Nat) (L : VL) (rb gb cap : Nat) (l : List Value) (s : Str) (i b4 : Nat) (u : World) : Prop where
  ex : ∃ ow', Xt w ow ow' ∧ VMV E u ow' L ∧ RdV u rb gb cap l s i ∧ Fram (fun b => vmT (ow b) ∨ b = rb) w u ∧ ow' b4 = 66 ∧ b4 < u.heap.size
theorem RdL.step {b4 i' : Nat} {L' : VL} {u u' : World} (h : RdL E w ow L rb gb cap l s i b4 u) (hc : ∀ ow', Xt w ow ow' → VMV E u ow' L → RdV u rb gb cap l s i → RdK E u ow' L' rb gb cap l s i' u') : RdL E w ow L' rb gb cap l s i' b4 u' := by
  obtain ⟨ow1, x1, h1, r1, f1, t1, q1⟩ := h.ex
  obtain ⟨ow2, x2, h2, r2, f2⟩ := (hc ow1 x1 h1 r1).ex
  exact ⟨ow2, x1.trans f1.size x2, h2, r2, f1.trans' f2 (fun b hb z => z.elim (fun z => .inl (by have z : vmT (ow1 b) := z; rw [x1 b hb] at z; exact z)) .inr), by rw [x2 b4 q1]; exact t1, by have := f2.size; omega⟩
end
end Go.Proofs.Qxb6500568aGreatDoor
