import Derived.Test.Qxb6500568aGreatDoorKk
import Derived.Test.Qxb6500568aGreatDoorDj
/- The machine and its tables. -/
namespace Go.Proofs.Qxb6500568aGreatDoor
open Ieee
set_option linter.unusedVariables false
set_option linter.unusedSimpArgs false
set_option linter.unusedSectionVars false

/-- the machine with its tables. -/
structure VT (E : VE) (nb xb : Nat) (w : World) (ow : Nat → Nat) (L : VL) (T : List Tb) : Prop where
  m : VMV E w ow L
  t : RTab w ow nb xb T
def vtT (t : Nat) : Prop := vmT t ∨ rtag t
theorem vm_rt {t : Nat} (h : vmT t) : ¬ rtag t := fun z => by unfold vmT at h; unfold rtag at z; omega
section
variable {E : VE} {nb xb : Nat} {w u : World} {ow ow' : Nat → Nat} {L L' : VL} {T T' : List Tb}
theorem VT.thruN (h : VT E nb xb w ow L T) (f : Fram none' w u) : VT E nb xb u ow L T := ⟨h.m.thruN f, h.t.farN f⟩
theorem VT.dr (h : VT E nb xb w ow L T) {d : Nat} : VT E nb xb { w with drawn := d } ow L T := h.thruN ((Fram.refl none' _).thenDrew)
/-- the machine turned. -/
theorem VT.mach (h : VT E nb xb w ow L T) (x : Xt w ow ow') (f : Fram (tg ow vmT) w u) (hm : VMV E u ow' L') : VT E nb xb u ow' L' T := ⟨hm, h.t.far f (fun b q _ z => vm_rt z q) x⟩
/-- the tables turned. -/
theorem VT.tabs (h : VT E nb xb w ow L T) (x : Xt w ow ow') (f : Fram (tg ow rtag) w u) (ht : RTab u ow' nb xb T') : VT E nb xb u (cut66 u ow') L T' ∧ Xt w ow (cut66 u ow') :=
  have hx : Xt w ow (cut66 u ow') := fun b hb => by rw [cut66_xt _ _ b (by have := f.size; omega)]; exact x b hb
  ⟨⟨h.m.far f (fun b q _ z => vm_rt q z) hx (cut66_df _ _), ht.far (Fram.refl none' _) (fun _ _ _ q => q) (cut66_xt _ _)⟩, hx⟩
/-- the answer of a call that turns machine and tables. -/
def VTQ (E : VE) (nb xb : Nat) (w : World) (ow : Nat → Nat) (L : VL) (T : List Tb) (u : World) : Prop := ∃ ow', Xt w ow ow' ∧ VT E nb xb u ow' L T ∧ Fram (tg ow vtT) w u
variable {w0 : World} {ow0 : Nat → Nat} {d : Nat}
theorem VTQ.goM (x1 : Xt w0 ow0 ow) (f1 : Fram (tg ow0 vtT) w0 w) (h : VT E nb xb w ow L T) (x : Xt { w with drawn := d } ow ow') (f : Fram (tg ow vmT) { w with drawn := d } u) (hm : VMV E u ow' L') : VTQ E nb xb w0 ow0 L' T u :=
  ⟨ow', x1.trans f1.size x, h.dr.mach x f hm, f1.transG f (fun b hb z => by have z : vmT (ow b) := z; show vtT (ow0 b); rw [← x1 b hb]; exact .inl z)⟩
theorem VTQ.goT (x1 : Xt w0 ow0 ow) (f1 : Fram (tg ow0 vtT) w0 w) (h : VT E nb xb w ow L T) (x : Xt { w with drawn := d } ow ow') (f : Fram (tg ow rtag) { w with drawn := d } u) (ht : RTab u ow' nb xb T') : VTQ E nb xb w0 ow0 L T' u :=
  have k := h.dr.tabs x f ht
  ⟨_, x1.trans f1.size k.2, k.1, f1.transG f (fun b hb z => by have z : rtag (ow b) := z; show vtT (ow0 b); rw [← x1 b hb]; exact .inr z)⟩
end
end Go.Proofs.Qxb6500568aGreatDoor
